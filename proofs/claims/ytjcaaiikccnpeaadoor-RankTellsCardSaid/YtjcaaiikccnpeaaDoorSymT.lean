/- The library's merge of sorted ranges of cards, walked. -/
import Derived.Test.YtjcaaiikccnpeaaDoorSymG0
import Derived.Deep.DeepCutAuto
namespace Go.Proofs.YtjcaaiikccnpeaaDoor
open Go.ChangeShapes Go.WideShapes Go.ChangeAt Go.RowKit Go.Lib
set_option linter.unusedVariables false

theorem sym_to : ∀ k, SymTo k := by
  intro k
  induction k with
  | zero =>
    intro P A B S n g c a m b w hk _ _ _ _ hA _ _ _ _ _ _ _ _
    omega
  | succ k ih =>
    intro P A B S n g c a m b w hk hL ha hm hb hA hB sA sB hn hc hg hC hT
    by_cases h1 : A.length = 1
    · obtain ⟨x, rfl⟩ := List.length_eq_one_iff.1 h1
      exact sym_left P B S x n g c a m b w hL ha hm hb sB hn hc hg hC hT
    by_cases h2 : B.length = 1
    · obtain ⟨x, rfl⟩ := List.length_eq_one_iff.1 h2
      exact sym_right P A S x n g c a m b w hL ha hm hb h1 sA hn hc hg hC hT
    by_cases h3 : (a + b) / 2 < m
    · exact sym_gen1 k ih P A B S n g c a m b w hk hL ha hm hb (by omega) (by omega) sA sB h3 hn hc hg hC hT
    · exact sym_gen0 k ih P A B S n g c a m b w hk hL ha hm hb (by omega) (by omega) sA sB h3 hn hc hg hC hT
end Go.Proofs.YtjcaaiikccnpeaaDoor
