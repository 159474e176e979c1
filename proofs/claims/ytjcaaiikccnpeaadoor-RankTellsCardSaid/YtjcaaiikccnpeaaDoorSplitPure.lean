/- The pieces of a text between spaces; plain. -/
import Derived.Test.YtjcaaiikccnpeaaDoorNumBase
import Derived.Lib.SplitLaws
import Derived.Lib.IndexBytes
namespace Go.Proofs.YtjcaaiikccnpeaaDoor
open Go Go.Lib
set_option linter.unusedVariables false

def spL : List UInt8 → List (List UInt8)
  | [] => [[]]
  | c :: r => if c = 32 then [] :: spL r else match spL r with
    | [] => [[c]]
    | x :: y => (c :: x) :: y
theorem spL_none : ∀ l : List UInt8, 32 ∉ l → spL l = [l]
  | [], _ => rfl
  | c :: r, h => by
    rw [List.mem_cons, not_or] at h
    rw [spL, if_neg (fun e => h.1 e.symm), spL_none r h.2]
theorem spL_hit : ∀ (a r : List UInt8), 32 ∉ a → spL (a ++ 32 :: r) = a :: spL r
  | [], r, _ => by rw [List.nil_append, spL, if_pos rfl]
  | c :: a, r, h => by
    rw [List.mem_cons, not_or] at h
    rw [List.cons_append, spL, if_neg (fun e => h.1 e.symm), spL_hit a r h.2]
theorem no_mem {l : List UInt8} {c : UInt8} (h : ∀ k : Nat, l[k]? ≠ some c) : c ∉ l := by
  intro hm
  obtain ⟨k, hk, he⟩ := List.getElem_of_mem hm
  exact h k (by rw [List.getElem?_eq_getElem hk, he])
theorem split_spL : ∀ (n : Nat) (l : List UInt8), l.length ≤ n → splitK [32] 0 (count l [32]) l = spL l ∧ count l [32] + 1 = (spL l).length := by
  intro n
  induction n with
  | zero =>
    intro l hl
    have : l = [] := List.eq_nil_of_length_eq_zero (by omega)
    subst this
    exact ⟨rfl, rfl⟩
  | succ n ih =>
    intro l hl
    have hge := indexByte_ge l 32
    by_cases hm : indexByte l 32 = -1
    · have hi : index l [32] = -1 := by rw [index_one]; exact hm
      have h0 := spL_none l (no_mem (indexByte_none hm))
      rw [count_miss hi, h0]
      exact ⟨rfl, rfl⟩
    · obtain ⟨o, ho⟩ : ∃ o : Nat, indexByte l 32 = o := ⟨(indexByte l 32).toNat, by omega⟩
      have hi : index l [32] = o := by rw [index_one]; exact ho
      obtain ⟨h1, h2⟩ := indexByte_some ho
      obtain ⟨hlt, he⟩ := List.getElem?_eq_some_iff.1 h1
      have hsp : l = l.take o ++ 32 :: l.drop (o + 1) := by
        conv => lhs; rw [← List.take_append_drop o l, List.drop_eq_getElem_cons hlt, he]
      have hno : 32 ∉ l.take o := no_mem (fun k hk => by
        rw [List.getElem?_take] at hk
        split at hk
        · rename_i hko
          exact h2 k hko hk
        · cases hk)
      have hs : spL l = l.take o :: spL (l.drop (o + 1)) := by
        conv => lhs; rw [hsp]
        exact spL_hit _ _ hno
      have hc : count l [32] = 1 + count (l.drop (o + 1)) [32] := count_hit (by simp) hi
      obtain ⟨i1, i2⟩ := ih (l.drop (o + 1)) (by rw [List.length_drop]; omega)
      rw [hc, hs, Nat.add_comm 1]
      refine ⟨?_, by rw [List.length_cons]; omega⟩
      rw [splitK, if_neg (by rw [hi]; intro e; have := beq_iff_eq.1 e; omega), hi]
      simp only [Int.toNat_natCast, Nat.add_zero, List.length_singleton]
      rw [i1]
theorem map_bs (l : List ByteArray) : (l.map (·.data.toList)).map bs = l := by
  induction l with
  | nil => rfl
  | cons x r ih => rw [List.map_cons, List.map_cons, ih]; congr 1
theorem splitB_bs (l : List UInt8) : Lib.splitB ⟨#[32]⟩ 0 (Lib.countB (bs l) ⟨#[32]⟩) (bs l) = (spL l).map bs := by
  rw [← map_bs (Lib.splitB _ _ _ _), splitB_data]
  congr 1
  exact (split_spL _ l (Nat.le_refl _)).1
theorem countB_bs (l : List UInt8) : Lib.countB (bs l) ⟨#[32]⟩ + 1 = (spL l).length := (split_spL _ l (Nat.le_refl _)).2
end Go.Proofs.YtjcaaiikccnpeaaDoor
