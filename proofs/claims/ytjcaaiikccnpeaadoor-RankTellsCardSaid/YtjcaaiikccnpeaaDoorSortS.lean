/- Clone, and sorting less than twenty cards, walked. -/
import Derived.Test.YtjcaaiikccnpeaaDoorInsWalk
import Derived.Laws.AppendOwn
import Derived.Lib.SliceRun
import Derived.WalkSpells
namespace Go.Proofs.YtjcaaiikccnpeaaDoor
open Go.ChangeShapes Go.WideShapes Go.ChangeAt Go.RowKit Go.Lib
set_option linter.unusedVariables false

/-- the cells of cards -/
def cardCells (l : List Card) : List Value := l.flatMap fun c => (cellsC c).toList
theorem cardCells_length : ∀ l : List Card, (cardCells l).length = l.length * 6
  | [] => rfl
  | c :: l => by
    have := cardCells_length l
    unfold cardCells at this ⊢
    rw [List.flatMap_cons, List.length_append, this, cellsC_length, List.length_cons]
    omega
theorem cardCells_get : ∀ (l : List Card) (j t : Nat), t < 6 → (cardCells l)[j * 6 + t]? = (l[j]?).bind fun c => (cellsC c).toList[t]?
  | [], j, t, _ => by simp [cardCells]
  | c :: l, 0, t, h => by
    unfold cardCells
    rw [List.flatMap_cons, List.getElem?_append_left (by rw [cellsC_length]; omega)]
    simp
  | c :: l, j + 1, t, h => by
    have := cardCells_get l j t h
    unfold cardCells at this ⊢
    rw [List.flatMap_cons, List.getElem?_append_right (by rw [cellsC_length]; omega), cellsC_length, show (j + 1) * 6 + t - 6 = j * 6 + t by omega, this]
    simp
/-- cards that came in: nil, or behind one another from an address on -/
def CRow (w : World) (A : Option Addr) (l : List Card) : Prop := 0 < l.length → ∃ b o, A = some ⟨b, o, none⟩ ∧ ∀ i v, (cardCells l)[i]? = some v → w.cell? ⟨b, o + i, none⟩ = some v
theorem CRow.below {w w' : World} {A : Option Addr} {l : List Card} (h : CRow w A l) (hb : Below w.heap.size w w') : CRow w' A l := by
  intro hp
  obtain ⟨b, o, hA, hc⟩ := h hp
  refine ⟨b, o, hA, fun i v hv => ?_⟩
  exact (hb.cell (World.block_lt_of_cell? w _ (hc i v hv))).trans (hc i v hv)
theorem infoCard2 : (Tryd.prog.info? 38).map (fun i => (i.zero, i.size, i.bytes)) = some (some (.agg (cellsC noC)), 6, 72) := by kernel_rfl
theorem cards_one (l : List Card) : ∀ u ∈ cardCells l, u.oneCell' = true := by
  intro u hu
  simp only [cardCells, List.mem_flatMap] at hu
  obtain ⟨c, _, hu⟩ := hu
  simp only [cellsC, List.mem_cons, List.not_mem_nil, or_false] at hu
  rcases hu with rfl | rfl | rfl | rfl | rfl | rfl <;> rfl
/-- a row of the call's own that holds cards -/
theorem cat_of_own {w : World} {base g c : Nat} {l : List Card} (h : w.ownsRow base 38 6 (.slice (some ⟨g, 0, none⟩) l.length c) l.length (cardCells l)) : CAt w g l ∧ w.there g 0 (l.length * 6) ∧ base ≤ g ∧ g < w.heap.size ∧ l.length ≤ c := by
  rcases h.2 with ⟨hv, _⟩ | ⟨g', cap, cur, hv, hbg, hg, hnc, hcm, hcs, htake⟩
  · cases hv
  · simp only [Value.slice.injEq, Option.some.injEq, Addr.mk.injEq] at hv
    obtain ⟨⟨rfl, _⟩, _, rfl⟩ := hv
    have hcell : ∀ i v, (cardCells l)[i]? = some v → w.cell? ⟨g, i, none⟩ = some v := fun i v hv => by
      rw [cell_of_row w g i cur _ _ hg]
      rw [← htake, List.getElem?_take] at hv
      split at hv
      · simpa using hv
      · cases hv
    refine ⟨fun j d hj t v hv => ?_, fun i hi => ⟨?_, by rw [Nat.zero_add]; exact frozen_of_row _ _ _ _ _ hg⟩, hbg, (Array.getElem?_eq_some_iff.1 hg).1, hnc⟩
    · refine hcell _ _ ?_
      have ht : t < 6 := by have := (List.getElem?_eq_some_iff.1 hv).1; rwa [cellsC_length] at this
      rw [cardCells_get l j t ht, hj]
      exact hv
    · rw [Nat.zero_add, cell_of_row w g i cur _ _ hg, Array.getElem?_eq_getElem (by rw [hcs]; have := Nat.mul_le_mul_right 6 hnc; omega)]
      rfl
def ClonePost (w : World) (l : List Card) (e : Ending) (w' : World) : Prop := ∃ g c, e = .returned (.slice (some ⟨g, 0, none⟩) l.length c) ∧ l.length ≤ c ∧ w.heap.size ≤ g ∧ g < w'.heap.size ∧ CAt w' g l ∧ w'.there g 0 (l.length * 6) ∧ Below w.heap.size w w'
set_option maxRecDepth 100000 in
set_option maxHeartbeats 1000000 in
theorem clone_any (l : List Card) (b o C : Nat) (w : World) (hn : l.length ≤ 1000000) (hl : CRow w (some ⟨b, o, none⟩) l) : Calls Tryd.prog 43 #[.slice (some ⟨b, o, none⟩) l.length C] w (ClonePost w l) := by
  obtain ⟨i0, hi, hz0, hz1, hz2⟩ := info_parts infoCard2
  have hnil : ∀ W, (binOp .eql 35 (.slice (some ⟨b, o, none⟩) l.length C) (.slice none 0 0)).run Tryd.prog W = .ok (.bool false) W := fun W => Lib.run_eql_slice_nil W 35 38 (some ⟨b, o, none⟩) l.length C 0 0 Tryd.underlying35
  have hnews : Hid (∀ j u, (cardCells l)[j]? = some u → (w.alloc (.cells #[] 38)).cell? ((⟨b, o, none⟩ : Addr).add j) = some u) := by
    intro j u hu
    have hlen := (List.getElem?_eq_some_iff.1 hu).1
    rw [cardCells_length] at hlen
    obtain ⟨b', o', hA, hc⟩ := hl (by omega)
    simp only [Option.some.injEq, Addr.mk.injEq] at hA
    obtain ⟨rfl, rfl, _⟩ := hA
    have hadd : (⟨b, o, none⟩ : Addr).add j = ⟨b, o + j, none⟩ := by unfold Addr.add; split <;> simp_all
    have h1 := hc j u hu
    rw [hadd, World.cell?_alloc_lt w _ _ (World.block_lt_of_cell? w _ h1)]
    exact h1
  have hfr : Hid ((w.alloc (.cells #[] 38)).ownsRow w.heap.size 38 6 (.slice (some ⟨w.heap.size, 0, none⟩) 0 0) 0 []) :=
    ⟨by simp, .inr ⟨w.heap.size, 0, #[], rfl, Nat.le_refl _, heap_alloc_new w _, by simp, by unfold maxLen; omega, by simp, by simp⟩⟩
  go_enter Tryd.func43, Tryd.ntmps43
  go_wp2_with (at_builtin; refine wpList_append_own _ rfl _ _ 35 rfl w.heap.size 38 i0 (.agg (cellsC noC)) 6 72 Tryd.underlying35 hi hz0 hz1 hz2 rfl (by decide) _ _ _ rfl hfr.out ⟨b, o, none⟩ l.length C (cardCells l) rfl (cardCells_length l) hnews.out (cards_one l) ?c3 ?c4 ?c5 ?_)
  case c3 => unfold maxLen; omega
  case c4 => omega
  case c5 => simp
  intro v' w' hown hgr hne
  have hbel : Below w.heap.size w w' := ((Below.refl _ _).alloc (Nat.le_refl _) _).grown hgr (by simp) (fun x hx => (hfr.out.lt x hx).1)
  try simp only [Nat.zero_add, List.nil_append] at hown
  have hv : ∃ g c, v' = .slice (some ⟨g, 0, none⟩) l.length c := by
    rcases hown.2 with ⟨h1, h0⟩ | ⟨g, cap, cur, hv, _⟩
    · exact (hne h1).elim
    · exact ⟨g, cap, hv⟩
  obtain ⟨g, c, rfl⟩ := hv
  obtain ⟨h1, h2, h3, h4, h5⟩ := cat_of_own hown
  go_wp2
  go_ret
  exact ⟨g, c, rfl, h5, h3, h4, h1, h2, hbel⟩
def doneP (w : World) (g : Nat) (l : List Card) (n : Nat) (e : Ending) (w' : World) : Prop := e = .returned (.tuple #[]) ∧ CAt w' g l ∧ w'.there g 0 (n * 6) ∧ w.grownBy w' (some g)
/-- less than twenty cards: by insertion alone -/
theorem stable_small (l : List Card) (g c : Nat) (w : World) (hn : l.length < 20) (hc : l.length ≤ c) (hg : g < w.heap.size) (hC : CAt w g l) (hT : w.there g 0 (l.length * 6)) :
    Calls Tryd.prog 60 #[.slice (some ⟨g, 0, none⟩) l.length c, .int .i64 l.length, .func (.func 37) #[] #[]] w (doneP w g (insN 0 (l.length - 1) l) l.length) := by
  have ci := ins_any l g c 0 l.length w (by omega) hc hg hC hT (by omega) (Nat.le_refl _)
  rw [show l.length - 0 - 1 = l.length - 1 by omega] at ci
  have d1 : decide (20 ≤ (l.length : Int)) = false := decide_eq_false (by omega)
  have d2 : decide (20 < (l.length : Int)) = false := decide_eq_false (by omega)
  have d3 : decide (20 ≤ l.length) = false := decide_eq_false (by omega)
  have d4 : decide (20 < l.length) = false := decide_eq_false (by omega)
  clear hC hT
  go_enter Tryd.func60, Tryd.ntmps60
  go_wp2
  go_loopw [7, 8] (fun v7 v8 wr => v7 = .int .i64 0 ∧ v8 = .int .i64 20 ∧ wr = w) (fun _ _ _ => 0)
  case atStart => exact ⟨rfl, rfl, rfl⟩
  case round =>
    obtain ⟨rfl, rfl, rfl⟩ := hrel
    go_wp2_with fail
    refine ci.mono ?_
    rintro e w1 ⟨rfl, h1, h2, h3⟩
    go_wp2
    obtain ⟨wo, hwo⟩ : ∃ wo : World, wo = w1 := ⟨_, rfl⟩
    go_loopw [6] (fun v6 wr => v6 = .int .i64 20 ∧ wr = w1) (fun _ _ => 0)
    case atStart => exact ⟨rfl, rfl⟩
    case round =>
      obtain ⟨rfl, rfl⟩ := hrel
      go_wp2
      go_end0
      exact ⟨rfl, h1, h2, h3⟩
end Go.Proofs.YtjcaaiikccnpeaaDoor
