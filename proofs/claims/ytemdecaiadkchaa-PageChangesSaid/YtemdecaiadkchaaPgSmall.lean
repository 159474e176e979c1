/- small, walked: it answers true. -/
import Derived.Test.YtemdecaiadkchaaPgPure
import Derived.Deep.RegionHeld3
namespace Go.Proofs.Ytemdecaiadkchaa
open Go.ChangeShapes Go.WideShapes Go.ChangeAt Go.RowKit Go.Lib
set_option linter.unusedVariables false
set_option linter.unusedSimpArgs false

theorem cards_new (w : World) (l : List Card) (cs : Array Value) (t : TypeId) (h : cs = (cardCells l).toArray) : CRow (w.alloc (.cells cs t)) (some ⟨w.heap.size, 0, none⟩) l := by
  intro _
  refine ⟨_, 0, rfl, fun i v hv => ?_⟩
  rw [Nat.zero_add, cell_of_row _ _ i _ _ _ (heap_alloc_new w _), h]
  simpa using hv
theorem six0 {w : World} {b j : Nat} {l : List Card} (h : CRow w (some ⟨b, 0, none⟩) l) (q : Nat) (hq : j * 6 = q) {c : Card} (hj : l[j]? = some c) :
    w.cell? ⟨b, q, none⟩ = some (.string (bs c.id)) ∧ w.cell? ⟨b, q + 1, none⟩ = some (.string (bs c.by')) ∧ w.cell? ⟨b, q + 2, none⟩ = some (.int .i64 c.score) ∧ w.cell? ⟨b, q + 3, none⟩ = some (.int .i64 c.time) ∧ w.cell? ⟨b, q + 4, none⟩ = some (.int .i64 c.act) ∧ w.cell? ⟨b, q + 5, none⟩ = some (.string (bs c.rea)) := by
  have := h.sixA hj
  rw [Nat.zero_add, hq] at this
  exact this
set_option maxRecDepth 100000 in
set_option maxHeartbeats 40000000 in
theorem small_any (w : World) : Calls Try.prog 7 #[] w (BoolPost w true) := by
  have cb : ∀ W, Calls Try.prog 13 #[.int .i64 7] W (fun e w' => e = .returned (.agg #[.int .i64 7, .int .i64 0, .int .i64 0, .string ⟨#[]⟩, .bool true]) ∧ Below W.heap.size W w') := fun W => begin_any 7 W
  have n1 : ∀ W, CRow W (some ⟨w.heap.size, 0, none⟩) [⟨[97], [], 3, 0, 0, []⟩, ⟨[98], [], 2, 0, 0, []⟩, ⟨[99], [], 1, 0, 0, []⟩] → w.heap.size < W.heap.size → Calls Try.prog 15 #[.slice (some ⟨w.heap.size, 0, none⟩) 3 3, .agg #[.int .i64 7, .int .i64 0, .int .i64 0, .string ⟨#[]⟩, .bool true], .int .i64 2] W (fun e w' => ∃ A C, e = .returned (.tuple #[.slice A 2 C, .agg #[.int .i64 7, .int .i64 2, .int .i64 0, .string ⟨#[98]⟩, .bool false], .bool true]) ∧ CIn0 w' A [⟨[97], [], 3, 0, 0, []⟩, ⟨[98], [], 2, 0, 0, []⟩] ∧ Below W.heap.size W w') := fun W hr hlt => by
    have := next_any ⟨7, 0, 0, [], true⟩ (some ⟨w.heap.size, 0, none⟩) 3 [⟨[97], [], 3, 0, 0, []⟩, ⟨[98], [], 2, 0, 0, []⟩, ⟨[99], [], 1, 0, 0, []⟩] 2 W (by decide) hr
    refine this.mono fun e w' ⟨A, C, h1, h2, h3⟩ => ⟨A, C, ?_, ?_, h3⟩
    · rw [h1]
      have e1 : pageL ⟨7, 0, 0, [], true⟩ [⟨[97], [], 3, 0, 0, []⟩, ⟨[98], [], 2, 0, 0, []⟩, ⟨[99], [], 1, 0, 0, []⟩] (min (2 : Int) 50).toNat = [⟨[97], [], 3, 0, 0, []⟩, ⟨[98], [], 2, 0, 0, []⟩] := by decide
      have e2 : nextM ⟨7, 0, 0, [], true⟩ [⟨[97], [], 3, 0, 0, []⟩, ⟨[98], [], 2, 0, 0, []⟩] = ⟨7, 2, 0, [98], false⟩ := by decide
      have e3 : moreB ⟨7, 0, 0, [], true⟩ [⟨[97], [], 3, 0, 0, []⟩, ⟨[98], [], 2, 0, 0, []⟩, ⟨[99], [], 1, 0, 0, []⟩] (min (2 : Int) 50).toNat = true := by decide
      rw [e1, e2, e3]
      rfl
    · have e1 : pageL ⟨7, 0, 0, [], true⟩ [⟨[97], [], 3, 0, 0, []⟩, ⟨[98], [], 2, 0, 0, []⟩, ⟨[99], [], 1, 0, 0, []⟩] (min (2 : Int) 50).toNat = [⟨[97], [], 3, 0, 0, []⟩, ⟨[98], [], 2, 0, 0, []⟩] := by decide
      rw [e1] at h2
      exact h2
  have n2 : ∀ W, CRow W (some ⟨w.heap.size, 0, none⟩) [⟨[97], [], 3, 0, 0, []⟩, ⟨[98], [], 2, 0, 0, []⟩, ⟨[99], [], 1, 0, 0, []⟩] → w.heap.size < W.heap.size → Calls Try.prog 15 #[.slice (some ⟨w.heap.size, 0, none⟩) 3 3, .agg #[.int .i64 7, .int .i64 2, .int .i64 0, .string ⟨#[98]⟩, .bool false], .int .i64 2] W (fun e w' => ∃ A C, e = .returned (.tuple #[.slice A 1 C, .agg #[.int .i64 7, .int .i64 1, .int .i64 0, .string ⟨#[99]⟩, .bool false], .bool false]) ∧ CIn0 w' A [⟨[99], [], 1, 0, 0, []⟩] ∧ Below W.heap.size W w') := fun W hr hlt => by
    have := next_any ⟨7, 2, 0, [98], false⟩ (some ⟨w.heap.size, 0, none⟩) 3 [⟨[97], [], 3, 0, 0, []⟩, ⟨[98], [], 2, 0, 0, []⟩, ⟨[99], [], 1, 0, 0, []⟩] 2 W (by decide) hr
    refine this.mono fun e w' ⟨A, C, h1, h2, h3⟩ => ⟨A, C, ?_, ?_, h3⟩
    · rw [h1]
      have e1 : pageL ⟨7, 2, 0, [98], false⟩ [⟨[97], [], 3, 0, 0, []⟩, ⟨[98], [], 2, 0, 0, []⟩, ⟨[99], [], 1, 0, 0, []⟩] (min (2 : Int) 50).toNat = [⟨[99], [], 1, 0, 0, []⟩] := by decide
      have e2 : nextM ⟨7, 2, 0, [98], false⟩ [⟨[99], [], 1, 0, 0, []⟩] = ⟨7, 1, 0, [99], false⟩ := by decide
      have e3 : moreB ⟨7, 2, 0, [98], false⟩ [⟨[97], [], 3, 0, 0, []⟩, ⟨[98], [], 2, 0, 0, []⟩, ⟨[99], [], 1, 0, 0, []⟩] (min (2 : Int) 50).toNat = false := by decide
      rw [e1, e2, e3]
      rfl
    · have e1 : pageL ⟨7, 2, 0, [98], false⟩ [⟨[97], [], 3, 0, 0, []⟩, ⟨[98], [], 2, 0, 0, []⟩, ⟨[99], [], 1, 0, 0, []⟩] (min (2 : Int) 50).toNat = [⟨[99], [], 1, 0, 0, []⟩] := by decide
      rw [e1] at h2
      exact h2
  have n3 : ∀ W, CRow W (some ⟨w.heap.size, 0, none⟩) [⟨[97], [], 3, 0, 0, []⟩, ⟨[98], [], 2, 0, 0, []⟩, ⟨[99], [], 1, 0, 0, []⟩] → w.heap.size < W.heap.size → Calls Try.prog 15 #[.slice (some ⟨w.heap.size, 0, none⟩) 3 3, .agg #[.int .i64 7, .int .i64 1, .int .i64 0, .string ⟨#[99]⟩, .bool false], .int .i64 2] W (fun e w' => ∃ A C, e = .returned (.tuple #[.slice A 0 C, .agg #[.int .i64 7, .int .i64 1, .int .i64 0, .string ⟨#[99]⟩, .bool false], .bool false]) ∧ CIn0 w' A [] ∧ Below W.heap.size W w') := fun W hr hlt => by
    have := next_any ⟨7, 1, 0, [99], false⟩ (some ⟨w.heap.size, 0, none⟩) 3 [⟨[97], [], 3, 0, 0, []⟩, ⟨[98], [], 2, 0, 0, []⟩, ⟨[99], [], 1, 0, 0, []⟩] 2 W (by decide) hr
    refine this.mono fun e w' ⟨A, C, h1, h2, h3⟩ => ⟨A, C, ?_, ?_, h3⟩
    · rw [h1]
      have e1 : pageL ⟨7, 1, 0, [99], false⟩ [⟨[97], [], 3, 0, 0, []⟩, ⟨[98], [], 2, 0, 0, []⟩, ⟨[99], [], 1, 0, 0, []⟩] (min (2 : Int) 50).toNat = [] := by decide
      have e2 : nextM ⟨7, 1, 0, [99], false⟩ [] = ⟨7, 1, 0, [99], false⟩ := by decide
      have e3 : moreB ⟨7, 1, 0, [99], false⟩ [⟨[97], [], 3, 0, 0, []⟩, ⟨[98], [], 2, 0, 0, []⟩, ⟨[99], [], 1, 0, 0, []⟩] (min (2 : Int) 50).toNat = false := by decide
      rw [e1, e2, e3]
      rfl
    · have e1 : pageL ⟨7, 1, 0, [99], false⟩ [⟨[97], [], 3, 0, 0, []⟩, ⟨[98], [], 2, 0, 0, []⟩, ⟨[99], [], 1, 0, 0, []⟩] (min (2 : Int) 50).toNat = [] := by decide
      rw [e1] at h2
      exact h2
  have n4 : ∀ W, CRow W (some ⟨w.heap.size, 0, none⟩) [⟨[97], [], 3, 0, 0, []⟩, ⟨[98], [], 2, 0, 0, []⟩, ⟨[99], [], 1, 0, 0, []⟩] → w.heap.size < W.heap.size → Calls Try.prog 15 #[.slice (some ⟨w.heap.size, 0, none⟩) 3 3, .agg #[.int .i64 7, .int .i64 0, .int .i64 0, .string ⟨#[]⟩, .bool true], .int .i64 0] W (fun e w' => ∃ A C, e = .returned (.tuple #[.slice A 0 C, .agg #[.int .i64 7, .int .i64 0, .int .i64 0, .string ⟨#[]⟩, .bool true], .bool true]) ∧ CIn0 w' A [] ∧ Below W.heap.size W w') := fun W hr hlt => by
    have := next_any ⟨7, 0, 0, [], true⟩ (some ⟨w.heap.size, 0, none⟩) 3 [⟨[97], [], 3, 0, 0, []⟩, ⟨[98], [], 2, 0, 0, []⟩, ⟨[99], [], 1, 0, 0, []⟩] 0 W (by decide) hr
    refine this.mono fun e w' ⟨A, C, h1, h2, h3⟩ => ⟨A, C, ?_, ?_, h3⟩
    · rw [h1]
      have e1 : pageL ⟨7, 0, 0, [], true⟩ [⟨[97], [], 3, 0, 0, []⟩, ⟨[98], [], 2, 0, 0, []⟩, ⟨[99], [], 1, 0, 0, []⟩] (min (0 : Int) 50).toNat = [] := by decide
      have e2 : nextM ⟨7, 0, 0, [], true⟩ [] = ⟨7, 0, 0, [], true⟩ := by decide
      have e3 : moreB ⟨7, 0, 0, [], true⟩ [⟨[97], [], 3, 0, 0, []⟩, ⟨[98], [], 2, 0, 0, []⟩, ⟨[99], [], 1, 0, 0, []⟩] (min (0 : Int) 50).toNat = true := by decide
      rw [e1, e2, e3]
      rfl
    · have e1 : pageL ⟨7, 0, 0, [], true⟩ [⟨[97], [], 3, 0, 0, []⟩, ⟨[98], [], 2, 0, 0, []⟩, ⟨[99], [], 1, 0, 0, []⟩] (min (0 : Int) 50).toNat = [] := by decide
      rw [e1] at h2
      exact h2
  have hr0 : rightB ⟨7, 0, 0, [], true⟩ = true := by decide
  have hb0 : bytesM ⟨7, 0, 0, [], true⟩ = [7, 1, 0, 0, 0] := by decide
  have cy : ∀ W, Calls Try.prog 9 #[.agg #[.int .i64 7, .int .i64 0, .int .i64 0, .string ⟨#[]⟩, .bool true]] W (fun e w' => e = .returned (.string ⟨#[7, 1, 0, 0, 0]⟩) ∧ Below W.heap.size W w') := fun W => by
    have := bytes_any ⟨7, 0, 0, [], true⟩ W
    rw [hb0] at this
    exact this
  have cz : ∀ W, Calls Try.prog 8 #[.string ⟨#[7, 1, 0, 0, 0]⟩] W (fun e w' => e = .returned (.tuple #[.agg #[.int .i64 7, .int .i64 0, .int .i64 0, .string ⟨#[]⟩, .bool true], .bool true]) ∧ Below W.heap.size W w') := fun W => by
    have := read_any [7, 1, 0, 0, 0] W (by decide)
    unfold ReadP at this
    rw [← hb0, read_bytes _ hr0, hb0] at this
    exact this
  have r1 : ∀ W, Calls Try.prog 10 #[.agg #[.int .i64 7, .int .i64 0, .int .i64 0, .string ⟨#[]⟩, .bool true]] W (BoolPost W true) := fun W => by
    have := right_any ⟨7, 0, 0, [], true⟩ W
    rw [hr0] at this
    exact this
  have r2 : ∀ W, Calls Try.prog 10 #[.agg #[.int .i64 7, .int .i64 2, .int .i64 0, .string ⟨#[98]⟩, .bool false]] W (BoolPost W false) := fun W => by
    have := right_any ⟨7, 2, 0, [98], false⟩ W
    rw [show rightB ⟨7, 2, 0, [98], false⟩ = false by decide] at this
    exact this
  have q0 : ∀ W, (binOp .eql 39 (.agg #[.string ⟨#[97]⟩, .string ⟨#[]⟩, .int .i64 3, .int .i64 0, .int .i64 0, .string ⟨#[]⟩]) (.agg #[.string ⟨#[97]⟩, .string ⟨#[]⟩, .int .i64 3, .int .i64 0, .int .i64 0, .string ⟨#[]⟩])).run Try.prog W = .ok (.bool true) W := fun W => by
    have := eql_cards ⟨[97], [], 3, 0, 0, []⟩ ⟨[97], [], 3, 0, 0, []⟩ W
    rw [decide_eq_true rfl] at this
    exact this
  have q1 : ∀ W, (binOp .eql 39 (.agg #[.string ⟨#[98]⟩, .string ⟨#[]⟩, .int .i64 2, .int .i64 0, .int .i64 0, .string ⟨#[]⟩]) (.agg #[.string ⟨#[98]⟩, .string ⟨#[]⟩, .int .i64 2, .int .i64 0, .int .i64 0, .string ⟨#[]⟩])).run Try.prog W = .ok (.bool true) W := fun W => by
    have := eql_cards ⟨[98], [], 2, 0, 0, []⟩ ⟨[98], [], 2, 0, 0, []⟩ W
    rw [decide_eq_true rfl] at this
    exact this
  have q2 : ∀ W, (binOp .eql 39 (.agg #[.string ⟨#[99]⟩, .string ⟨#[]⟩, .int .i64 1, .int .i64 0, .int .i64 0, .string ⟨#[]⟩]) (.agg #[.string ⟨#[99]⟩, .string ⟨#[]⟩, .int .i64 1, .int .i64 0, .int .i64 0, .string ⟨#[]⟩])).run Try.prog W = .ok (.bool true) W := fun W => by
    have := eql_cards ⟨[99], [], 1, 0, 0, []⟩ ⟨[99], [], 1, 0, 0, []⟩ W
    rw [decide_eq_true rfl] at this
    exact this
  have m0 : ∀ W, (binOp .eql 23 (.agg #[.int .i64 7, .int .i64 0, .int .i64 0, .string ⟨#[]⟩, .bool true]) (.agg #[.int .i64 7, .int .i64 0, .int .i64 0, .string ⟨#[]⟩, .bool true])).run Try.prog W = .ok (.bool true) W := fun W => by
    have := eql_marks ⟨7, 0, 0, [], true⟩ ⟨7, 0, 0, [], true⟩ W
    rw [decide_eq_true rfl] at this
    exact this
  have m1 : ∀ W, (binOp .eql 23 (.agg #[.int .i64 7, .int .i64 2, .int .i64 0, .string ⟨#[98]⟩, .bool false]) (.agg #[.int .i64 7, .int .i64 2, .int .i64 0, .string ⟨#[98]⟩, .bool false])).run Try.prog W = .ok (.bool true) W := fun W => by
    have := eql_marks ⟨7, 2, 0, [98], false⟩ ⟨7, 2, 0, [98], false⟩ W
    rw [decide_eq_true rfl] at this
    exact this
  have m2 : ∀ W, (binOp .eql 23 (.agg #[.int .i64 7, .int .i64 1, .int .i64 0, .string ⟨#[99]⟩, .bool false]) (.agg #[.int .i64 7, .int .i64 1, .int .i64 0, .string ⟨#[99]⟩, .bool false])).run Try.prog W = .ok (.bool true) W := fun W => by
    have := eql_marks ⟨7, 1, 0, [99], false⟩ ⟨7, 1, 0, [99], false⟩ W
    rw [decide_eq_true rfl] at this
    exact this
  have hnew := cards_new w [⟨[97], [], 3, 0, 0, []⟩, ⟨[98], [], 2, 0, 0, []⟩, ⟨[99], [], 1, 0, 0, []⟩] #[.string ⟨#[97]⟩, .string ⟨#[]⟩, .int .i64 3, .int .i64 0, .int .i64 0, .string ⟨#[]⟩, .string ⟨#[98]⟩, .string ⟨#[]⟩, .int .i64 2, .int .i64 0, .int .i64 0, .string ⟨#[]⟩, .string ⟨#[99]⟩, .string ⟨#[]⟩, .int .i64 1, .int .i64 0, .int .i64 0, .string ⟨#[]⟩] 39 rfl
  have hB0 := (Below.refl w.heap.size w).alloc (Nat.le_refl _) (.cells #[.string ⟨#[97]⟩, .string ⟨#[]⟩, .int .i64 3, .int .i64 0, .int .i64 0, .string ⟨#[]⟩, .string ⟨#[98]⟩, .string ⟨#[]⟩, .int .i64 2, .int .i64 0, .int .i64 0, .string ⟨#[]⟩, .string ⟨#[99]⟩, .string ⟨#[]⟩, .int .i64 1, .int .i64 0, .int .i64 0, .string ⟨#[]⟩] 39)
  have hsz0 : (w.alloc (.cells #[.string ⟨#[97]⟩, .string ⟨#[]⟩, .int .i64 3, .int .i64 0, .int .i64 0, .string ⟨#[]⟩, .string ⟨#[98]⟩, .string ⟨#[]⟩, .int .i64 2, .int .i64 0, .int .i64 0, .string ⟨#[]⟩, .string ⟨#[99]⟩, .string ⟨#[]⟩, .int .i64 1, .int .i64 0, .int .i64 0, .string ⟨#[]⟩] 39)).heap.size = w.heap.size + 1 := by simp
  have HL := Lib.hid hnew
  have HB := Lib.hid hB0
  have HS := Lib.hid hsz0
  clear hnew hB0 hsz0 hr0 hb0
  go_enter Try.func7, Try.ntmps7
  go_wp2_with fail
  (with_reducible refine Calls.mono (cb _) ?_)
  rintro e w1 ⟨rfl, hbx⟩
  replace HL := Lib.hid (HL.out.below hbx)
  replace HB := Lib.hid (HB.out.trans (hbx.mono (by rw [HS.out]; omega)))
  replace HS := Lib.hid (show w.heap.size < w1.heap.size by have := hbx.size; rw [HS.out] at this; omega)
  clear hbx cb
  have M2 := Lib.hid (heap_alloc_new w1 (.cells #[.int .i64 7, .int .i64 0, .int .i64 0, .string ⟨#[]⟩, .bool true] 23))
  replace HL := Lib.hid (HL.out.below ((Below.refl _ w1).alloc (Nat.le_refl _) (.cells #[.int .i64 7, .int .i64 0, .int .i64 0, .string ⟨#[]⟩, .bool true] 23)))
  replace HB := Lib.hid (HB.out.alloc HB.out.size (.cells #[.int .i64 7, .int .i64 0, .int .i64 0, .string ⟨#[]⟩, .bool true] 23))
  replace HS := Lib.hid (show w.heap.size < (w1.alloc (.cells #[.int .i64 7, .int .i64 0, .int .i64 0, .string ⟨#[]⟩, .bool true] 23)).heap.size by have := HS.out; rw [World.size_alloc]; omega)
  obtain ⟨p0, p1, p2, p3, p4⟩ : (w1.alloc (.cells #[.int .i64 7, .int .i64 0, .int .i64 0, .string ⟨#[]⟩, .bool true] 23)).cell? ⟨w1.heap.size, 0, none⟩ = some (.int .i64 7) ∧ (w1.alloc (.cells #[.int .i64 7, .int .i64 0, .int .i64 0, .string ⟨#[]⟩, .bool true] 23)).cell? ⟨w1.heap.size, 1, none⟩ = some (.int .i64 0) ∧ (w1.alloc (.cells #[.int .i64 7, .int .i64 0, .int .i64 0, .string ⟨#[]⟩, .bool true] 23)).cell? ⟨w1.heap.size, 2, none⟩ = some (.int .i64 0) ∧ (w1.alloc (.cells #[.int .i64 7, .int .i64 0, .int .i64 0, .string ⟨#[]⟩, .bool true] 23)).cell? ⟨w1.heap.size, 3, none⟩ = some (.string ⟨#[]⟩) ∧ (w1.alloc (.cells #[.int .i64 7, .int .i64 0, .int .i64 0, .string ⟨#[]⟩, .bool true] 23)).cell? ⟨w1.heap.size, 4, none⟩ = some (.bool true) := fiveM (k := ⟨7, 0, 0, [], true⟩) M2.out
  go_wp2_with fail
  (with_reducible refine Calls.mono (n1 _ HL.out HS.out) ?_)
  rintro e w2 ⟨Aw2, Cw2, rfl, hc, hbx⟩
  clear p0 p1 p2 p3 p4
  replace HL := Lib.hid (HL.out.below hbx)
  replace HB := Lib.hid (HB.out.trans (hbx.mono HB.out.size))
  replace HS := Lib.hid (Nat.lt_of_lt_of_le HS.out hbx.size)
  replace M2 := Lib.hid (keep_blkP hbx M2.out)
  obtain ⟨bw2, rfl, hc2⟩ := hc.row (by decide)
  have X := Lib.hid hc2
  clear hc hc2 hbx n1
  have M4 := Lib.hid (heap_alloc_new w2 (.cells #[.int .i64 7, .int .i64 2, .int .i64 0, .string ⟨#[98]⟩, .bool false] 23))
  replace HL := Lib.hid (HL.out.below ((Below.refl _ w2).alloc (Nat.le_refl _) (.cells #[.int .i64 7, .int .i64 2, .int .i64 0, .string ⟨#[98]⟩, .bool false] 23)))
  replace HB := Lib.hid (HB.out.alloc HB.out.size (.cells #[.int .i64 7, .int .i64 2, .int .i64 0, .string ⟨#[98]⟩, .bool false] 23))
  replace HS := Lib.hid (show w.heap.size < (w2.alloc (.cells #[.int .i64 7, .int .i64 2, .int .i64 0, .string ⟨#[98]⟩, .bool false] 23)).heap.size by have := HS.out; rw [World.size_alloc]; omega)
  replace M2 := Lib.hid ((Below.heap_alloc _ (.cells #[.int .i64 7, .int .i64 2, .int .i64 0, .string ⟨#[98]⟩, .bool false] 23) _ (lt_of_heap M2.out)).trans M2.out)
  replace X := Lib.hid (X.out.below ((Below.refl _ w2).alloc (Nat.le_refl _) (.cells #[.int .i64 7, .int .i64 2, .int .i64 0, .string ⟨#[98]⟩, .bool false] 23)))
  obtain ⟨p0, p1, p2, p3, p4⟩ : (w2.alloc (.cells #[.int .i64 7, .int .i64 2, .int .i64 0, .string ⟨#[98]⟩, .bool false] 23)).cell? ⟨w2.heap.size, 0, none⟩ = some (.int .i64 7) ∧ (w2.alloc (.cells #[.int .i64 7, .int .i64 2, .int .i64 0, .string ⟨#[98]⟩, .bool false] 23)).cell? ⟨w2.heap.size, 1, none⟩ = some (.int .i64 2) ∧ (w2.alloc (.cells #[.int .i64 7, .int .i64 2, .int .i64 0, .string ⟨#[98]⟩, .bool false] 23)).cell? ⟨w2.heap.size, 2, none⟩ = some (.int .i64 0) ∧ (w2.alloc (.cells #[.int .i64 7, .int .i64 2, .int .i64 0, .string ⟨#[98]⟩, .bool false] 23)).cell? ⟨w2.heap.size, 3, none⟩ = some (.string ⟨#[98]⟩) ∧ (w2.alloc (.cells #[.int .i64 7, .int .i64 2, .int .i64 0, .string ⟨#[98]⟩, .bool false] 23)).cell? ⟨w2.heap.size, 4, none⟩ = some (.bool false) := fiveM (k := ⟨7, 2, 0, [98], false⟩) M4.out
  go_wp2_with fail
  (with_reducible refine Calls.mono (n2 _ HL.out HS.out) ?_)
  rintro e w3 ⟨Aw3, Cw3, rfl, hc, hbx⟩
  clear p0 p1 p2 p3 p4
  replace HL := Lib.hid (HL.out.below hbx)
  replace HB := Lib.hid (HB.out.trans (hbx.mono HB.out.size))
  replace HS := Lib.hid (Nat.lt_of_lt_of_le HS.out hbx.size)
  replace M2 := Lib.hid (keep_blkP hbx M2.out)
  replace M4 := Lib.hid (keep_blkP hbx M4.out)
  replace X := Lib.hid (X.out.below hbx)
  obtain ⟨bw3, rfl, hc2⟩ := hc.row (by decide)
  have Y := Lib.hid hc2
  clear hc hc2 hbx n2
  have M7 := Lib.hid (heap_alloc_new w3 (.cells #[.int .i64 7, .int .i64 1, .int .i64 0, .string ⟨#[99]⟩, .bool false] 23))
  replace HL := Lib.hid (HL.out.below ((Below.refl _ w3).alloc (Nat.le_refl _) (.cells #[.int .i64 7, .int .i64 1, .int .i64 0, .string ⟨#[99]⟩, .bool false] 23)))
  replace HB := Lib.hid (HB.out.alloc HB.out.size (.cells #[.int .i64 7, .int .i64 1, .int .i64 0, .string ⟨#[99]⟩, .bool false] 23))
  replace HS := Lib.hid (show w.heap.size < (w3.alloc (.cells #[.int .i64 7, .int .i64 1, .int .i64 0, .string ⟨#[99]⟩, .bool false] 23)).heap.size by have := HS.out; rw [World.size_alloc]; omega)
  replace M2 := Lib.hid ((Below.heap_alloc _ (.cells #[.int .i64 7, .int .i64 1, .int .i64 0, .string ⟨#[99]⟩, .bool false] 23) _ (lt_of_heap M2.out)).trans M2.out)
  replace M4 := Lib.hid ((Below.heap_alloc _ (.cells #[.int .i64 7, .int .i64 1, .int .i64 0, .string ⟨#[99]⟩, .bool false] 23) _ (lt_of_heap M4.out)).trans M4.out)
  replace X := Lib.hid (X.out.below ((Below.refl _ w3).alloc (Nat.le_refl _) (.cells #[.int .i64 7, .int .i64 1, .int .i64 0, .string ⟨#[99]⟩, .bool false] 23)))
  replace Y := Lib.hid (Y.out.below ((Below.refl _ w3).alloc (Nat.le_refl _) (.cells #[.int .i64 7, .int .i64 1, .int .i64 0, .string ⟨#[99]⟩, .bool false] 23)))
  obtain ⟨p0, p1, p2, p3, p4⟩ : (w3.alloc (.cells #[.int .i64 7, .int .i64 1, .int .i64 0, .string ⟨#[99]⟩, .bool false] 23)).cell? ⟨w3.heap.size, 0, none⟩ = some (.int .i64 7) ∧ (w3.alloc (.cells #[.int .i64 7, .int .i64 1, .int .i64 0, .string ⟨#[99]⟩, .bool false] 23)).cell? ⟨w3.heap.size, 1, none⟩ = some (.int .i64 1) ∧ (w3.alloc (.cells #[.int .i64 7, .int .i64 1, .int .i64 0, .string ⟨#[99]⟩, .bool false] 23)).cell? ⟨w3.heap.size, 2, none⟩ = some (.int .i64 0) ∧ (w3.alloc (.cells #[.int .i64 7, .int .i64 1, .int .i64 0, .string ⟨#[99]⟩, .bool false] 23)).cell? ⟨w3.heap.size, 3, none⟩ = some (.string ⟨#[99]⟩) ∧ (w3.alloc (.cells #[.int .i64 7, .int .i64 1, .int .i64 0, .string ⟨#[99]⟩, .bool false] 23)).cell? ⟨w3.heap.size, 4, none⟩ = some (.bool false) := fiveM (k := ⟨7, 1, 0, [99], false⟩) M7.out
  go_wp2_with fail
  (with_reducible refine Calls.mono (n3 _ HL.out HS.out) ?_)
  rintro e w4 ⟨Aw4, Cw4, rfl, hc, hbx⟩
  clear p0 p1 p2 p3 p4
  replace HL := Lib.hid (HL.out.below hbx)
  replace HB := Lib.hid (HB.out.trans (hbx.mono HB.out.size))
  replace HS := Lib.hid (Nat.lt_of_lt_of_le HS.out hbx.size)
  replace M2 := Lib.hid (keep_blkP hbx M2.out)
  replace M4 := Lib.hid (keep_blkP hbx M4.out)
  replace M7 := Lib.hid (keep_blkP hbx M7.out)
  replace X := Lib.hid (X.out.below hbx)
  replace Y := Lib.hid (Y.out.below hbx)
  clear hc hbx n3
  have M10 := Lib.hid (heap_alloc_new w4 (.cells #[.int .i64 7, .int .i64 1, .int .i64 0, .string ⟨#[99]⟩, .bool false] 23))
  replace HL := Lib.hid (HL.out.below ((Below.refl _ w4).alloc (Nat.le_refl _) (.cells #[.int .i64 7, .int .i64 1, .int .i64 0, .string ⟨#[99]⟩, .bool false] 23)))
  replace HB := Lib.hid (HB.out.alloc HB.out.size (.cells #[.int .i64 7, .int .i64 1, .int .i64 0, .string ⟨#[99]⟩, .bool false] 23))
  replace HS := Lib.hid (show w.heap.size < (w4.alloc (.cells #[.int .i64 7, .int .i64 1, .int .i64 0, .string ⟨#[99]⟩, .bool false] 23)).heap.size by have := HS.out; rw [World.size_alloc]; omega)
  replace M2 := Lib.hid ((Below.heap_alloc _ (.cells #[.int .i64 7, .int .i64 1, .int .i64 0, .string ⟨#[99]⟩, .bool false] 23) _ (lt_of_heap M2.out)).trans M2.out)
  replace M4 := Lib.hid ((Below.heap_alloc _ (.cells #[.int .i64 7, .int .i64 1, .int .i64 0, .string ⟨#[99]⟩, .bool false] 23) _ (lt_of_heap M4.out)).trans M4.out)
  replace M7 := Lib.hid ((Below.heap_alloc _ (.cells #[.int .i64 7, .int .i64 1, .int .i64 0, .string ⟨#[99]⟩, .bool false] 23) _ (lt_of_heap M7.out)).trans M7.out)
  replace X := Lib.hid (X.out.below ((Below.refl _ w4).alloc (Nat.le_refl _) (.cells #[.int .i64 7, .int .i64 1, .int .i64 0, .string ⟨#[99]⟩, .bool false] 23)))
  replace Y := Lib.hid (Y.out.below ((Below.refl _ w4).alloc (Nat.le_refl _) (.cells #[.int .i64 7, .int .i64 1, .int .i64 0, .string ⟨#[99]⟩, .bool false] 23)))
  obtain ⟨p0, p1, p2, p3, p4⟩ : (w4.alloc (.cells #[.int .i64 7, .int .i64 1, .int .i64 0, .string ⟨#[99]⟩, .bool false] 23)).cell? ⟨w1.heap.size, 0, none⟩ = some (.int .i64 7) ∧ (w4.alloc (.cells #[.int .i64 7, .int .i64 1, .int .i64 0, .string ⟨#[99]⟩, .bool false] 23)).cell? ⟨w1.heap.size, 1, none⟩ = some (.int .i64 0) ∧ (w4.alloc (.cells #[.int .i64 7, .int .i64 1, .int .i64 0, .string ⟨#[99]⟩, .bool false] 23)).cell? ⟨w1.heap.size, 2, none⟩ = some (.int .i64 0) ∧ (w4.alloc (.cells #[.int .i64 7, .int .i64 1, .int .i64 0, .string ⟨#[99]⟩, .bool false] 23)).cell? ⟨w1.heap.size, 3, none⟩ = some (.string ⟨#[]⟩) ∧ (w4.alloc (.cells #[.int .i64 7, .int .i64 1, .int .i64 0, .string ⟨#[99]⟩, .bool false] 23)).cell? ⟨w1.heap.size, 4, none⟩ = some (.bool true) := fiveM (k := ⟨7, 0, 0, [], true⟩) M2.out
  go_wp2_with fail
  (with_reducible refine Calls.mono (n4 _ HL.out HS.out) ?_)
  rintro e w5 ⟨Aw5, Cw5, rfl, hc, hbx⟩
  clear p0 p1 p2 p3 p4
  replace HL := Lib.hid (HL.out.below hbx)
  replace HB := Lib.hid (HB.out.trans (hbx.mono HB.out.size))
  replace HS := Lib.hid (Nat.lt_of_lt_of_le HS.out hbx.size)
  replace M2 := Lib.hid (keep_blkP hbx M2.out)
  replace M4 := Lib.hid (keep_blkP hbx M4.out)
  replace M7 := Lib.hid (keep_blkP hbx M7.out)
  replace M10 := Lib.hid (keep_blkP hbx M10.out)
  replace X := Lib.hid (X.out.below hbx)
  replace Y := Lib.hid (Y.out.below hbx)
  clear hc hbx n4
  have M13 := Lib.hid (heap_alloc_new w5 (.cells #[.int .i64 7, .int .i64 0, .int .i64 0, .string ⟨#[]⟩, .bool true] 23))
  replace HL := Lib.hid (HL.out.below ((Below.refl _ w5).alloc (Nat.le_refl _) (.cells #[.int .i64 7, .int .i64 0, .int .i64 0, .string ⟨#[]⟩, .bool true] 23)))
  replace HB := Lib.hid (HB.out.alloc HB.out.size (.cells #[.int .i64 7, .int .i64 0, .int .i64 0, .string ⟨#[]⟩, .bool true] 23))
  replace HS := Lib.hid (show w.heap.size < (w5.alloc (.cells #[.int .i64 7, .int .i64 0, .int .i64 0, .string ⟨#[]⟩, .bool true] 23)).heap.size by have := HS.out; rw [World.size_alloc]; omega)
  replace M2 := Lib.hid ((Below.heap_alloc _ (.cells #[.int .i64 7, .int .i64 0, .int .i64 0, .string ⟨#[]⟩, .bool true] 23) _ (lt_of_heap M2.out)).trans M2.out)
  replace M4 := Lib.hid ((Below.heap_alloc _ (.cells #[.int .i64 7, .int .i64 0, .int .i64 0, .string ⟨#[]⟩, .bool true] 23) _ (lt_of_heap M4.out)).trans M4.out)
  replace M7 := Lib.hid ((Below.heap_alloc _ (.cells #[.int .i64 7, .int .i64 0, .int .i64 0, .string ⟨#[]⟩, .bool true] 23) _ (lt_of_heap M7.out)).trans M7.out)
  replace M10 := Lib.hid ((Below.heap_alloc _ (.cells #[.int .i64 7, .int .i64 0, .int .i64 0, .string ⟨#[]⟩, .bool true] 23) _ (lt_of_heap M10.out)).trans M10.out)
  replace X := Lib.hid (X.out.below ((Below.refl _ w5).alloc (Nat.le_refl _) (.cells #[.int .i64 7, .int .i64 0, .int .i64 0, .string ⟨#[]⟩, .bool true] 23)))
  replace Y := Lib.hid (Y.out.below ((Below.refl _ w5).alloc (Nat.le_refl _) (.cells #[.int .i64 7, .int .i64 0, .int .i64 0, .string ⟨#[]⟩, .bool true] 23)))
  obtain ⟨p0, p1, p2, p3, p4⟩ : (w5.alloc (.cells #[.int .i64 7, .int .i64 0, .int .i64 0, .string ⟨#[]⟩, .bool true] 23)).cell? ⟨w1.heap.size, 0, none⟩ = some (.int .i64 7) ∧ (w5.alloc (.cells #[.int .i64 7, .int .i64 0, .int .i64 0, .string ⟨#[]⟩, .bool true] 23)).cell? ⟨w1.heap.size, 1, none⟩ = some (.int .i64 0) ∧ (w5.alloc (.cells #[.int .i64 7, .int .i64 0, .int .i64 0, .string ⟨#[]⟩, .bool true] 23)).cell? ⟨w1.heap.size, 2, none⟩ = some (.int .i64 0) ∧ (w5.alloc (.cells #[.int .i64 7, .int .i64 0, .int .i64 0, .string ⟨#[]⟩, .bool true] 23)).cell? ⟨w1.heap.size, 3, none⟩ = some (.string ⟨#[]⟩) ∧ (w5.alloc (.cells #[.int .i64 7, .int .i64 0, .int .i64 0, .string ⟨#[]⟩, .bool true] 23)).cell? ⟨w1.heap.size, 4, none⟩ = some (.bool true) := fiveM (k := ⟨7, 0, 0, [], true⟩) M2.out
  go_wp2_with fail
  (with_reducible refine Calls.mono (cy _) ?_)
  rintro e w6 ⟨rfl, hbx⟩
  clear p0 p1 p2 p3 p4
  replace HL := Lib.hid (HL.out.below hbx)
  replace HB := Lib.hid (HB.out.trans (hbx.mono HB.out.size))
  replace HS := Lib.hid (Nat.lt_of_lt_of_le HS.out hbx.size)
  replace M2 := Lib.hid (keep_blkP hbx M2.out)
  replace M4 := Lib.hid (keep_blkP hbx M4.out)
  replace M7 := Lib.hid (keep_blkP hbx M7.out)
  replace M10 := Lib.hid (keep_blkP hbx M10.out)
  replace M13 := Lib.hid (keep_blkP hbx M13.out)
  replace X := Lib.hid (X.out.below hbx)
  replace Y := Lib.hid (Y.out.below hbx)
  clear hbx cy
  go_wp2_with fail
  (with_reducible refine Calls.mono (cz _) ?_)
  rintro e w7 ⟨rfl, hbx⟩
  replace HL := Lib.hid (HL.out.below hbx)
  replace HB := Lib.hid (HB.out.trans (hbx.mono HB.out.size))
  replace HS := Lib.hid (Nat.lt_of_lt_of_le HS.out hbx.size)
  replace M2 := Lib.hid (keep_blkP hbx M2.out)
  replace M4 := Lib.hid (keep_blkP hbx M4.out)
  replace M7 := Lib.hid (keep_blkP hbx M7.out)
  replace M10 := Lib.hid (keep_blkP hbx M10.out)
  replace M13 := Lib.hid (keep_blkP hbx M13.out)
  replace X := Lib.hid (X.out.below hbx)
  replace Y := Lib.hid (Y.out.below hbx)
  clear hbx cz
  have M15 := Lib.hid (heap_alloc_new w7 (.cells #[.int .i64 7, .int .i64 0, .int .i64 0, .string ⟨#[]⟩, .bool true] 23))
  replace HL := Lib.hid (HL.out.below ((Below.refl _ w7).alloc (Nat.le_refl _) (.cells #[.int .i64 7, .int .i64 0, .int .i64 0, .string ⟨#[]⟩, .bool true] 23)))
  replace HB := Lib.hid (HB.out.alloc HB.out.size (.cells #[.int .i64 7, .int .i64 0, .int .i64 0, .string ⟨#[]⟩, .bool true] 23))
  replace HS := Lib.hid (show w.heap.size < (w7.alloc (.cells #[.int .i64 7, .int .i64 0, .int .i64 0, .string ⟨#[]⟩, .bool true] 23)).heap.size by have := HS.out; rw [World.size_alloc]; omega)
  replace M2 := Lib.hid ((Below.heap_alloc _ (.cells #[.int .i64 7, .int .i64 0, .int .i64 0, .string ⟨#[]⟩, .bool true] 23) _ (lt_of_heap M2.out)).trans M2.out)
  replace M4 := Lib.hid ((Below.heap_alloc _ (.cells #[.int .i64 7, .int .i64 0, .int .i64 0, .string ⟨#[]⟩, .bool true] 23) _ (lt_of_heap M4.out)).trans M4.out)
  replace M7 := Lib.hid ((Below.heap_alloc _ (.cells #[.int .i64 7, .int .i64 0, .int .i64 0, .string ⟨#[]⟩, .bool true] 23) _ (lt_of_heap M7.out)).trans M7.out)
  replace M10 := Lib.hid ((Below.heap_alloc _ (.cells #[.int .i64 7, .int .i64 0, .int .i64 0, .string ⟨#[]⟩, .bool true] 23) _ (lt_of_heap M10.out)).trans M10.out)
  replace M13 := Lib.hid ((Below.heap_alloc _ (.cells #[.int .i64 7, .int .i64 0, .int .i64 0, .string ⟨#[]⟩, .bool true] 23) _ (lt_of_heap M13.out)).trans M13.out)
  replace X := Lib.hid (X.out.below ((Below.refl _ w7).alloc (Nat.le_refl _) (.cells #[.int .i64 7, .int .i64 0, .int .i64 0, .string ⟨#[]⟩, .bool true] 23)))
  replace Y := Lib.hid (Y.out.below ((Below.refl _ w7).alloc (Nat.le_refl _) (.cells #[.int .i64 7, .int .i64 0, .int .i64 0, .string ⟨#[]⟩, .bool true] 23)))
  have hwz : ∃ wz, wz = (w7.alloc (.cells #[.int .i64 7, .int .i64 0, .int .i64 0, .string ⟨#[]⟩, .bool true] 23)) := ⟨_, rfl⟩
  obtain ⟨wz, hwz⟩ := hwz
  rw [← hwz] at HL HB HS M2 M4 M7 M10 M13 M15 X Y
  have FF : Hid (∀ W, Below wz.heap.size wz W → (W.cell? ⟨w.heap.size, 0, none⟩ = some (.string ⟨#[97]⟩) ∧ W.cell? ⟨w.heap.size, 1, none⟩ = some (.string ⟨#[]⟩) ∧ W.cell? ⟨w.heap.size, 2, none⟩ = some (.int .i64 3) ∧ W.cell? ⟨w.heap.size, 3, none⟩ = some (.int .i64 0) ∧ W.cell? ⟨w.heap.size, 4, none⟩ = some (.int .i64 0) ∧ W.cell? ⟨w.heap.size, 5, none⟩ = some (.string ⟨#[]⟩)) ∧ (W.cell? ⟨w.heap.size, 6, none⟩ = some (.string ⟨#[98]⟩) ∧ W.cell? ⟨w.heap.size, 7, none⟩ = some (.string ⟨#[]⟩) ∧ W.cell? ⟨w.heap.size, 8, none⟩ = some (.int .i64 2) ∧ W.cell? ⟨w.heap.size, 9, none⟩ = some (.int .i64 0) ∧ W.cell? ⟨w.heap.size, 10, none⟩ = some (.int .i64 0) ∧ W.cell? ⟨w.heap.size, 11, none⟩ = some (.string ⟨#[]⟩)) ∧ (W.cell? ⟨w.heap.size, 12, none⟩ = some (.string ⟨#[99]⟩) ∧ W.cell? ⟨w.heap.size, 13, none⟩ = some (.string ⟨#[]⟩) ∧ W.cell? ⟨w.heap.size, 14, none⟩ = some (.int .i64 1) ∧ W.cell? ⟨w.heap.size, 15, none⟩ = some (.int .i64 0) ∧ W.cell? ⟨w.heap.size, 16, none⟩ = some (.int .i64 0) ∧ W.cell? ⟨w.heap.size, 17, none⟩ = some (.string ⟨#[]⟩)) ∧ (W.cell? ⟨bw2, 0, none⟩ = some (.string ⟨#[97]⟩) ∧ W.cell? ⟨bw2, 1, none⟩ = some (.string ⟨#[]⟩) ∧ W.cell? ⟨bw2, 2, none⟩ = some (.int .i64 3) ∧ W.cell? ⟨bw2, 3, none⟩ = some (.int .i64 0) ∧ W.cell? ⟨bw2, 4, none⟩ = some (.int .i64 0) ∧ W.cell? ⟨bw2, 5, none⟩ = some (.string ⟨#[]⟩)) ∧ (W.cell? ⟨bw2, 6, none⟩ = some (.string ⟨#[98]⟩) ∧ W.cell? ⟨bw2, 7, none⟩ = some (.string ⟨#[]⟩) ∧ W.cell? ⟨bw2, 8, none⟩ = some (.int .i64 2) ∧ W.cell? ⟨bw2, 9, none⟩ = some (.int .i64 0) ∧ W.cell? ⟨bw2, 10, none⟩ = some (.int .i64 0) ∧ W.cell? ⟨bw2, 11, none⟩ = some (.string ⟨#[]⟩)) ∧ (W.cell? ⟨bw3, 0, none⟩ = some (.string ⟨#[99]⟩) ∧ W.cell? ⟨bw3, 1, none⟩ = some (.string ⟨#[]⟩) ∧ W.cell? ⟨bw3, 2, none⟩ = some (.int .i64 1) ∧ W.cell? ⟨bw3, 3, none⟩ = some (.int .i64 0) ∧ W.cell? ⟨bw3, 4, none⟩ = some (.int .i64 0) ∧ W.cell? ⟨bw3, 5, none⟩ = some (.string ⟨#[]⟩)) ∧ (W.cell? ⟨w1.heap.size, 0, none⟩ = some (.int .i64 7) ∧ W.cell? ⟨w1.heap.size, 1, none⟩ = some (.int .i64 0) ∧ W.cell? ⟨w1.heap.size, 2, none⟩ = some (.int .i64 0) ∧ W.cell? ⟨w1.heap.size, 3, none⟩ = some (.string ⟨#[]⟩) ∧ W.cell? ⟨w1.heap.size, 4, none⟩ = some (.bool true)) ∧ (W.cell? ⟨w2.heap.size, 0, none⟩ = some (.int .i64 7) ∧ W.cell? ⟨w2.heap.size, 1, none⟩ = some (.int .i64 2) ∧ W.cell? ⟨w2.heap.size, 2, none⟩ = some (.int .i64 0) ∧ W.cell? ⟨w2.heap.size, 3, none⟩ = some (.string ⟨#[98]⟩) ∧ W.cell? ⟨w2.heap.size, 4, none⟩ = some (.bool false)) ∧ (W.cell? ⟨w3.heap.size, 0, none⟩ = some (.int .i64 7) ∧ W.cell? ⟨w3.heap.size, 1, none⟩ = some (.int .i64 1) ∧ W.cell? ⟨w3.heap.size, 2, none⟩ = some (.int .i64 0) ∧ W.cell? ⟨w3.heap.size, 3, none⟩ = some (.string ⟨#[99]⟩) ∧ W.cell? ⟨w3.heap.size, 4, none⟩ = some (.bool false)) ∧ (W.cell? ⟨w4.heap.size, 0, none⟩ = some (.int .i64 7) ∧ W.cell? ⟨w4.heap.size, 1, none⟩ = some (.int .i64 1) ∧ W.cell? ⟨w4.heap.size, 2, none⟩ = some (.int .i64 0) ∧ W.cell? ⟨w4.heap.size, 3, none⟩ = some (.string ⟨#[99]⟩) ∧ W.cell? ⟨w4.heap.size, 4, none⟩ = some (.bool false)) ∧ (W.cell? ⟨w5.heap.size, 0, none⟩ = some (.int .i64 7) ∧ W.cell? ⟨w5.heap.size, 1, none⟩ = some (.int .i64 0) ∧ W.cell? ⟨w5.heap.size, 2, none⟩ = some (.int .i64 0) ∧ W.cell? ⟨w5.heap.size, 3, none⟩ = some (.string ⟨#[]⟩) ∧ W.cell? ⟨w5.heap.size, 4, none⟩ = some (.bool true)) ∧ (W.cell? ⟨w7.heap.size, 0, none⟩ = some (.int .i64 7) ∧ W.cell? ⟨w7.heap.size, 1, none⟩ = some (.int .i64 0) ∧ W.cell? ⟨w7.heap.size, 2, none⟩ = some (.int .i64 0) ∧ W.cell? ⟨w7.heap.size, 3, none⟩ = some (.string ⟨#[]⟩) ∧ W.cell? ⟨w7.heap.size, 4, none⟩ = some (.bool true))) := fun W hW =>
    ⟨six0 (j := 0) (HL.out.below hW) 0 rfl (c := ⟨[97], [], 3, 0, 0, []⟩) rfl, six0 (j := 1) (HL.out.below hW) 6 rfl (c := ⟨[98], [], 2, 0, 0, []⟩) rfl, six0 (j := 2) (HL.out.below hW) 12 rfl (c := ⟨[99], [], 1, 0, 0, []⟩) rfl, six0 (j := 0) (X.out.below hW) 0 rfl (c := ⟨[97], [], 3, 0, 0, []⟩) rfl, six0 (j := 1) (X.out.below hW) 6 rfl (c := ⟨[98], [], 2, 0, 0, []⟩) rfl, six0 (j := 0) (Y.out.below hW) 0 rfl (c := ⟨[99], [], 1, 0, 0, []⟩) rfl, fiveM (k := ⟨7, 0, 0, [], true⟩) (keep_blkP hW M2.out), fiveM (k := ⟨7, 2, 0, [98], false⟩) (keep_blkP hW M4.out), fiveM (k := ⟨7, 1, 0, [99], false⟩) (keep_blkP hW M7.out), fiveM (k := ⟨7, 1, 0, [99], false⟩) (keep_blkP hW M10.out), fiveM (k := ⟨7, 0, 0, [], true⟩) (keep_blkP hW M13.out), fiveM (k := ⟨7, 0, 0, [], true⟩) (keep_blkP hW M15.out)⟩
  clear HL HS M2 M4 M7 M10 M13 M15 X Y
  go_wp2_with fail
  rw [← hwz]
  clear hwz
  generalize w1.heap.size = b_w1 at *
  generalize w2.heap.size = b_w2 at *
  generalize w3.heap.size = b_w3 at *
  generalize w4.heap.size = b_w4 at *
  generalize w5.heap.size = b_w5 at *
  generalize w7.heap.size = b_w7 at *
  have gx := FF.out _ (Below.refl wz.heap.size wz).drew
  refine wp_region_held_drew (S := (fun W => Below wz.heap.size wz W ∧ (W.cell? ⟨w.heap.size, 0, none⟩ = some (.string ⟨#[97]⟩) ∧ W.cell? ⟨w.heap.size, 1, none⟩ = some (.string ⟨#[]⟩) ∧ W.cell? ⟨w.heap.size, 2, none⟩ = some (.int .i64 3) ∧ W.cell? ⟨w.heap.size, 3, none⟩ = some (.int .i64 0) ∧ W.cell? ⟨w.heap.size, 4, none⟩ = some (.int .i64 0) ∧ W.cell? ⟨w.heap.size, 5, none⟩ = some (.string ⟨#[]⟩)) ∧ (W.cell? ⟨w.heap.size, 6, none⟩ = some (.string ⟨#[98]⟩) ∧ W.cell? ⟨w.heap.size, 7, none⟩ = some (.string ⟨#[]⟩) ∧ W.cell? ⟨w.heap.size, 8, none⟩ = some (.int .i64 2) ∧ W.cell? ⟨w.heap.size, 9, none⟩ = some (.int .i64 0) ∧ W.cell? ⟨w.heap.size, 10, none⟩ = some (.int .i64 0) ∧ W.cell? ⟨w.heap.size, 11, none⟩ = some (.string ⟨#[]⟩)) ∧ (W.cell? ⟨w.heap.size, 12, none⟩ = some (.string ⟨#[99]⟩) ∧ W.cell? ⟨w.heap.size, 13, none⟩ = some (.string ⟨#[]⟩) ∧ W.cell? ⟨w.heap.size, 14, none⟩ = some (.int .i64 1) ∧ W.cell? ⟨w.heap.size, 15, none⟩ = some (.int .i64 0) ∧ W.cell? ⟨w.heap.size, 16, none⟩ = some (.int .i64 0) ∧ W.cell? ⟨w.heap.size, 17, none⟩ = some (.string ⟨#[]⟩)) ∧ (W.cell? ⟨bw2, 0, none⟩ = some (.string ⟨#[97]⟩) ∧ W.cell? ⟨bw2, 1, none⟩ = some (.string ⟨#[]⟩) ∧ W.cell? ⟨bw2, 2, none⟩ = some (.int .i64 3) ∧ W.cell? ⟨bw2, 3, none⟩ = some (.int .i64 0) ∧ W.cell? ⟨bw2, 4, none⟩ = some (.int .i64 0) ∧ W.cell? ⟨bw2, 5, none⟩ = some (.string ⟨#[]⟩)) ∧ (W.cell? ⟨bw2, 6, none⟩ = some (.string ⟨#[98]⟩) ∧ W.cell? ⟨bw2, 7, none⟩ = some (.string ⟨#[]⟩) ∧ W.cell? ⟨bw2, 8, none⟩ = some (.int .i64 2) ∧ W.cell? ⟨bw2, 9, none⟩ = some (.int .i64 0) ∧ W.cell? ⟨bw2, 10, none⟩ = some (.int .i64 0) ∧ W.cell? ⟨bw2, 11, none⟩ = some (.string ⟨#[]⟩)) ∧ (W.cell? ⟨bw3, 0, none⟩ = some (.string ⟨#[99]⟩) ∧ W.cell? ⟨bw3, 1, none⟩ = some (.string ⟨#[]⟩) ∧ W.cell? ⟨bw3, 2, none⟩ = some (.int .i64 1) ∧ W.cell? ⟨bw3, 3, none⟩ = some (.int .i64 0) ∧ W.cell? ⟨bw3, 4, none⟩ = some (.int .i64 0) ∧ W.cell? ⟨bw3, 5, none⟩ = some (.string ⟨#[]⟩)) ∧ (W.cell? ⟨b_w1, 0, none⟩ = some (.int .i64 7) ∧ W.cell? ⟨b_w1, 1, none⟩ = some (.int .i64 0) ∧ W.cell? ⟨b_w1, 2, none⟩ = some (.int .i64 0) ∧ W.cell? ⟨b_w1, 3, none⟩ = some (.string ⟨#[]⟩) ∧ W.cell? ⟨b_w1, 4, none⟩ = some (.bool true)) ∧ (W.cell? ⟨b_w2, 0, none⟩ = some (.int .i64 7) ∧ W.cell? ⟨b_w2, 1, none⟩ = some (.int .i64 2) ∧ W.cell? ⟨b_w2, 2, none⟩ = some (.int .i64 0) ∧ W.cell? ⟨b_w2, 3, none⟩ = some (.string ⟨#[98]⟩) ∧ W.cell? ⟨b_w2, 4, none⟩ = some (.bool false)) ∧ (W.cell? ⟨b_w3, 0, none⟩ = some (.int .i64 7) ∧ W.cell? ⟨b_w3, 1, none⟩ = some (.int .i64 1) ∧ W.cell? ⟨b_w3, 2, none⟩ = some (.int .i64 0) ∧ W.cell? ⟨b_w3, 3, none⟩ = some (.string ⟨#[99]⟩) ∧ W.cell? ⟨b_w3, 4, none⟩ = some (.bool false)) ∧ (W.cell? ⟨b_w4, 0, none⟩ = some (.int .i64 7) ∧ W.cell? ⟨b_w4, 1, none⟩ = some (.int .i64 1) ∧ W.cell? ⟨b_w4, 2, none⟩ = some (.int .i64 0) ∧ W.cell? ⟨b_w4, 3, none⟩ = some (.string ⟨#[99]⟩) ∧ W.cell? ⟨b_w4, 4, none⟩ = some (.bool false)) ∧ (W.cell? ⟨b_w5, 0, none⟩ = some (.int .i64 7) ∧ W.cell? ⟨b_w5, 1, none⟩ = some (.int .i64 0) ∧ W.cell? ⟨b_w5, 2, none⟩ = some (.int .i64 0) ∧ W.cell? ⟨b_w5, 3, none⟩ = some (.string ⟨#[]⟩) ∧ W.cell? ⟨b_w5, 4, none⟩ = some (.bool true)) ∧ (W.cell? ⟨b_w7, 0, none⟩ = some (.int .i64 7) ∧ W.cell? ⟨b_w7, 1, none⟩ = some (.int .i64 0) ∧ W.cell? ⟨b_w7, 2, none⟩ = some (.int .i64 0) ∧ W.cell? ⟨b_w7, 3, none⟩ = some (.string ⟨#[]⟩) ∧ W.cell? ⟨b_w7, 4, none⟩ = some (.bool true)))) (by kernel_rfl) (⟨(Below.refl _ _).drew, FF.out _ (Below.refl _ _).drew⟩) (fun hHeld => ?_)
  refine wpAnyH_take (i := 0) (oi := { dst := some 74, op := Go.Op.move (Go.Operand.tmp 3), type := 30, pos := "law.go:23", after := #[], guard := none }) (v := ?vs0) rfl (by kernel_rfl) (by kernel_rfl) (by kernel_rfl) (fun _ _ _ h => h) (Or.inl ⟨by rfl, ?ys0⟩) (by assumption) ?_
  case ys0 => (intro wX hSw; (try dsimp only at hSw); go_simp <;> with_reducible rfl)
  try simp only [Act.put, List.setIfInBounds_toArray, List.set_cons_zero, List.set_cons_succ]
  refine wpAnyH_take (i := 1) (oi := { dst := some 75, op := Go.Op.indexAddr 30 (Go.Operand.tmp 74) (Go.Operand.const (Go.Value.int Go.IntKind.i64 0)), type := 0, pos := "law.go:23", after := #[{ on := 0, ground := Go.Ground.data }], guard := none }) (v := ?vs1) rfl (by kernel_rfl) (by kernel_rfl) (by kernel_rfl) (fun _ _ _ h => h) (Or.inl ⟨by rfl, ?ys1⟩) (by assumption) ?_
  case ys1 => (intro wX hSw; (try dsimp only at hSw); go_simp <;> with_reducible rfl)
  try simp only [Act.put, List.setIfInBounds_toArray, List.set_cons_zero, List.set_cons_succ]
  refine wpAnyH_take (i := 2) (oi := { dst := some 76, op := Go.Op.load 39 (Go.Operand.tmp 75), type := 39, pos := "law.go:23", after := #[{ on := 1, ground := Go.Ground.data }], guard := none }) (v := ?vs2) rfl (by kernel_rfl) (by kernel_rfl) (by kernel_rfl) (fun _ _ _ h => h) (Or.inl ⟨by rfl, ?ys2⟩) (by assumption) ?_
  case ys2 => (intro wX hSw; (try dsimp only at hSw); go_simp <;> with_reducible rfl)
  try simp only [Act.put, List.setIfInBounds_toArray, List.set_cons_zero, List.set_cons_succ]
  refine wpAnyH_take (i := 3) (oi := { dst := some 77, op := Go.Op.move (Go.Operand.tmp 1), type := 30, pos := "law.go:23", after := #[], guard := none }) (v := ?vs3) rfl (by kernel_rfl) (by kernel_rfl) (by kernel_rfl) (fun _ _ _ h => h) (Or.inl ⟨by rfl, ?ys3⟩) (by assumption) ?_
  case ys3 => (intro wX hSw; (try dsimp only at hSw); go_simp <;> with_reducible rfl)
  try simp only [Act.put, List.setIfInBounds_toArray, List.set_cons_zero, List.set_cons_succ]
  refine wpAnyH_take (i := 4) (oi := { dst := some 78, op := Go.Op.indexAddr 30 (Go.Operand.tmp 77) (Go.Operand.const (Go.Value.int Go.IntKind.i64 0)), type := 0, pos := "law.go:23", after := #[{ on := 3, ground := Go.Ground.data }], guard := none }) (v := ?vs4) rfl (by kernel_rfl) (by kernel_rfl) (by kernel_rfl) (fun _ _ _ h => h) (Or.inl ⟨by rfl, ?ys4⟩) (by assumption) ?_
  case ys4 => (intro wX hSw; (try dsimp only at hSw); go_simp <;> with_reducible rfl)
  try simp only [Act.put, List.setIfInBounds_toArray, List.set_cons_zero, List.set_cons_succ]
  refine wpAnyH_take (i := 5) (oi := { dst := some 79, op := Go.Op.load 39 (Go.Operand.tmp 78), type := 39, pos := "law.go:23", after := #[{ on := 4, ground := Go.Ground.data }], guard := none }) (v := ?vs5) rfl (by kernel_rfl) (by kernel_rfl) (by kernel_rfl) (fun _ _ _ h => h) (Or.inl ⟨by rfl, ?ys5⟩) (by assumption) ?_
  case ys5 => (intro wX hSw; (try dsimp only at hSw); go_simp <;> with_reducible rfl)
  try simp only [Act.put, List.setIfInBounds_toArray, List.set_cons_zero, List.set_cons_succ]
  refine wpAnyH_take (i := 6) (oi := { dst := some 80, op := Go.Op.binOp Go.BinOp.eql 39 (Go.Operand.tmp 76) (Go.Operand.tmp 79) 39, type := 4, pos := "law.go:23", after := #[{ on := 2, ground := Go.Ground.data }, { on := 5, ground := Go.Ground.data }], guard := none }) (v := ?vs6) rfl (by kernel_rfl) (by kernel_rfl) (by kernel_rfl) (fun _ _ _ h => h) (Or.inl ⟨by rfl, ?ys6⟩) (by assumption) ?_
  case ys6 => (intro wX hSw; (try dsimp only at hSw); go_simp <;> with_reducible rfl)
  try simp only [Act.put, List.setIfInBounds_toArray, List.set_cons_zero, List.set_cons_succ]
  refine wpAnyH_take (i := 7) (oi := { dst := some 81, op := Go.Op.move (Go.Operand.tmp 80), type := 4, pos := "law.go:23", after := #[{ on := 6, ground := Go.Ground.data }], guard := none }) (v := ?vs7) rfl (by kernel_rfl) (by kernel_rfl) (by kernel_rfl) (fun _ _ _ h => h) (Or.inl ⟨by rfl, ?ys7⟩) (by assumption) ?_
  case ys7 => (intro wX hSw; (try dsimp only at hSw); go_simp <;> with_reducible rfl)
  try simp only [Act.put, List.setIfInBounds_toArray, List.set_cons_zero, List.set_cons_succ]
  refine wpAnyH_take (i := 8) (oi := { dst := some 82, op := Go.Op.move (Go.Operand.tmp 3), type := 30, pos := "law.go:23", after := #[{ on := 7, ground := Go.Ground.guard }], guard := some (7, true) }) (v := ?vs8) rfl (by kernel_rfl) (by kernel_rfl) (by kernel_rfl) (fun _ _ _ h => h) (Or.inl ⟨by rfl, ?ys8⟩) (by assumption) ?_
  case ys8 => (intro wX hSw; (try dsimp only at hSw); go_simp <;> with_reducible rfl)
  try simp only [Act.put, List.setIfInBounds_toArray, List.set_cons_zero, List.set_cons_succ]
  refine wpAnyH_take (i := 9) (oi := { dst := some 83, op := Go.Op.indexAddr 30 (Go.Operand.tmp 82) (Go.Operand.const (Go.Value.int Go.IntKind.i64 1)), type := 0, pos := "law.go:23", after := #[{ on := 8, ground := Go.Ground.data }, { on := 7, ground := Go.Ground.guard }], guard := some (7, true) }) (v := ?vs9) rfl (by kernel_rfl) (by kernel_rfl) (by kernel_rfl) (fun _ _ _ h => h) (Or.inl ⟨by rfl, ?ys9⟩) (by assumption) ?_
  case ys9 => (intro wX hSw; (try dsimp only at hSw); go_simp <;> with_reducible rfl)
  try simp only [Act.put, List.setIfInBounds_toArray, List.set_cons_zero, List.set_cons_succ]
  refine wpAnyH_take (i := 10) (oi := { dst := some 84, op := Go.Op.load 39 (Go.Operand.tmp 83), type := 39, pos := "law.go:23", after := #[{ on := 9, ground := Go.Ground.data }, { on := 7, ground := Go.Ground.guard }], guard := some (7, true) }) (v := ?vs10) rfl (by kernel_rfl) (by kernel_rfl) (by kernel_rfl) (fun _ _ _ h => h) (Or.inl ⟨by rfl, ?ys10⟩) (by assumption) ?_
  case ys10 => (intro wX hSw; (try dsimp only at hSw); go_simp <;> with_reducible rfl)
  try simp only [Act.put, List.setIfInBounds_toArray, List.set_cons_zero, List.set_cons_succ]
  refine wpAnyH_take (i := 11) (oi := { dst := some 85, op := Go.Op.move (Go.Operand.tmp 1), type := 30, pos := "law.go:23", after := #[{ on := 7, ground := Go.Ground.guard }], guard := some (7, true) }) (v := ?vs11) rfl (by kernel_rfl) (by kernel_rfl) (by kernel_rfl) (fun _ _ _ h => h) (Or.inl ⟨by rfl, ?ys11⟩) (by assumption) ?_
  case ys11 => (intro wX hSw; (try dsimp only at hSw); go_simp <;> with_reducible rfl)
  try simp only [Act.put, List.setIfInBounds_toArray, List.set_cons_zero, List.set_cons_succ]
  refine wpAnyH_take (i := 12) (oi := { dst := some 86, op := Go.Op.indexAddr 30 (Go.Operand.tmp 85) (Go.Operand.const (Go.Value.int Go.IntKind.i64 1)), type := 0, pos := "law.go:23", after := #[{ on := 11, ground := Go.Ground.data }, { on := 7, ground := Go.Ground.guard }], guard := some (7, true) }) (v := ?vs12) rfl (by kernel_rfl) (by kernel_rfl) (by kernel_rfl) (fun _ _ _ h => h) (Or.inl ⟨by rfl, ?ys12⟩) (by assumption) ?_
  case ys12 => (intro wX hSw; (try dsimp only at hSw); go_simp <;> with_reducible rfl)
  try simp only [Act.put, List.setIfInBounds_toArray, List.set_cons_zero, List.set_cons_succ]
  refine wpAnyH_take (i := 13) (oi := { dst := some 87, op := Go.Op.load 39 (Go.Operand.tmp 86), type := 39, pos := "law.go:23", after := #[{ on := 12, ground := Go.Ground.data }, { on := 7, ground := Go.Ground.guard }], guard := some (7, true) }) (v := ?vs13) rfl (by kernel_rfl) (by kernel_rfl) (by kernel_rfl) (fun _ _ _ h => h) (Or.inl ⟨by rfl, ?ys13⟩) (by assumption) ?_
  case ys13 => (intro wX hSw; (try dsimp only at hSw); go_simp <;> with_reducible rfl)
  try simp only [Act.put, List.setIfInBounds_toArray, List.set_cons_zero, List.set_cons_succ]
  refine wpAnyH_take (i := 14) (oi := { dst := some 88, op := Go.Op.binOp Go.BinOp.eql 39 (Go.Operand.tmp 84) (Go.Operand.tmp 87) 39, type := 4, pos := "law.go:23", after := #[{ on := 10, ground := Go.Ground.data }, { on := 13, ground := Go.Ground.data }, { on := 7, ground := Go.Ground.guard }], guard := some (7, true) }) (v := ?vs14) rfl (by kernel_rfl) (by kernel_rfl) (by kernel_rfl) (fun _ _ _ h => h) (Or.inl ⟨by rfl, ?ys14⟩) (by assumption) ?_
  case ys14 => (intro wX hSw; (try dsimp only at hSw); go_simp <;> with_reducible rfl)
  try simp only [Act.put, List.setIfInBounds_toArray, List.set_cons_zero, List.set_cons_succ]
  refine wpAnyH_take (i := 15) (oi := { dst := some 89, op := Go.Op.pick (Go.Operand.tmp 81) (Go.Operand.tmp 88) (Go.Operand.const (Go.Value.bool false)), type := 4, pos := "law.go:23", after := #[{ on := 7, ground := Go.Ground.data }, { on := 14, ground := Go.Ground.data }], guard := none }) (v := ?vs15) rfl (by kernel_rfl) (by kernel_rfl) (by kernel_rfl) (fun _ _ _ h => h) (Or.inl ⟨by rfl, ?ys15⟩) (by assumption) ?_
  case ys15 => (intro wX hSw; (try dsimp only at hSw); go_simp <;> with_reducible rfl)
  try simp only [Act.put, List.setIfInBounds_toArray, List.set_cons_zero, List.set_cons_succ]
  refine wpAnyH_take (i := 16) (oi := { dst := some 90, op := Go.Op.move (Go.Operand.tmp 89), type := 4, pos := "law.go:23", after := #[{ on := 15, ground := Go.Ground.data }, { on := 7, ground := Go.Ground.chain }], guard := none }) (v := ?vs16) rfl (by kernel_rfl) (by kernel_rfl) (by kernel_rfl) (fun _ _ _ h => h) (Or.inl ⟨by rfl, ?ys16⟩) (by assumption) ?_
  case ys16 => (intro wX hSw; (try dsimp only at hSw); go_simp <;> with_reducible rfl)
  try simp only [Act.put, List.setIfInBounds_toArray, List.set_cons_zero, List.set_cons_succ]
  refine wpAnyH_take (i := 17) (oi := { dst := some 91, op := Go.Op.load 23 (Go.Operand.tmp 4), type := 23, pos := "law.go:23", after := #[{ on := 16, ground := Go.Ground.guard }], guard := some (16, true) }) (v := ?vs17) rfl (by kernel_rfl) (by kernel_rfl) (by kernel_rfl) (fun _ _ _ h => h) (Or.inl ⟨by rfl, ?ys17⟩) (by assumption) ?_
  case ys17 => (intro wX hSw; (try dsimp only at hSw); go_simp <;> with_reducible rfl)
  try simp only [Act.put, List.setIfInBounds_toArray, List.set_cons_zero, List.set_cons_succ]
  refine wpAnyH_take (i := 18) (oi := { dst := some 92, op := Go.Op.build 23 #[(0, Go.Operand.const (Go.Value.int Go.IntKind.i64 7)), (1, Go.Operand.const (Go.Value.int Go.IntKind.i64 2)), (3, Go.Operand.const (Go.Value.string { data := #[98] }))], type := 23, pos := "law.go:23", after := #[{ on := 16, ground := Go.Ground.guard }], guard := some (16, true) }) (v := ?vs18) rfl (by kernel_rfl) (by kernel_rfl) (by kernel_rfl) (fun _ _ _ h => h) (Or.inl ⟨by rfl, ?ys18⟩) (by assumption) ?_
  case ys18 => (intro wX hSw; (try dsimp only at hSw); go_simp <;> with_reducible rfl)
  try simp only [Act.put, List.setIfInBounds_toArray, List.set_cons_zero, List.set_cons_succ]
  refine wpAnyH_take (i := 19) (oi := { dst := some 93, op := Go.Op.binOp Go.BinOp.eql 23 (Go.Operand.tmp 91) (Go.Operand.tmp 92) 23, type := 4, pos := "law.go:23", after := #[{ on := 17, ground := Go.Ground.data }, { on := 18, ground := Go.Ground.data }, { on := 16, ground := Go.Ground.guard }], guard := some (16, true) }) (v := ?vs19) rfl (by kernel_rfl) (by kernel_rfl) (by kernel_rfl) (fun _ _ _ h => h) (Or.inl ⟨by rfl, ?ys19⟩) (by assumption) ?_
  case ys19 => (intro wX hSw; (try dsimp only at hSw); go_simp <;> with_reducible rfl)
  try simp only [Act.put, List.setIfInBounds_toArray, List.set_cons_zero, List.set_cons_succ]
  refine wpAnyH_take (i := 20) (oi := { dst := some 94, op := Go.Op.pick (Go.Operand.tmp 90) (Go.Operand.tmp 93) (Go.Operand.const (Go.Value.bool false)), type := 4, pos := "law.go:23", after := #[{ on := 16, ground := Go.Ground.data }, { on := 19, ground := Go.Ground.data }], guard := none }) (v := ?vs20) rfl (by kernel_rfl) (by kernel_rfl) (by kernel_rfl) (fun _ _ _ h => h) (Or.inl ⟨by rfl, ?ys20⟩) (by assumption) ?_
  case ys20 => (intro wX hSw; (try dsimp only at hSw); go_simp <;> with_reducible rfl)
  try simp only [Act.put, List.setIfInBounds_toArray, List.set_cons_zero, List.set_cons_succ]
  refine wpAnyH_take (i := 21) (oi := { dst := some 95, op := Go.Op.move (Go.Operand.tmp 94), type := 4, pos := "law.go:23", after := #[{ on := 20, ground := Go.Ground.data }, { on := 16, ground := Go.Ground.chain }], guard := none }) (v := ?vs21) rfl (by kernel_rfl) (by kernel_rfl) (by kernel_rfl) (fun _ _ _ h => h) (Or.inl ⟨by rfl, ?ys21⟩) (by assumption) ?_
  case ys21 => (intro wX hSw; (try dsimp only at hSw); go_simp <;> with_reducible rfl)
  try simp only [Act.put, List.setIfInBounds_toArray, List.set_cons_zero, List.set_cons_succ]
  refine wpAnyH_take (i := 22) (oi := { dst := some 96, op := Go.Op.move (Go.Operand.tmp 5), type := 4, pos := "law.go:23", after := #[{ on := 21, ground := Go.Ground.guard }], guard := some (21, true) }) (v := ?vs22) rfl (by kernel_rfl) (by kernel_rfl) (by kernel_rfl) (fun _ _ _ h => h) (Or.inl ⟨by rfl, ?ys22⟩) (by assumption) ?_
  case ys22 => (intro wX hSw; (try dsimp only at hSw); go_simp <;> with_reducible rfl)
  try simp only [Act.put, List.setIfInBounds_toArray, List.set_cons_zero, List.set_cons_succ]
  refine wpAnyH_take (i := 23) (oi := { dst := some 97, op := Go.Op.pick (Go.Operand.tmp 95) (Go.Operand.tmp 96) (Go.Operand.const (Go.Value.bool false)), type := 4, pos := "law.go:23", after := #[{ on := 21, ground := Go.Ground.data }, { on := 22, ground := Go.Ground.data }], guard := none }) (v := ?vs23) rfl (by kernel_rfl) (by kernel_rfl) (by kernel_rfl) (fun _ _ _ h => h) (Or.inl ⟨by rfl, ?ys23⟩) (by assumption) ?_
  case ys23 => (intro wX hSw; (try dsimp only at hSw); go_simp <;> with_reducible rfl)
  try simp only [Act.put, List.setIfInBounds_toArray, List.set_cons_zero, List.set_cons_succ]
  refine wpAnyH_take (i := 24) (oi := { dst := some 98, op := Go.Op.move (Go.Operand.tmp 97), type := 4, pos := "law.go:23", after := #[{ on := 23, ground := Go.Ground.data }, { on := 21, ground := Go.Ground.chain }], guard := none }) (v := ?vs24) rfl (by kernel_rfl) (by kernel_rfl) (by kernel_rfl) (fun _ _ _ h => h) (Or.inl ⟨by rfl, ?ys24⟩) (by assumption) ?_
  case ys24 => (intro wX hSw; (try dsimp only at hSw); go_simp <;> with_reducible rfl)
  try simp only [Act.put, List.setIfInBounds_toArray, List.set_cons_zero, List.set_cons_succ]
  refine wpAnyH_take (i := 25) (oi := { dst := some 99, op := Go.Op.move (Go.Operand.tmp 6), type := 30, pos := "law.go:23", after := #[{ on := 24, ground := Go.Ground.guard }], guard := some (24, true) }) (v := ?vs25) rfl (by kernel_rfl) (by kernel_rfl) (by kernel_rfl) (fun _ _ _ h => h) (Or.inl ⟨by rfl, ?ys25⟩) (by assumption) ?_
  case ys25 => (intro wX hSw; (try dsimp only at hSw); go_simp <;> with_reducible rfl)
  try simp only [Act.put, List.setIfInBounds_toArray, List.set_cons_zero, List.set_cons_succ]
  refine wpAnyH_take (i := 26) (oi := { dst := some 100, op := Go.Op.indexAddr 30 (Go.Operand.tmp 99) (Go.Operand.const (Go.Value.int Go.IntKind.i64 0)), type := 0, pos := "law.go:23", after := #[{ on := 25, ground := Go.Ground.data }, { on := 24, ground := Go.Ground.guard }], guard := some (24, true) }) (v := ?vs26) rfl (by kernel_rfl) (by kernel_rfl) (by kernel_rfl) (fun _ _ _ h => h) (Or.inl ⟨by rfl, ?ys26⟩) (by assumption) ?_
  case ys26 => (intro wX hSw; (try dsimp only at hSw); go_simp <;> with_reducible rfl)
  try simp only [Act.put, List.setIfInBounds_toArray, List.set_cons_zero, List.set_cons_succ]
  refine wpAnyH_take (i := 27) (oi := { dst := some 101, op := Go.Op.load 39 (Go.Operand.tmp 100), type := 39, pos := "law.go:23", after := #[{ on := 26, ground := Go.Ground.data }, { on := 24, ground := Go.Ground.guard }], guard := some (24, true) }) (v := ?vs27) rfl (by kernel_rfl) (by kernel_rfl) (by kernel_rfl) (fun _ _ _ h => h) (Or.inl ⟨by rfl, ?ys27⟩) (by assumption) ?_
  case ys27 => (intro wX hSw; (try dsimp only at hSw); go_simp <;> with_reducible rfl)
  try simp only [Act.put, List.setIfInBounds_toArray, List.set_cons_zero, List.set_cons_succ]
  refine wpAnyH_take (i := 28) (oi := { dst := some 102, op := Go.Op.move (Go.Operand.tmp 1), type := 30, pos := "law.go:23", after := #[{ on := 24, ground := Go.Ground.guard }], guard := some (24, true) }) (v := ?vs28) rfl (by kernel_rfl) (by kernel_rfl) (by kernel_rfl) (fun _ _ _ h => h) (Or.inl ⟨by rfl, ?ys28⟩) (by assumption) ?_
  case ys28 => (intro wX hSw; (try dsimp only at hSw); go_simp <;> with_reducible rfl)
  try simp only [Act.put, List.setIfInBounds_toArray, List.set_cons_zero, List.set_cons_succ]
  refine wpAnyH_take (i := 29) (oi := { dst := some 103, op := Go.Op.indexAddr 30 (Go.Operand.tmp 102) (Go.Operand.const (Go.Value.int Go.IntKind.i64 2)), type := 0, pos := "law.go:23", after := #[{ on := 28, ground := Go.Ground.data }, { on := 24, ground := Go.Ground.guard }], guard := some (24, true) }) (v := ?vs29) rfl (by kernel_rfl) (by kernel_rfl) (by kernel_rfl) (fun _ _ _ h => h) (Or.inl ⟨by rfl, ?ys29⟩) (by assumption) ?_
  case ys29 => (intro wX hSw; (try dsimp only at hSw); go_simp <;> with_reducible rfl)
  try simp only [Act.put, List.setIfInBounds_toArray, List.set_cons_zero, List.set_cons_succ]
  refine wpAnyH_take (i := 30) (oi := { dst := some 104, op := Go.Op.load 39 (Go.Operand.tmp 103), type := 39, pos := "law.go:23", after := #[{ on := 29, ground := Go.Ground.data }, { on := 24, ground := Go.Ground.guard }], guard := some (24, true) }) (v := ?vs30) rfl (by kernel_rfl) (by kernel_rfl) (by kernel_rfl) (fun _ _ _ h => h) (Or.inl ⟨by rfl, ?ys30⟩) (by assumption) ?_
  case ys30 => (intro wX hSw; (try dsimp only at hSw); go_simp <;> with_reducible rfl)
  try simp only [Act.put, List.setIfInBounds_toArray, List.set_cons_zero, List.set_cons_succ]
  refine wpAnyH_take (i := 31) (oi := { dst := some 105, op := Go.Op.binOp Go.BinOp.eql 39 (Go.Operand.tmp 101) (Go.Operand.tmp 104) 39, type := 4, pos := "law.go:23", after := #[{ on := 27, ground := Go.Ground.data }, { on := 30, ground := Go.Ground.data }, { on := 24, ground := Go.Ground.guard }], guard := some (24, true) }) (v := ?vs31) rfl (by kernel_rfl) (by kernel_rfl) (by kernel_rfl) (fun _ _ _ h => h) (Or.inl ⟨by rfl, ?ys31⟩) (by assumption) ?_
  case ys31 => (intro wX hSw; (try dsimp only at hSw); go_simp <;> with_reducible rfl)
  try simp only [Act.put, List.setIfInBounds_toArray, List.set_cons_zero, List.set_cons_succ]
  refine wpAnyH_take (i := 32) (oi := { dst := some 106, op := Go.Op.pick (Go.Operand.tmp 98) (Go.Operand.tmp 105) (Go.Operand.const (Go.Value.bool false)), type := 4, pos := "law.go:23", after := #[{ on := 24, ground := Go.Ground.data }, { on := 31, ground := Go.Ground.data }], guard := none }) (v := ?vs32) rfl (by kernel_rfl) (by kernel_rfl) (by kernel_rfl) (fun _ _ _ h => h) (Or.inl ⟨by rfl, ?ys32⟩) (by assumption) ?_
  case ys32 => (intro wX hSw; (try dsimp only at hSw); go_simp <;> with_reducible rfl)
  try simp only [Act.put, List.setIfInBounds_toArray, List.set_cons_zero, List.set_cons_succ]
  refine wpAnyH_take (i := 33) (oi := { dst := some 107, op := Go.Op.move (Go.Operand.tmp 106), type := 4, pos := "law.go:23", after := #[{ on := 32, ground := Go.Ground.data }, { on := 24, ground := Go.Ground.chain }], guard := none }) (v := ?vs33) rfl (by kernel_rfl) (by kernel_rfl) (by kernel_rfl) (fun _ _ _ h => h) (Or.inl ⟨by rfl, ?ys33⟩) (by assumption) ?_
  case ys33 => (intro wX hSw; (try dsimp only at hSw); go_simp <;> with_reducible rfl)
  try simp only [Act.put, List.setIfInBounds_toArray, List.set_cons_zero, List.set_cons_succ]
  refine wpAnyH_take (i := 34) (oi := { dst := some 108, op := Go.Op.fieldAddr 23 (Go.Operand.tmp 7) 3, type := 0, pos := "law.go:23", after := #[{ on := 33, ground := Go.Ground.guard }], guard := some (33, true) }) (v := ?vs34) rfl (by kernel_rfl) (by kernel_rfl) (by kernel_rfl) (fun _ _ _ h => h) (Or.inl ⟨by rfl, ?ys34⟩) (by assumption) ?_
  case ys34 => (intro wX hSw; (try dsimp only at hSw); go_simp <;> with_reducible rfl)
  try simp only [Act.put, List.setIfInBounds_toArray, List.set_cons_zero, List.set_cons_succ]
  refine wpAnyH_take (i := 35) (oi := { dst := some 109, op := Go.Op.load 9 (Go.Operand.tmp 108), type := 9, pos := "law.go:23", after := #[{ on := 34, ground := Go.Ground.data }, { on := 33, ground := Go.Ground.guard }], guard := some (33, true) }) (v := ?vs35) rfl (by kernel_rfl) (by kernel_rfl) (by kernel_rfl) (fun _ _ _ h => h) (Or.inl ⟨by rfl, ?ys35⟩) (by assumption) ?_
  case ys35 => (intro wX hSw; (try dsimp only at hSw); go_simp <;> with_reducible rfl)
  try simp only [Act.put, List.setIfInBounds_toArray, List.set_cons_zero, List.set_cons_succ]
  refine wpAnyH_take (i := 36) (oi := { dst := some 110, op := Go.Op.binOp Go.BinOp.eql 9 (Go.Operand.tmp 109) (Go.Operand.const (Go.Value.string { data := #[99] })) 9, type := 4, pos := "law.go:23", after := #[{ on := 35, ground := Go.Ground.data }, { on := 33, ground := Go.Ground.guard }], guard := some (33, true) }) (v := ?vs36) rfl (by kernel_rfl) (by kernel_rfl) (by kernel_rfl) (fun _ _ _ h => h) (Or.inl ⟨by rfl, ?ys36⟩) (by assumption) ?_
  case ys36 => (intro wX hSw; (try dsimp only at hSw); go_simp <;> with_reducible rfl)
  try simp only [Act.put, List.setIfInBounds_toArray, List.set_cons_zero, List.set_cons_succ]
  refine wpAnyH_take (i := 37) (oi := { dst := some 111, op := Go.Op.pick (Go.Operand.tmp 107) (Go.Operand.tmp 110) (Go.Operand.const (Go.Value.bool false)), type := 4, pos := "law.go:23", after := #[{ on := 33, ground := Go.Ground.data }, { on := 36, ground := Go.Ground.data }], guard := none }) (v := ?vs37) rfl (by kernel_rfl) (by kernel_rfl) (by kernel_rfl) (fun _ _ _ h => h) (Or.inl ⟨by rfl, ?ys37⟩) (by assumption) ?_
  case ys37 => (intro wX hSw; (try dsimp only at hSw); go_simp <;> with_reducible rfl)
  try simp only [Act.put, List.setIfInBounds_toArray, List.set_cons_zero, List.set_cons_succ]
  refine wpAnyH_take (i := 38) (oi := { dst := some 112, op := Go.Op.move (Go.Operand.tmp 111), type := 4, pos := "law.go:23", after := #[{ on := 37, ground := Go.Ground.data }, { on := 33, ground := Go.Ground.chain }], guard := none }) (v := ?vs38) rfl (by kernel_rfl) (by kernel_rfl) (by kernel_rfl) (fun _ _ _ h => h) (Or.inl ⟨by rfl, ?ys38⟩) (by assumption) ?_
  case ys38 => (intro wX hSw; (try dsimp only at hSw); go_simp <;> with_reducible rfl)
  try simp only [Act.put, List.setIfInBounds_toArray, List.set_cons_zero, List.set_cons_succ]
  refine wpAnyH_take (i := 39) (oi := { dst := some 113, op := Go.Op.move (Go.Operand.tmp 8), type := 4, pos := "law.go:23", after := #[{ on := 38, ground := Go.Ground.guard }], guard := some (38, true) }) (v := ?vs39) rfl (by kernel_rfl) (by kernel_rfl) (by kernel_rfl) (fun _ _ _ h => h) (Or.inl ⟨by rfl, ?ys39⟩) (by assumption) ?_
  case ys39 => (intro wX hSw; (try dsimp only at hSw); go_simp <;> with_reducible rfl)
  try simp only [Act.put, List.setIfInBounds_toArray, List.set_cons_zero, List.set_cons_succ]
  refine wpAnyH_take (i := 40) (oi := { dst := some 114, op := Go.Op.unOp Go.UnOp.not 4 (Go.Operand.tmp 113), type := 4, pos := "law.go:23", after := #[{ on := 39, ground := Go.Ground.data }, { on := 38, ground := Go.Ground.guard }], guard := some (38, true) }) (v := ?vs40) rfl (by kernel_rfl) (by kernel_rfl) (by kernel_rfl) (fun _ _ _ h => h) (Or.inl ⟨by rfl, ?ys40⟩) (by assumption) ?_
  case ys40 => (intro wX hSw; (try dsimp only at hSw); go_simp <;> with_reducible rfl)
  try simp only [Act.put, List.setIfInBounds_toArray, List.set_cons_zero, List.set_cons_succ]
  refine wpAnyH_take (i := 41) (oi := { dst := some 115, op := Go.Op.pick (Go.Operand.tmp 112) (Go.Operand.tmp 114) (Go.Operand.const (Go.Value.bool false)), type := 4, pos := "law.go:23", after := #[{ on := 38, ground := Go.Ground.data }, { on := 40, ground := Go.Ground.data }], guard := none }) (v := ?vs41) rfl (by kernel_rfl) (by kernel_rfl) (by kernel_rfl) (fun _ _ _ h => h) (Or.inl ⟨by rfl, ?ys41⟩) (by assumption) ?_
  case ys41 => (intro wX hSw; (try dsimp only at hSw); go_simp <;> with_reducible rfl)
  try simp only [Act.put, List.setIfInBounds_toArray, List.set_cons_zero, List.set_cons_succ]
  refine wpAnyH_take (i := 42) (oi := { dst := some 116, op := Go.Op.move (Go.Operand.tmp 115), type := 4, pos := "law.go:23", after := #[{ on := 41, ground := Go.Ground.data }, { on := 38, ground := Go.Ground.chain }], guard := none }) (v := ?vs42) rfl (by kernel_rfl) (by kernel_rfl) (by kernel_rfl) (fun _ _ _ h => h) (Or.inl ⟨by rfl, ?ys42⟩) (by assumption) ?_
  case ys42 => (intro wX hSw; (try dsimp only at hSw); go_simp <;> with_reducible rfl)
  try simp only [Act.put, List.setIfInBounds_toArray, List.set_cons_zero, List.set_cons_succ]
  refine wpAnyH_take (i := 43) (oi := { dst := some 117, op := Go.Op.load 23 (Go.Operand.tmp 10), type := 23, pos := "law.go:23", after := #[{ on := 42, ground := Go.Ground.guard }], guard := some (42, true) }) (v := ?vs43) rfl (by kernel_rfl) (by kernel_rfl) (by kernel_rfl) (fun _ _ _ h => h) (Or.inl ⟨by rfl, ?ys43⟩) (by assumption) ?_
  case ys43 => (intro wX hSw; (try dsimp only at hSw); go_simp <;> with_reducible rfl)
  try simp only [Act.put, List.setIfInBounds_toArray, List.set_cons_zero, List.set_cons_succ]
  refine wpAnyH_take (i := 44) (oi := { dst := some 118, op := Go.Op.load 23 (Go.Operand.tmp 7), type := 23, pos := "law.go:23", after := #[{ on := 42, ground := Go.Ground.guard }], guard := some (42, true) }) (v := ?vs44) rfl (by kernel_rfl) (by kernel_rfl) (by kernel_rfl) (fun _ _ _ h => h) (Or.inl ⟨by rfl, ?ys44⟩) (by assumption) ?_
  case ys44 => (intro wX hSw; (try dsimp only at hSw); go_simp <;> with_reducible rfl)
  try simp only [Act.put, List.setIfInBounds_toArray, List.set_cons_zero, List.set_cons_succ]
  refine wpAnyH_take (i := 45) (oi := { dst := some 119, op := Go.Op.binOp Go.BinOp.eql 23 (Go.Operand.tmp 117) (Go.Operand.tmp 118) 23, type := 4, pos := "law.go:23", after := #[{ on := 43, ground := Go.Ground.data }, { on := 44, ground := Go.Ground.data }, { on := 42, ground := Go.Ground.guard }], guard := some (42, true) }) (v := ?vs45) rfl (by kernel_rfl) (by kernel_rfl) (by kernel_rfl) (fun _ _ _ h => h) (Or.inl ⟨by rfl, ?ys45⟩) (by assumption) ?_
  case ys45 => (intro wX hSw; (try dsimp only at hSw); go_simp <;> with_reducible rfl)
  try simp only [Act.put, List.setIfInBounds_toArray, List.set_cons_zero, List.set_cons_succ]
  refine wpAnyH_take (i := 46) (oi := { dst := some 120, op := Go.Op.pick (Go.Operand.tmp 116) (Go.Operand.tmp 119) (Go.Operand.const (Go.Value.bool false)), type := 4, pos := "law.go:23", after := #[{ on := 42, ground := Go.Ground.data }, { on := 45, ground := Go.Ground.data }], guard := none }) (v := ?vs46) rfl (by kernel_rfl) (by kernel_rfl) (by kernel_rfl) (fun _ _ _ h => h) (Or.inl ⟨by rfl, ?ys46⟩) (by assumption) ?_
  case ys46 => (intro wX hSw; (try dsimp only at hSw); go_simp <;> with_reducible rfl)
  try simp only [Act.put, List.setIfInBounds_toArray, List.set_cons_zero, List.set_cons_succ]
  refine wpAnyH_take (i := 47) (oi := { dst := some 121, op := Go.Op.move (Go.Operand.tmp 120), type := 4, pos := "law.go:23", after := #[{ on := 46, ground := Go.Ground.data }, { on := 42, ground := Go.Ground.chain }], guard := none }) (v := ?vs47) rfl (by kernel_rfl) (by kernel_rfl) (by kernel_rfl) (fun _ _ _ h => h) (Or.inl ⟨by rfl, ?ys47⟩) (by assumption) ?_
  case ys47 => (intro wX hSw; (try dsimp only at hSw); go_simp <;> with_reducible rfl)
  try simp only [Act.put, List.setIfInBounds_toArray, List.set_cons_zero, List.set_cons_succ]
  refine wpAnyH_take (i := 48) (oi := { dst := some 122, op := Go.Op.move (Go.Operand.tmp 11), type := 4, pos := "law.go:23", after := #[{ on := 47, ground := Go.Ground.guard }], guard := some (47, true) }) (v := ?vs48) rfl (by kernel_rfl) (by kernel_rfl) (by kernel_rfl) (fun _ _ _ h => h) (Or.inl ⟨by rfl, ?ys48⟩) (by assumption) ?_
  case ys48 => (intro wX hSw; (try dsimp only at hSw); go_simp <;> with_reducible rfl)
  try simp only [Act.put, List.setIfInBounds_toArray, List.set_cons_zero, List.set_cons_succ]
  refine wpAnyH_take (i := 49) (oi := { dst := some 123, op := Go.Op.unOp Go.UnOp.not 4 (Go.Operand.tmp 122), type := 4, pos := "law.go:23", after := #[{ on := 48, ground := Go.Ground.data }, { on := 47, ground := Go.Ground.guard }], guard := some (47, true) }) (v := ?vs49) rfl (by kernel_rfl) (by kernel_rfl) (by kernel_rfl) (fun _ _ _ h => h) (Or.inl ⟨by rfl, ?ys49⟩) (by assumption) ?_
  case ys49 => (intro wX hSw; (try dsimp only at hSw); go_simp <;> with_reducible rfl)
  try simp only [Act.put, List.setIfInBounds_toArray, List.set_cons_zero, List.set_cons_succ]
  refine wpAnyH_take (i := 50) (oi := { dst := some 124, op := Go.Op.pick (Go.Operand.tmp 121) (Go.Operand.tmp 123) (Go.Operand.const (Go.Value.bool false)), type := 4, pos := "law.go:23", after := #[{ on := 47, ground := Go.Ground.data }, { on := 49, ground := Go.Ground.data }], guard := none }) (v := ?vs50) rfl (by kernel_rfl) (by kernel_rfl) (by kernel_rfl) (fun _ _ _ h => h) (Or.inl ⟨by rfl, ?ys50⟩) (by assumption) ?_
  case ys50 => (intro wX hSw; (try dsimp only at hSw); go_simp <;> with_reducible rfl)
  try simp only [Act.put, List.setIfInBounds_toArray, List.set_cons_zero, List.set_cons_succ]
  refine wpAnyH_take (i := 51) (oi := { dst := some 125, op := Go.Op.move (Go.Operand.tmp 124), type := 4, pos := "law.go:23", after := #[{ on := 50, ground := Go.Ground.data }, { on := 47, ground := Go.Ground.chain }], guard := none }) (v := ?vs51) rfl (by kernel_rfl) (by kernel_rfl) (by kernel_rfl) (fun _ _ _ h => h) (Or.inl ⟨by rfl, ?ys51⟩) (by assumption) ?_
  case ys51 => (intro wX hSw; (try dsimp only at hSw); go_simp <;> with_reducible rfl)
  try simp only [Act.put, List.setIfInBounds_toArray, List.set_cons_zero, List.set_cons_succ]
  refine wpAnyH_take (i := 52) (oi := { dst := some 126, op := Go.Op.load 23 (Go.Operand.tmp 13), type := 23, pos := "law.go:23", after := #[{ on := 51, ground := Go.Ground.guard }], guard := some (51, true) }) (v := ?vs52) rfl (by kernel_rfl) (by kernel_rfl) (by kernel_rfl) (fun _ _ _ h => h) (Or.inl ⟨by rfl, ?ys52⟩) (by assumption) ?_
  case ys52 => (intro wX hSw; (try dsimp only at hSw); go_simp <;> with_reducible rfl)
  try simp only [Act.put, List.setIfInBounds_toArray, List.set_cons_zero, List.set_cons_succ]
  refine wpAnyH_take (i := 53) (oi := { dst := some 127, op := Go.Op.load 23 (Go.Operand.tmp 2), type := 23, pos := "law.go:23", after := #[{ on := 51, ground := Go.Ground.guard }], guard := some (51, true) }) (v := ?vs53) rfl (by kernel_rfl) (by kernel_rfl) (by kernel_rfl) (fun _ _ _ h => h) (Or.inl ⟨by rfl, ?ys53⟩) (by assumption) ?_
  case ys53 => (intro wX hSw; (try dsimp only at hSw); go_simp <;> with_reducible rfl)
  try simp only [Act.put, List.setIfInBounds_toArray, List.set_cons_zero, List.set_cons_succ]
  refine wpAnyH_take (i := 54) (oi := { dst := some 128, op := Go.Op.binOp Go.BinOp.eql 23 (Go.Operand.tmp 126) (Go.Operand.tmp 127) 23, type := 4, pos := "law.go:23", after := #[{ on := 52, ground := Go.Ground.data }, { on := 53, ground := Go.Ground.data }, { on := 51, ground := Go.Ground.guard }], guard := some (51, true) }) (v := ?vs54) rfl (by kernel_rfl) (by kernel_rfl) (by kernel_rfl) (fun _ _ _ h => h) (Or.inl ⟨by rfl, ?ys54⟩) (by assumption) ?_
  case ys54 => (intro wX hSw; (try dsimp only at hSw); go_simp <;> with_reducible rfl)
  try simp only [Act.put, List.setIfInBounds_toArray, List.set_cons_zero, List.set_cons_succ]
  refine wpAnyH_take (i := 55) (oi := { dst := some 129, op := Go.Op.pick (Go.Operand.tmp 125) (Go.Operand.tmp 128) (Go.Operand.const (Go.Value.bool false)), type := 4, pos := "law.go:23", after := #[{ on := 51, ground := Go.Ground.data }, { on := 54, ground := Go.Ground.data }], guard := none }) (v := ?vs55) rfl (by kernel_rfl) (by kernel_rfl) (by kernel_rfl) (fun _ _ _ h => h) (Or.inl ⟨by rfl, ?ys55⟩) (by assumption) ?_
  case ys55 => (intro wX hSw; (try dsimp only at hSw); go_simp <;> with_reducible rfl)
  try simp only [Act.put, List.setIfInBounds_toArray, List.set_cons_zero, List.set_cons_succ]
  refine wpAnyH_take (i := 56) (oi := { dst := some 130, op := Go.Op.move (Go.Operand.tmp 129), type := 4, pos := "law.go:23", after := #[{ on := 55, ground := Go.Ground.data }, { on := 51, ground := Go.Ground.chain }], guard := none }) (v := ?vs56) rfl (by kernel_rfl) (by kernel_rfl) (by kernel_rfl) (fun _ _ _ h => h) (Or.inl ⟨by rfl, ?ys56⟩) (by assumption) ?_
  case ys56 => (intro wX hSw; (try dsimp only at hSw); go_simp <;> with_reducible rfl)
  try simp only [Act.put, List.setIfInBounds_toArray, List.set_cons_zero, List.set_cons_succ]
  refine wpAnyH_take (i := 57) (oi := { dst := some 131, op := Go.Op.move (Go.Operand.tmp 14), type := 4, pos := "law.go:23", after := #[{ on := 56, ground := Go.Ground.guard }], guard := some (56, true) }) (v := ?vs57) rfl (by kernel_rfl) (by kernel_rfl) (by kernel_rfl) (fun _ _ _ h => h) (Or.inl ⟨by rfl, ?ys57⟩) (by assumption) ?_
  case ys57 => (intro wX hSw; (try dsimp only at hSw); go_simp <;> with_reducible rfl)
  try simp only [Act.put, List.setIfInBounds_toArray, List.set_cons_zero, List.set_cons_succ]
  refine wpAnyH_take (i := 58) (oi := { dst := some 132, op := Go.Op.pick (Go.Operand.tmp 130) (Go.Operand.tmp 131) (Go.Operand.const (Go.Value.bool false)), type := 4, pos := "law.go:23", after := #[{ on := 56, ground := Go.Ground.data }, { on := 57, ground := Go.Ground.data }], guard := none }) (v := ?vs58) rfl (by kernel_rfl) (by kernel_rfl) (by kernel_rfl) (fun _ _ _ h => h) (Or.inl ⟨by rfl, ?ys58⟩) (by assumption) ?_
  case ys58 => (intro wX hSw; (try dsimp only at hSw); go_simp <;> with_reducible rfl)
  try simp only [Act.put, List.setIfInBounds_toArray, List.set_cons_zero, List.set_cons_succ]
  refine wpAnyH_take (i := 59) (oi := { dst := some 133, op := Go.Op.move (Go.Operand.tmp 132), type := 4, pos := "law.go:23", after := #[{ on := 58, ground := Go.Ground.data }, { on := 56, ground := Go.Ground.chain }], guard := none }) (v := ?vs59) rfl (by kernel_rfl) (by kernel_rfl) (by kernel_rfl) (fun _ _ _ h => h) (Or.inl ⟨by rfl, ?ys59⟩) (by assumption) ?_
  case ys59 => (intro wX hSw; (try dsimp only at hSw); go_simp <;> with_reducible rfl)
  try simp only [Act.put, List.setIfInBounds_toArray, List.set_cons_zero, List.set_cons_succ]
  refine wpAnyH_take (i := 60) (oi := { dst := some 134, op := Go.Op.load 23 (Go.Operand.tmp 2), type := 23, pos := "law.go:23", after := #[{ on := 59, ground := Go.Ground.guard }], guard := some (59, true) }) (v := ?vs60) rfl (by kernel_rfl) (by kernel_rfl) (by kernel_rfl) (fun _ _ _ h => h) (Or.inl ⟨by rfl, ?ys60⟩) (by assumption) ?_
  case ys60 => (intro wX hSw; (try dsimp only at hSw); go_simp <;> with_reducible rfl)
  try simp only [Act.put, List.setIfInBounds_toArray, List.set_cons_zero, List.set_cons_succ]
  refine wpAnyH_ready (rs := [61]) (by kernel_rfl) (by simp) (AllReadyH.cons (o := { dst := some 135, op := Go.Op.call { callee := Go.Callee.value (Go.Operand.func 10), args := #[Go.Operand.tmp 134], argTypes := #[23] }, type := 4, pos := "law.go:23", after := #[{ on := 60, ground := Go.Ground.data }, { on := 59, ground := Go.Ground.chain }, { on := 59, ground := Go.Ground.guard }], guard := some (59, true) }) rfl (fun K hK => ?_) AllReadyH.nil)
  (go_simp; go_at_call 10; refine (r1 _).mono ?_; rintro e wc1 ⟨rfl, hbc1⟩)
  refine hK.out _ _ (⟨(Below.refl _ _).drew.trans hbc1, FF.out _ ((Below.refl _ _).drew.trans hbc1)⟩) (fun hHeld => ?_)
  clear hK K
  try simp only [Act.put, List.setIfInBounds_toArray, List.set_cons_zero, List.set_cons_succ]
  refine wpAnyH_take (i := 62) (oi := { dst := some 136, op := Go.Op.pick (Go.Operand.tmp 133) (Go.Operand.tmp 135) (Go.Operand.const (Go.Value.bool false)), type := 4, pos := "law.go:23", after := #[{ on := 59, ground := Go.Ground.data }, { on := 61, ground := Go.Ground.data }], guard := none }) (v := ?vs62) rfl (by kernel_rfl) (by kernel_rfl) (by kernel_rfl) (fun _ _ _ h => h) (Or.inl ⟨by rfl, ?ys62⟩) (by assumption) ?_
  case ys62 => (intro wX hSw; (try dsimp only at hSw); go_simp <;> with_reducible rfl)
  try simp only [Act.put, List.setIfInBounds_toArray, List.set_cons_zero, List.set_cons_succ]
  refine wpAnyH_take (i := 63) (oi := { dst := some 137, op := Go.Op.move (Go.Operand.tmp 136), type := 4, pos := "law.go:23", after := #[{ on := 62, ground := Go.Ground.data }, { on := 61, ground := Go.Ground.chain }], guard := none }) (v := ?vs63) rfl (by kernel_rfl) (by kernel_rfl) (by kernel_rfl) (fun _ _ _ h => h) (Or.inl ⟨by rfl, ?ys63⟩) (by assumption) ?_
  case ys63 => (intro wX hSw; (try dsimp only at hSw); go_simp <;> with_reducible rfl)
  try simp only [Act.put, List.setIfInBounds_toArray, List.set_cons_zero, List.set_cons_succ]
  refine wpAnyH_take (i := 64) (oi := { dst := some 138, op := Go.Op.load 23 (Go.Operand.tmp 4), type := 23, pos := "law.go:23", after := #[{ on := 63, ground := Go.Ground.guard }], guard := some (63, true) }) (v := ?vs64) rfl (by kernel_rfl) (by kernel_rfl) (by kernel_rfl) (fun _ _ _ h => h) (Or.inl ⟨by rfl, ?ys64⟩) (by assumption) ?_
  case ys64 => (intro wX hSw; (try dsimp only at hSw); go_simp <;> with_reducible rfl)
  try simp only [Act.put, List.setIfInBounds_toArray, List.set_cons_zero, List.set_cons_succ]
  refine wpAnyH_ready (rs := [65]) (by kernel_rfl) (by simp) (AllReadyH.cons (o := { dst := some 139, op := Go.Op.call { callee := Go.Callee.value (Go.Operand.func 10), args := #[Go.Operand.tmp 138], argTypes := #[23] }, type := 4, pos := "law.go:23", after := #[{ on := 64, ground := Go.Ground.data }, { on := 63, ground := Go.Ground.chain }, { on := 63, ground := Go.Ground.guard }], guard := some (63, true) }) rfl (fun K hK => ?_) AllReadyH.nil)
  (go_simp; go_at_call 10; refine (r2 _).mono ?_; rintro e wc2 ⟨rfl, hbc2⟩)
  refine hK.out _ _ (⟨hHeld.1.trans (hbc2.mono hHeld.1.size), FF.out _ (hHeld.1.trans (hbc2.mono hHeld.1.size))⟩) (fun hHeld => ?_)
  clear hK K
  try simp only [Act.put, List.setIfInBounds_toArray, List.set_cons_zero, List.set_cons_succ]
  refine wpAnyH_take (i := 66) (oi := { dst := some 140, op := Go.Op.unOp Go.UnOp.not 4 (Go.Operand.tmp 139), type := 4, pos := "law.go:23", after := #[{ on := 65, ground := Go.Ground.data }, { on := 63, ground := Go.Ground.guard }], guard := some (63, true) }) (v := ?vs66) rfl (by kernel_rfl) (by kernel_rfl) (by kernel_rfl) (fun _ _ _ h => h) (Or.inl ⟨by rfl, ?ys66⟩) (by assumption) ?_
  case ys66 => (intro wX hSw; (try dsimp only at hSw); go_simp <;> with_reducible rfl)
  try simp only [Act.put, List.setIfInBounds_toArray, List.set_cons_zero, List.set_cons_succ]
  refine wpAnyH_take (i := 67) (oi := { dst := some 141, op := Go.Op.pick (Go.Operand.tmp 137) (Go.Operand.tmp 140) (Go.Operand.const (Go.Value.bool false)), type := 4, pos := "law.go:23", after := #[{ on := 63, ground := Go.Ground.data }, { on := 66, ground := Go.Ground.data }], guard := none }) (v := ?vs67) rfl (by kernel_rfl) (by kernel_rfl) (by kernel_rfl) (fun _ _ _ h => h) (Or.inl ⟨by rfl, ?ys67⟩) (by assumption) ?_
  case ys67 => (intro wX hSw; (try dsimp only at hSw); go_simp <;> with_reducible rfl)
  try simp only [Act.put, List.setIfInBounds_toArray, List.set_cons_zero, List.set_cons_succ]
  refine wpAnyH_take (i := 68) (oi := { dst := some 142, op := Go.Op.move (Go.Operand.tmp 141), type := 4, pos := "law.go:23", after := #[{ on := 67, ground := Go.Ground.data }, { on := 65, ground := Go.Ground.chain }], guard := none }) (v := ?vs68) rfl (by kernel_rfl) (by kernel_rfl) (by kernel_rfl) (fun _ _ _ h => h) (Or.inl ⟨by rfl, ?ys68⟩) (by assumption) ?_
  case ys68 => (intro wX hSw; (try dsimp only at hSw); go_simp <;> with_reducible rfl)
  try simp only [Act.put, List.setIfInBounds_toArray, List.set_cons_zero, List.set_cons_succ]
  refine wpAnyH_take (i := 69) (oi := { dst := some 143, op := Go.Op.move (Go.Operand.tmp 16), type := 4, pos := "law.go:23", after := #[{ on := 68, ground := Go.Ground.guard }], guard := some (68, true) }) (v := ?vs69) rfl (by kernel_rfl) (by kernel_rfl) (by kernel_rfl) (fun _ _ _ h => h) (Or.inl ⟨by rfl, ?ys69⟩) (by assumption) ?_
  case ys69 => (intro wX hSw; (try dsimp only at hSw); go_simp <;> with_reducible rfl)
  try simp only [Act.put, List.setIfInBounds_toArray, List.set_cons_zero, List.set_cons_succ]
  refine wpAnyH_take (i := 70) (oi := { dst := some 144, op := Go.Op.pick (Go.Operand.tmp 142) (Go.Operand.tmp 143) (Go.Operand.const (Go.Value.bool false)), type := 4, pos := "law.go:23", after := #[{ on := 68, ground := Go.Ground.data }, { on := 69, ground := Go.Ground.data }], guard := none }) (v := ?vs70) rfl (by kernel_rfl) (by kernel_rfl) (by kernel_rfl) (fun _ _ _ h => h) (Or.inl ⟨by rfl, ?ys70⟩) (by assumption) ?_
  case ys70 => (intro wX hSw; (try dsimp only at hSw); go_simp <;> with_reducible rfl)
  try simp only [Act.put, List.setIfInBounds_toArray, List.set_cons_zero, List.set_cons_succ]
  refine wpAnyH_take (i := 71) (oi := { dst := some 145, op := Go.Op.move (Go.Operand.tmp 144), type := 4, pos := "law.go:23", after := #[{ on := 70, ground := Go.Ground.data }, { on := 68, ground := Go.Ground.chain }], guard := none }) (v := ?vs71) rfl (by kernel_rfl) (by kernel_rfl) (by kernel_rfl) (fun _ _ _ h => h) (Or.inl ⟨by rfl, ?ys71⟩) (by assumption) ?_
  case ys71 => (intro wX hSw; (try dsimp only at hSw); go_simp <;> with_reducible rfl)
  try simp only [Act.put, List.setIfInBounds_toArray, List.set_cons_zero, List.set_cons_succ]
  refine wpAnyH_take (i := 72) (oi := { dst := some 146, op := Go.Op.load 23 (Go.Operand.tmp 15), type := 23, pos := "law.go:23", after := #[{ on := 71, ground := Go.Ground.guard }], guard := some (71, true) }) (v := ?vs72) rfl (by kernel_rfl) (by kernel_rfl) (by kernel_rfl) (fun _ _ _ h => h) (Or.inl ⟨by rfl, ?ys72⟩) (by assumption) ?_
  case ys72 => (intro wX hSw; (try dsimp only at hSw); go_simp <;> with_reducible rfl)
  try simp only [Act.put, List.setIfInBounds_toArray, List.set_cons_zero, List.set_cons_succ]
  refine wpAnyH_take (i := 73) (oi := { dst := some 147, op := Go.Op.load 23 (Go.Operand.tmp 2), type := 23, pos := "law.go:23", after := #[{ on := 71, ground := Go.Ground.guard }], guard := some (71, true) }) (v := ?vs73) rfl (by kernel_rfl) (by kernel_rfl) (by kernel_rfl) (fun _ _ _ h => h) (Or.inl ⟨by rfl, ?ys73⟩) (by assumption) ?_
  case ys73 => (intro wX hSw; (try dsimp only at hSw); go_simp <;> with_reducible rfl)
  try simp only [Act.put, List.setIfInBounds_toArray, List.set_cons_zero, List.set_cons_succ]
  refine wpAnyH_take (i := 74) (oi := { dst := some 148, op := Go.Op.binOp Go.BinOp.eql 23 (Go.Operand.tmp 146) (Go.Operand.tmp 147) 23, type := 4, pos := "law.go:23", after := #[{ on := 72, ground := Go.Ground.data }, { on := 73, ground := Go.Ground.data }, { on := 71, ground := Go.Ground.guard }], guard := some (71, true) }) (v := ?vs74) rfl (by kernel_rfl) (by kernel_rfl) (by kernel_rfl) (fun _ _ _ h => h) (Or.inl ⟨by rfl, ?ys74⟩) (by assumption) ?_
  case ys74 => (intro wX hSw; (try dsimp only at hSw); go_simp <;> with_reducible rfl)
  try simp only [Act.put, List.setIfInBounds_toArray, List.set_cons_zero, List.set_cons_succ]
  refine wpAnyH_take (i := 75) (oi := { dst := some 149, op := Go.Op.pick (Go.Operand.tmp 145) (Go.Operand.tmp 148) (Go.Operand.const (Go.Value.bool false)), type := 4, pos := "law.go:23", after := #[{ on := 71, ground := Go.Ground.data }, { on := 74, ground := Go.Ground.data }], guard := none }) (v := ?vs75) rfl (by kernel_rfl) (by kernel_rfl) (by kernel_rfl) (fun _ _ _ h => h) (Or.inl ⟨by rfl, ?ys75⟩) (by assumption) ?_
  case ys75 => (intro wX hSw; (try dsimp only at hSw); go_simp <;> with_reducible rfl)
  try simp only [Act.put, List.setIfInBounds_toArray, List.set_cons_zero, List.set_cons_succ]
  refine wpAnyH_take (i := 76) (oi := { dst := some 0, op := Go.Op.assign (Go.Operand.tmp 149), type := 4, pos := "law.go:23", after := ([{ on := 75, ground := Go.Ground.data }, { on := 71, ground := Go.Ground.chain }, { on := 0, ground := Go.Ground.phase }, { on := 1, ground := Go.Ground.phase }, { on := 2, ground := Go.Ground.phase }, { on := 3, ground := Go.Ground.phase }, { on := 4, ground := Go.Ground.phase }, { on := 5, ground := Go.Ground.phase }, { on := 6, ground := Go.Ground.phase }, { on := 7, ground := Go.Ground.phase }, { on := 8, ground := Go.Ground.phase }, { on := 9, ground := Go.Ground.phase }, { on := 10, ground := Go.Ground.phase }, { on := 11, ground := Go.Ground.phase }, { on := 12, ground := Go.Ground.phase }, { on := 13, ground := Go.Ground.phase }, { on := 14, ground := Go.Ground.phase }, { on := 15, ground := Go.Ground.phase }, { on := 16, ground := Go.Ground.phase }, { on := 17, ground := Go.Ground.phase }, { on := 18, ground := Go.Ground.phase }, { on := 19, ground := Go.Ground.phase }, { on := 20, ground := Go.Ground.phase }, { on := 21, ground := Go.Ground.phase }, { on := 22, ground := Go.Ground.phase }, { on := 23, ground := Go.Ground.phase }, { on := 24, ground := Go.Ground.phase }, { on := 25, ground := Go.Ground.phase }, { on := 26, ground := Go.Ground.phase }, { on := 27, ground := Go.Ground.phase }, { on := 28, ground := Go.Ground.phase }, { on := 29, ground := Go.Ground.phase }, { on := 30, ground := Go.Ground.phase }, { on := 31, ground := Go.Ground.phase }, { on := 32, ground := Go.Ground.phase }, { on := 33, ground := Go.Ground.phase }, { on := 34, ground := Go.Ground.phase }, { on := 35, ground := Go.Ground.phase }, { on := 36, ground := Go.Ground.phase }].append [{ on := 37, ground := Go.Ground.phase }, { on := 38, ground := Go.Ground.phase }, { on := 39, ground := Go.Ground.phase }, { on := 40, ground := Go.Ground.phase }, { on := 41, ground := Go.Ground.phase }, { on := 42, ground := Go.Ground.phase }, { on := 43, ground := Go.Ground.phase }, { on := 44, ground := Go.Ground.phase }, { on := 45, ground := Go.Ground.phase }, { on := 46, ground := Go.Ground.phase }, { on := 47, ground := Go.Ground.phase }, { on := 48, ground := Go.Ground.phase }, { on := 49, ground := Go.Ground.phase }, { on := 50, ground := Go.Ground.phase }, { on := 51, ground := Go.Ground.phase }, { on := 52, ground := Go.Ground.phase }, { on := 53, ground := Go.Ground.phase }, { on := 54, ground := Go.Ground.phase }, { on := 55, ground := Go.Ground.phase }, { on := 56, ground := Go.Ground.phase }, { on := 57, ground := Go.Ground.phase }, { on := 58, ground := Go.Ground.phase }, { on := 59, ground := Go.Ground.phase }, { on := 60, ground := Go.Ground.phase }, { on := 61, ground := Go.Ground.phase }, { on := 62, ground := Go.Ground.phase }, { on := 63, ground := Go.Ground.phase }, { on := 64, ground := Go.Ground.phase }, { on := 65, ground := Go.Ground.phase }, { on := 66, ground := Go.Ground.phase }, { on := 67, ground := Go.Ground.phase }, { on := 68, ground := Go.Ground.phase }, { on := 69, ground := Go.Ground.phase }, { on := 70, ground := Go.Ground.phase }, { on := 71, ground := Go.Ground.phase }, { on := 72, ground := Go.Ground.phase }, { on := 73, ground := Go.Ground.phase }, { on := 74, ground := Go.Ground.phase }, { on := 75, ground := Go.Ground.phase }]).toArray, guard := none }) (v := ?vs76) rfl (by kernel_rfl) (by kernel_rfl) (by kernel_rfl) (fun _ _ _ h => h) (Or.inl ⟨by rfl, ?ys76⟩) (by assumption) ?_
  case ys76 => (intro wX hSw; (try dsimp only at hSw); go_simp <;> with_reducible rfl)
  try simp only [Act.put, List.setIfInBounds_toArray, List.set_cons_zero, List.set_cons_succ]
  refine wpAnyH_done (by kernel_rfl) ?_ _
  go_wp2
  go_ret
  exact ⟨rfl, HB.out.trans (hHeld.1.mono HB.out.size)⟩
end Go.Proofs.Ytemdecaiadkchaa
