/- rows of ints; size, walked. -/
import Derived.Test.YtemdecaiadkchaaPgDif
namespace Go.Proofs.Ytemdecaiadkchaa
open Go.ChangeShapes Go.WideShapes Go.ChangeAt Go.RowKit Go.Lib
set_option linter.unusedVariables false

def RowAt (w : World) (A : Option Addr) (xs : List Value) : Prop := 0 < xs.length → ∃ b o, A = some ⟨b, o, none⟩ ∧ ∀ i x, xs[i]? = some x → w.cell? ⟨b, o + i, none⟩ = some x
theorem RowAt.below {w w' : World} {A : Option Addr} {xs : List Value} (h : RowAt w A xs) (hb : Below w.heap.size w w') : RowAt w' A xs := by
  intro hp
  obtain ⟨b, o, hA, hc⟩ := h hp
  refine ⟨b, o, hA, fun i x hx => ?_⟩
  exact (hb.cell (lt_of_cell (hc i x hx))).trans (hc i x hx)
theorem RowAt.at {w : World} {A : Option Addr} {xs : List Value} (h : RowAt w A xs) {i : Nat} {x : Value} (hx : xs[i]? = some x) : ∃ b o, A = some ⟨b, o, none⟩ ∧ w.cell? ⟨b, o + i, none⟩ = some x := by
  obtain ⟨b, o, hA, hc⟩ := h (by have := (List.getElem?_eq_some_iff.1 hx).1; omega)
  exact ⟨b, o, hA, hc i x hx⟩
def ints (l : List Int) : List Value := l.map fun n => .int .i64 n
theorem ints_length (l : List Int) : (ints l).length = l.length := by simp [ints]
theorem ints_get {l : List Int} {i : Nat} {x : Int} (h : l[i]? = some x) : (ints l)[i]? = some (.int .i64 x) := by simp [ints, h]
def SizeP (w : World) (e : Ending) (w' : World) : Prop := ∃ z : Nat, 1 ≤ z ∧ z ≤ 60 ∧ e = .returned (.int .i64 z) ∧ w' = w
theorem size_any (a : List Int) (A : Option Addr) (C i : Nat) (w : World) (hi : i ≤ 1000) (ha : RowAt w A (ints a)) : Calls Try.prog 14 #[.slice A a.length C, .int .i64 i] w (SizeP w) := by
  by_cases h : i < a.length
  · have d1 : decide ((a.length : Int) ≤ (i : Int)) = false := decide_eq_false (by omega)
    have d1N : decide (a.length ≤ i) = false := decide_eq_false (by omega)
    have bi : (i : Int) < (a.length : Int) := by omega
    obtain ⟨x, hx⟩ : ∃ x, a[i]? = some x := ⟨_, List.getElem?_eq_getElem h⟩
    obtain ⟨b, o, rfl, hc⟩ := ha.at (ints_get hx)
    have h1 := Int.tmod_lt_of_pos x (b := 60) (by omega)
    have h2 := Int.lt_tmod_of_pos x (b := 60) (by omega)
    have hw0 : IntKind.i64.wrap (x.tmod 60) = x.tmod 60 := IntWalk.i64_in _ (by omega)
    have hw1 : IntKind.i64.wrap (x.tmod 60 + 60) = x.tmod 60 + 60 := IntWalk.i64_in _ (by omega)
    have hw2 : IntKind.i64.wrap (x.tmod 60 + 1) = x.tmod 60 + 1 := IntWalk.i64_in _ (by omega)
    have hw3 : IntKind.i64.wrap (x.tmod 60 + 60 + 1) = x.tmod 60 + 60 + 1 := IntWalk.i64_in _ (by omega)
    have hw4 : IntKind.i64.wrap (x.tmod 60 + 61) = x.tmod 60 + 61 := IntWalk.i64_in _ (by omega)
    clear hx ha
    generalize hr : x.tmod 60 = r at *
    by_cases hn : r < 0
    · have d2 : decide (r < 0) = true := decide_eq_true hn
      have hz : ∃ z : Nat, 1 ≤ z ∧ z ≤ 60 ∧ r + 60 + 1 = (z : Int) := ⟨(r + 61).toNat, by omega, by omega, by omega⟩
      have HZ := Lib.hid hz
      clear hz h1 h2
      go_enter Try.func14, Try.ntmps14
      go_wp2
      go_ret
      obtain ⟨z, z1, z2, z3⟩ := HZ.out
      exact ⟨z, z1, z2, by rw [← z3]; rfl, rfl⟩
    · have d2 : decide (r < 0) = false := decide_eq_false hn
      have hz : ∃ z : Nat, 1 ≤ z ∧ z ≤ 60 ∧ r + 1 = (z : Int) := ⟨(r + 1).toNat, by omega, by omega, by omega⟩
      have HZ := Lib.hid hz
      clear hz h1 h2
      go_enter Try.func14, Try.ntmps14
      go_wp2
      go_ret
      obtain ⟨z, z1, z2, z3⟩ := HZ.out
      exact ⟨z, z1, z2, by rw [← z3]; rfl, rfl⟩
  · have d1 : decide ((a.length : Int) ≤ (i : Int)) = true := decide_eq_true (by omega)
    have d1N : decide (a.length ≤ i) = true := decide_eq_true (by omega)
    go_enter Try.func14, Try.ntmps14
    go_wp2
    go_ret
    exact ⟨7, by omega, by omega, rfl, rfl⟩
end Go.Proofs.Ytemdecaiadkchaa
