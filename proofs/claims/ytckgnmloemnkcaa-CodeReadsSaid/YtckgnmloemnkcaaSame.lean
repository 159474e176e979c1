/- light, SameTexts, SameNums, walked. -/
import Derived.Test.YtckgnmloemnkcaaRd3
import Derived.Deep.QuietTactic
import Derived.BigQuiet
namespace Go.Proofs.Ytckgnmloemnkcaa
open Go.ChangeShapes Go.WideShapes Go.ChangeAt Go.RowKit Go.Lib
set_option linter.unusedVariables false

theorem below_drewN {B : Nat} {a w : World} (h : Below B a w) (n : Nat) : Below B a (w.drewN n) := ⟨h.os, h.tape, h.output, h.size, h.block⟩
def BoolPost (w : World) (b : Bool) (e : Ending) (w' : World) : Prop := e = .returned (.bool b) ∧ Below w.heap.size w w'
def lightB (l : List (List UInt8)) : Bool := decide (l.length ≤ 100 ∧ ∀ s, s ∈ l → s.length ≤ 1000)
theorem light_any (l : List (List UInt8)) (A : Option Addr) (C : Nat) (w : World) (hl : RowAt w A (strs l)) : Calls Try.prog 11 #[.slice A l.length C] w (fun e w' => e = .returned (.bool (lightB l)) ∧ w' = w) := by
  by_cases h100 : 100 < l.length
  · have HN : Hid (lightB l = false) := by unfold Hid lightB; simp; omega
    go_enter Try.func11, Try.ntmps11
    go_wp2
    go_ret
    exact ⟨by rw [HN.out]; rfl, rfl⟩
  · go_enter Try.func11, Try.ntmps11
    go_wp2
    go_loop [3] (fun v0 => ∃ k : Nat, v0 = .int .i64 k ∧ k ≤ l.length ∧ Hid (∀ j : Nat, ∀ s, j < k → l[j]? = some s → s.length ≤ 1000)) (fun v0 => l.length - (intOf v0).toNat)
    case atStart => exact ⟨0, rfl, by omega, by intro j s hj; omega⟩
    case round =>
      obtain ⟨k, rfl, hk, HJ⟩ := hrel
      by_cases hlt : k < l.length
      · obtain ⟨x, hx⟩ : ∃ x, l[k]? = some x := ⟨_, List.getElem?_eq_getElem hlt⟩
        obtain ⟨bx, ox, rfl, hcx⟩ := hl.at (strs_get hx)
        have HX := Lib.hid hx
        have hs := bs_size x
        clear hx
        by_cases hbig : 1000 < x.length
        · have HN : Hid (lightB l = false) := by
            unfold Hid lightB
            simp only [decide_eq_false_iff_not]
            rintro ⟨_, h⟩
            have := h x (List.mem_of_getElem? HX.out)
            omega
          go_wp2
          go_ret
          exact ⟨by rw [HN.out]; rfl, rfl⟩
        · go_wp2
          refine ⟨⟨k + 1, by simp, by omega, ?_⟩, by simp [intOf]; omega⟩
          intro j s hj hjs
          rcases Nat.lt_or_eq_of_le (Nat.le_of_lt_succ hj) with h | h
          · exact HJ.out j s h hjs
          · subst h
            rw [HX.out] at hjs
            simp at hjs
            subst hjs
            omega
      · have HN : Hid (lightB l = true) := by
          unfold Hid lightB
          simp only [decide_eq_true_eq]
          refine ⟨by omega, fun s hs => ?_⟩
          obtain ⟨j, hj, he⟩ := List.mem_iff_getElem.1 hs
          exact HJ.out j s (by omega) (by rw [List.getElem?_eq_getElem hj, he])
        go_wp2
        go_ret
        exact ⟨by rw [HN.out]; rfl, rfl⟩

theorem sameTexts_any (a b : List (List UInt8)) (A B : Option Addr) (C D : Nat) (w : World) (ha : RowAt w A (strs a)) (hb : RowAt w B (strs b)) (hal : a.length ≤ 1000000000) (hbl : b.length ≤ 1000000000) : Calls Try.prog 32 #[.slice A a.length C, .slice B b.length D] w (BoolPost w (decide (a = b))) := by
  by_cases hlen : a.length = b.length
  · have hne : ((a.length : Int) == b.length) = true := by simp; omega
    have HLEN := Lib.hid hlen
    clear hlen
    go_enter Try.func32, Try.ntmps32
    go_wp2
    go_loopw [5] (fun v0 wr => ∃ k : Nat, v0 = .int .i64 k ∧ k ≤ a.length ∧ Hid (∀ j : Nat, j < k → a[j]? = b[j]?) ∧ Below w.heap.size w wr) (fun v0 _ => a.length - (intOf v0).toNat)
    case atStart => exact ⟨0, rfl, by omega, by intro j hj; omega, Below.refl _ _⟩
    case round =>
      obtain ⟨k, rfl, hk, HJ, hbel⟩ := hrel
      by_cases hlt : k < a.length
      · obtain ⟨x, hx⟩ : ∃ x, a[k]? = some x := ⟨_, List.getElem?_eq_getElem hlt⟩
        obtain ⟨y, hy⟩ : ∃ y, b[k]? = some y := ⟨_, List.getElem?_eq_getElem (by rw [← HLEN.out]; exact hlt)⟩
        obtain ⟨bx, ox, rfl, hcx⟩ := (ha.below hbel).at (strs_get hx)
        obtain ⟨by', oy, rfl, hcy⟩ := (hb.below hbel).at (strs_get hy)
        have HX := Lib.hid hx
        have HY := Lib.hid hy
        have hkb : k < b.length := by rw [← HLEN.out]; exact hlt
        clear hx hy
        have e1 := bs_toList x
        have e2 := bs_toList y
        by_cases hxy : x = y
        · have HXY := Lib.hid hxy
          have hbq : (x == y) = true := by simpa using hxy
          clear hxy
          go_wp2
          go_quiet (fail)
          go_wp2
          go_roundw
          case rel =>
            refine ⟨k + 1, by go_num, by omega, ?_, below_drewN hbel _⟩
            intro j hj
            rcases Nat.lt_or_eq_of_le (Nat.le_of_lt_succ hj) with h | h
            · exact HJ.out j h
            · subst h; rw [HX.out, HY.out, HXY.out]
          case measure => simp [intOf]; omega
        · have hab : a ≠ b := by intro e; rw [e] at HX; have := HX.out.symm.trans HY.out; simp at this; exact hxy this
          have HAB : Hid (decide (a = b) = false) := by unfold Hid; simpa using hab
          have hbq : (x == y) = false := by simpa using hxy
          clear hab
          go_wp2
          go_quiet (fail)
          go_wp2
          go_ret
          exact ⟨by rw [HAB.out]; rfl, below_drewN hbel _⟩
      · have HAB : Hid (decide (a = b) = true) := by
          unfold Hid
          simp only [decide_eq_true_eq]
          apply List.ext_getElem?
          intro j
          rcases Nat.lt_or_ge j k with h | h
          · exact HJ.out j h
          · rw [List.getElem?_eq_none (by omega), List.getElem?_eq_none (by rw [← HLEN.out]; omega)]
        go_wp2
        go_ret
        exact ⟨by rw [HAB.out]; rfl, hbel⟩
  · have hne : ((a.length : Int) == b.length) = false := by simp; omega
    have HAB : Hid (decide (a = b) = false) := by
      unfold Hid
      simp only [decide_eq_false_iff_not]
      intro e; rw [e] at hlen; exact hlen rfl
    go_enter Try.func32, Try.ntmps32
    go_wp2
    go_ret
    exact ⟨by rw [HAB.out]; rfl, Below.refl _ _⟩

theorem sameNums_any (a b : List Int) (A B : Option Addr) (C D : Nat) (w : World) (ha : RowAt w A (ints a)) (hb : RowAt w B (ints b)) (hal : a.length ≤ 1000000000) (hbl : b.length ≤ 1000000000) : Calls Try.prog 35 #[.slice A a.length C, .slice B b.length D] w (BoolPost w (decide (a = b))) := by
  by_cases hlen : a.length = b.length
  · have hne : ((a.length : Int) == b.length) = true := by simp; omega
    have HLEN := Lib.hid hlen
    clear hlen
    go_enter Try.func35, Try.ntmps35
    go_wp2
    go_loopw [5] (fun v0 wr => ∃ k : Nat, v0 = .int .i64 k ∧ k ≤ a.length ∧ Hid (∀ j : Nat, j < k → a[j]? = b[j]?) ∧ Below w.heap.size w wr) (fun v0 _ => a.length - (intOf v0).toNat)
    case atStart => exact ⟨0, rfl, by omega, by intro j hj; omega, Below.refl _ _⟩
    case round =>
      obtain ⟨k, rfl, hk, HJ, hbel⟩ := hrel
      by_cases hlt : k < a.length
      · obtain ⟨x, hx⟩ : ∃ x, a[k]? = some x := ⟨_, List.getElem?_eq_getElem hlt⟩
        obtain ⟨y, hy⟩ : ∃ y, b[k]? = some y := ⟨_, List.getElem?_eq_getElem (by rw [← HLEN.out]; exact hlt)⟩
        obtain ⟨bx, ox, rfl, hcx⟩ := (ha.below hbel).at (ints_get hx)
        obtain ⟨by', oy, rfl, hcy⟩ := (hb.below hbel).at (ints_get hy)
        have HX := Lib.hid hx
        have HY := Lib.hid hy
        have hkb : k < b.length := by rw [← HLEN.out]; exact hlt
        clear hx hy
        
        by_cases hxy : x = y
        · have HXY := Lib.hid hxy
          have hbq : (x == y) = true := by simpa using hxy
          clear hxy
          go_wp2
          go_quiet (fail)
          go_wp2
          go_roundw
          case rel =>
            refine ⟨k + 1, by go_num, by omega, ?_, below_drewN hbel _⟩
            intro j hj
            rcases Nat.lt_or_eq_of_le (Nat.le_of_lt_succ hj) with h | h
            · exact HJ.out j h
            · subst h; rw [HX.out, HY.out, HXY.out]
          case measure => simp [intOf]; omega
        · have hab : a ≠ b := by intro e; rw [e] at HX; have := HX.out.symm.trans HY.out; simp at this; exact hxy this
          have HAB : Hid (decide (a = b) = false) := by unfold Hid; simpa using hab
          have hbq : (x == y) = false := by simpa using hxy
          clear hab
          go_wp2
          go_quiet (fail)
          go_wp2
          go_ret
          exact ⟨by rw [HAB.out]; rfl, below_drewN hbel _⟩
      · have HAB : Hid (decide (a = b) = true) := by
          unfold Hid
          simp only [decide_eq_true_eq]
          apply List.ext_getElem?
          intro j
          rcases Nat.lt_or_ge j k with h | h
          · exact HJ.out j h
          · rw [List.getElem?_eq_none (by omega), List.getElem?_eq_none (by rw [← HLEN.out]; omega)]
        go_wp2
        go_ret
        exact ⟨by rw [HAB.out]; rfl, hbel⟩
  · have hne : ((a.length : Int) == b.length) = false := by simp; omega
    have HAB : Hid (decide (a = b) = false) := by
      unfold Hid
      simp only [decide_eq_false_iff_not]
      intro e; rw [e] at hlen; exact hlen rfl
    go_enter Try.func35, Try.ntmps35
    go_wp2
    go_ret
    exact ⟨by rw [HAB.out]; rfl, Below.refl _ _⟩
end Go.Proofs.Ytckgnmloemnkcaa
