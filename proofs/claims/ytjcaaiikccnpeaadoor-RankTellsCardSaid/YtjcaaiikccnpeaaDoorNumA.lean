/- num's Clamp, Add, Sub, walked (from the Num texts). -/
import Derived.Test.YtjcaaiikccnpeaaDoorNumBase
namespace Go.Proofs.YtjcaaiikccnpeaaDoor
open Go.ChangeShapes Go.WideShapes Go.ChangeAt Go.RowKit Go.Lib
set_option linter.unusedVariables false


def clampI (n low high : Int) : Int := if n < low then low else if high < n then high else n
def limI (n : Int) : Int := clampI n (-1125899906842624) 1125899906842624
theorem clamp_any (n l h : Int) (w : World) : Calls Tryd.prog 49 #[.int .i64 n, .int .i64 l, .int .i64 h] w (fun e w' => e = .returned (.int .i64 (clampI n l h)) ∧ w = w') := by
  by_cases h1 : n < l
  · have hN : Hid (clampI n l h = l) := by unfold Hid clampI; rw [if_pos h1]
    go_enter Tryd.func49, Tryd.ntmps49
    go_wp2
    go_ret
    exact ⟨by rw [hN.out]; rfl, rfl⟩
  · have hd : decide (n < l) = false := by simpa using h1
    by_cases h2 : h < n
    · have hN : Hid (clampI n l h = h) := by unfold Hid clampI; rw [if_neg h1, if_pos h2]
      go_enter Tryd.func49, Tryd.ntmps49
      go_wp2
      go_ret
      exact ⟨by rw [hN.out]; rfl, rfl⟩
    · have hd2 : decide (h < n) = false := by simpa using h2
      have hN : Hid (clampI n l h = n) := by unfold Hid clampI; rw [if_neg h1, if_neg h2]
      go_enter Tryd.func49, Tryd.ntmps49
      go_wp2
      go_ret
      exact ⟨by rw [hN.out]; rfl, rfl⟩
def TriPost (w : World) (n : Int) (ex neg : Bool) (e : Ending) (w' : World) : Prop := e = .returned (.tuple #[.int .i64 n, .bool ex, .bool neg]) ∧ Below w.heap.size w w'
def limB (n : Int) (ex neg : Bool) : Int := if ex = true then limI n else if neg = true then -1125899906842624 else 1125899906842624
theorem lim33 (p q : Nat) (w : World) (n : Int) (ex neg : Bool) (hc : Calls Tryd.prog 31 #[.pointer (some ⟨p, 0, none⟩), .pointer (some ⟨q, 0, none⟩)] w (TriPost w n ex neg)) :
    Calls Tryd.prog 30 #[.func (.func 31) #[] #[.pointer (some ⟨p, 0, none⟩), .pointer (some ⟨q, 0, none⟩)]] w (IntPost w (limB n ex neg)) := by
  cases ex
  · cases neg
    · have hN : Hid (limB n false false = 1125899906842624) := rfl
      go_enter Tryd.func30, Tryd.ntmps30
      go_wp2_with (go_at_call 31; refine hc.mono ?_; rintro e w1 ⟨rfl, hb⟩)
      go_ret
      exact ⟨by rw [hN.out]; rfl, hb⟩
    · have hN : Hid (limB n false true = -1125899906842624) := rfl
      go_enter Tryd.func30, Tryd.ntmps30
      go_wp2_with (go_at_call 31; refine hc.mono ?_; rintro e w1 ⟨rfl, hb⟩)
      go_ret
      exact ⟨by rw [hN.out]; rfl, hb⟩
  · have hN : Hid (limB n true neg = limI n) := rfl
    have hL : Hid (limI n = clampI n (-1125899906842624) 1125899906842624) := rfl
    go_enter Tryd.func30, Tryd.ntmps30
    go_wp2_with (first | (go_at_call 31; refine hc.mono ?_; rintro e w1 ⟨rfl, hb⟩) | (go_at_call 49; refine (clamp_any _ _ _ _).mono ?_; rintro e w2 ⟨rfl, rfl⟩))
    go_ret
    exact ⟨by rw [hN.out, hL.out]; rfl, hb⟩
theorem lim35 (p q : Nat) (w : World) (n : Int) (ex neg : Bool) (hc : Calls Tryd.prog 48 #[.pointer (some ⟨p, 0, none⟩), .pointer (some ⟨q, 0, none⟩)] w (TriPost w n ex neg)) :
    Calls Tryd.prog 30 #[.func (.func 48) #[] #[.pointer (some ⟨p, 0, none⟩), .pointer (some ⟨q, 0, none⟩)]] w (IntPost w (limB n ex neg)) := by
  cases ex
  · cases neg
    · have hN : Hid (limB n false false = 1125899906842624) := rfl
      go_enter Tryd.func30, Tryd.ntmps30
      go_wp2_with (go_at_call 48; refine hc.mono ?_; rintro e w1 ⟨rfl, hb⟩)
      go_ret
      exact ⟨by rw [hN.out]; rfl, hb⟩
    · have hN : Hid (limB n false true = -1125899906842624) := rfl
      go_enter Tryd.func30, Tryd.ntmps30
      go_wp2_with (go_at_call 48; refine hc.mono ?_; rintro e w1 ⟨rfl, hb⟩)
      go_ret
      exact ⟨by rw [hN.out]; rfl, hb⟩
  · have hN : Hid (limB n true neg = limI n) := rfl
    have hL : Hid (limI n = clampI n (-1125899906842624) 1125899906842624) := rfl
    go_enter Tryd.func30, Tryd.ntmps30
    go_wp2_with (first | (go_at_call 48; refine hc.mono ?_; rintro e w1 ⟨rfl, hb⟩) | (go_at_call 49; refine (clamp_any _ _ _ _).mono ?_; rintro e w2 ⟨rfl, rfl⟩))
    go_ret
    exact ⟨by rw [hN.out, hL.out]; rfl, hb⟩
theorem lim36 (p q : Nat) (w : World) (n : Int) (ex neg : Bool) (hc : Calls Tryd.prog 32 #[.pointer (some ⟨p, 0, none⟩), .pointer (some ⟨q, 0, none⟩)] w (TriPost w n ex neg)) :
    Calls Tryd.prog 30 #[.func (.func 32) #[] #[.pointer (some ⟨p, 0, none⟩), .pointer (some ⟨q, 0, none⟩)]] w (IntPost w (limB n ex neg)) := by
  cases ex
  · cases neg
    · have hN : Hid (limB n false false = 1125899906842624) := rfl
      go_enter Tryd.func30, Tryd.ntmps30
      go_wp2_with (go_at_call 32; refine hc.mono ?_; rintro e w1 ⟨rfl, hb⟩)
      go_ret
      exact ⟨by rw [hN.out]; rfl, hb⟩
    · have hN : Hid (limB n false true = -1125899906842624) := rfl
      go_enter Tryd.func30, Tryd.ntmps30
      go_wp2_with (go_at_call 32; refine hc.mono ?_; rintro e w1 ⟨rfl, hb⟩)
      go_ret
      exact ⟨by rw [hN.out]; rfl, hb⟩
  · have hN : Hid (limB n true neg = limI n) := rfl
    have hL : Hid (limI n = clampI n (-1125899906842624) 1125899906842624) := rfl
    go_enter Tryd.func30, Tryd.ntmps30
    go_wp2_with (first | (go_at_call 32; refine hc.mono ?_; rintro e w1 ⟨rfl, hb⟩) | (go_at_call 49; refine (clamp_any _ _ _ _).mono ?_; rintro e w2 ⟨rfl, rfl⟩))
    go_ret
    exact ⟨by rw [hN.out, hL.out]; rfl, hb⟩
theorem new_cell0 (w : World) (v : Value) (t : Nat) : (w.alloc (.cells #[v] t)).cell? ⟨w.heap.size, 0, none⟩ = some v := by
  rw [cell_of_row _ _ _ _ _ (0, 0) (heap_alloc_new w _)]; rfl
theorem two_old1 (w : World) (v u : Value) (t t' : Nat) : ((w.alloc (.cells #[v] t)).alloc (.cells #[u] t')).cell? ⟨w.heap.size, 0, none⟩ = some v := by
  rw [World.cell?_of_block (w := w.alloc (.cells #[v] t)) (Below.heap_alloc _ _ _ (by simp))]
  exact new_cell0 w v t
theorem two_new1 (w : World) (v u : Value) (t t' : Nat) : ((w.alloc (.cells #[v] t)).alloc (.cells #[u] t')).cell? ⟨w.heap.size + 1, 0, none⟩ = some u := by
  have h := new_cell0 (w.alloc (.cells #[v] t)) u t'
  rwa [show (w.alloc (.cells #[v] t)).heap.size = w.heap.size + 1 by simp] at h

theorem add_in (p q : Nat) (a b : Int) (w : World) (ha : wf64 a) (hb : wf64 b) (hp : w.cell? ⟨p, 0, none⟩ = some (.int .i64 a)) (hq : w.cell? ⟨q, 0, none⟩ = some (.int .i64 b)) :
    ∃ n ex, (ex = true → n = a + b) ∧ (ex = false → (a < 0 → a + b < -9223372036854775808) ∧ (0 ≤ a → 9223372036854775807 < a + b)) ∧ Calls Tryd.prog 31 #[.pointer (some ⟨p, 0, none⟩), .pointer (some ⟨q, 0, none⟩)] w (TriPost w n ex (decide (a < 0))) := by
  unfold wf64 at ha hb
  by_cases hlo : a + b < -9223372036854775808
  · have hw : wrap64 (a + b) = a + b + 18446744073709551616 := by unfold wrap64; omega
    have d1 : decide (a < 0) = true := decide_eq_true (by omega)
    have d2 : decide (b < 0) = true := decide_eq_true (by omega)
    have d3 : decide (a + b + 18446744073709551616 < 0) = false := decide_eq_false (by omega)
    refine ⟨wrap64 (a + b), false, by simp, fun _ => ⟨fun _ => hlo, fun h => by omega⟩, ?_⟩
    rw [d1]
    have HLO := Lib.hid hlo
    clear hlo
    go_enter Tryd.func31, Tryd.ntmps31
    go_wp2
    go_quiet (fail)
    go_wp2
    go_ret3
    exact ⟨rfl, below_drewN (Below.refl _ _) _⟩
  · by_cases hhi : 9223372036854775807 < a + b
    · have hw : wrap64 (a + b) = a + b - 18446744073709551616 := by unfold wrap64; omega
      have d1 : decide (a < 0) = false := decide_eq_false (by omega)
      have d2 : decide (b < 0) = false := decide_eq_false (by omega)
      have d3 : decide (a + b - 18446744073709551616 < 0) = true := decide_eq_true (by omega)
      refine ⟨wrap64 (a + b), false, by simp, fun _ => ⟨fun h => by omega, fun _ => hhi⟩, ?_⟩
      rw [d1]
      have HHI := Lib.hid hhi
      clear hhi hlo
      go_enter Tryd.func31, Tryd.ntmps31
      go_wp2
      go_quiet (fail)
      go_wp2
      go_ret3
      exact ⟨rfl, below_drewN (Below.refl _ _) _⟩
    · have h1 : -9223372036854775808 ≤ a + b := by omega
      have h2 : a + b ≤ 9223372036854775807 := by omega
      refine ⟨a + b, true, fun _ => rfl, by simp, ?_⟩
      clear hlo hhi
      by_cases ca : a < 0
      · have d1 : decide (a < 0) = true := decide_eq_true ca
        rw [d1]
        by_cases cb : b < 0
        · have d2 : decide (b < 0) = true := decide_eq_true cb
          have d3 : decide (a + b < 0) = true := decide_eq_true (by omega)
          clear ca cb
          go_enter Tryd.func31, Tryd.ntmps31
          go_wp2
          go_quiet (fail)
          go_wp2
          go_ret3
          exact ⟨rfl, below_drewN (Below.refl _ _) _⟩
        · have d2 : decide (b < 0) = false := decide_eq_false cb
          skip
          clear ca cb
          go_enter Tryd.func31, Tryd.ntmps31
          go_wp2
          go_quiet (fail)
          go_wp2
          go_ret3
          exact ⟨rfl, below_drewN (Below.refl _ _) _⟩
      · have d1 : decide (a < 0) = false := decide_eq_false ca
        rw [d1]
        by_cases cb : b < 0
        · have d2 : decide (b < 0) = true := decide_eq_true cb
          skip
          clear ca cb
          go_enter Tryd.func31, Tryd.ntmps31
          go_wp2
          go_quiet (fail)
          go_wp2
          go_ret3
          exact ⟨rfl, below_drewN (Below.refl _ _) _⟩
        · have d2 : decide (b < 0) = false := decide_eq_false cb
          have d3 : decide (a + b < 0) = false := decide_eq_false (by omega)
          clear ca cb
          go_enter Tryd.func31, Tryd.ntmps31
          go_wp2
          go_quiet (fail)
          go_wp2
          go_ret3
          exact ⟨rfl, below_drewN (Below.refl _ _) _⟩
theorem add_any (a b : Int) (w : World) (ha : wf64 a) (hb : wf64 b) : Calls Tryd.prog 13 #[.int .i64 a, .int .i64 b] w (IntPost w (limI (a + b))) := by
  have hmf : ∀ (fn : Fn) (first cap : Array Value) (w : World), (Instr.makeFunc fn first cap).run Tryd.prog w = .ok (.func fn first cap) w := fun _ _ _ _ => rfl
  obtain ⟨W, hW⟩ : ∃ W, W = (w.alloc (.cells #[.int .i64 a] 3)).alloc (.cells #[.int .i64 b] 3) := ⟨_, rfl⟩
  have hbW : Below w.heap.size w W := by rw [hW]; exact ((Below.refl _ _).alloc (Nat.le_refl _) _).alloc (by simp) _
  have hp : W.cell? ⟨w.heap.size, 0, none⟩ = some (.int .i64 a) := by rw [hW]; exact two_old1 w _ _ 3 3
  have hq : W.cell? ⟨w.heap.size + 1, 0, none⟩ = some (.int .i64 b) := by rw [hW]; exact two_new1 w _ _ 3 3
  obtain ⟨n, ex, hn, ho, hc⟩ := add_in w.heap.size (w.heap.size + 1) a b W ha hb hp hq
  have c := lim33 _ _ _ _ _ _ hc
  have hR : Hid (limB n ex (decide (a < 0)) = limI (a + b)) := by
    unfold Hid limB
    cases ex
    · obtain ⟨o1, o2⟩ := ho rfl
      simp only [Bool.false_eq_true, if_false, decide_eq_true_eq]
      unfold limI clampI
      by_cases h : a < 0
      · rw [if_pos h, if_pos (by have := o1 h; omega)]
      · rw [if_neg h, if_neg (by have := o2 (by omega); omega), if_pos (by have := o2 (by omega); omega)]
    · rw [if_pos rfl, hn rfl]
  clear hn ho hc hp hq
  go_enter Tryd.func13, Tryd.ntmps13
  go_wp2_with fail
  rw [← hW]
  clear hW
  refine (Calls.mono c ?_)
  rintro e w1 ⟨rfl, hb1⟩
  go_wp2
  go_ret
  exact ⟨by rw [← hR.out]; rfl, hbW.trans (hb1.mono hbW.size)⟩

theorem sub_in (p q : Nat) (a b : Int) (w : World) (ha : wf64 a) (hb : wf64 b) (hp : w.cell? ⟨p, 0, none⟩ = some (.int .i64 a)) (hq : w.cell? ⟨q, 0, none⟩ = some (.int .i64 b)) :
    ∃ n ex, (ex = true → n = a - b) ∧ (ex = false → (a < 0 → a - b < -9223372036854775808) ∧ (0 ≤ a → 9223372036854775807 < a - b)) ∧ Calls Tryd.prog 48 #[.pointer (some ⟨p, 0, none⟩), .pointer (some ⟨q, 0, none⟩)] w (TriPost w n ex (decide (a < 0))) := by
  unfold wf64 at ha hb
  by_cases hlo : a - b < -9223372036854775808
  · have hw : wrap64 (a - b) = a - b + 18446744073709551616 := by unfold wrap64; omega
    have d1 : decide (a < 0) = true := decide_eq_true (by omega)
    have d2 : decide (b < 0) = false := decide_eq_false (by omega)
    have d3 : decide (a - b + 18446744073709551616 < 0) = false := decide_eq_false (by omega)
    refine ⟨wrap64 (a - b), false, by simp, fun _ => ⟨fun _ => hlo, fun h => by omega⟩, ?_⟩
    rw [d1]
    have HLO := Lib.hid hlo
    clear hlo
    go_enter Tryd.func48, Tryd.ntmps48
    go_wp2
    go_quiet (fail)
    go_wp2
    go_ret3
    exact ⟨rfl, below_drewN (Below.refl _ _) _⟩
  · by_cases hhi : 9223372036854775807 < a - b
    · have hw : wrap64 (a - b) = a - b - 18446744073709551616 := by unfold wrap64; omega
      have d1 : decide (a < 0) = false := decide_eq_false (by omega)
      have d2 : decide (b < 0) = true := decide_eq_true (by omega)
      have d3 : decide (a - b - 18446744073709551616 < 0) = true := decide_eq_true (by omega)
      refine ⟨wrap64 (a - b), false, by simp, fun _ => ⟨fun h => by omega, fun _ => hhi⟩, ?_⟩
      rw [d1]
      have HHI := Lib.hid hhi
      clear hhi hlo
      go_enter Tryd.func48, Tryd.ntmps48
      go_wp2
      go_quiet (fail)
      go_wp2
      go_ret3
      exact ⟨rfl, below_drewN (Below.refl _ _) _⟩
    · have h1 : -9223372036854775808 ≤ a - b := by omega
      have h2 : a - b ≤ 9223372036854775807 := by omega
      refine ⟨a - b, true, fun _ => rfl, by simp, ?_⟩
      clear hlo hhi
      by_cases ca : a < 0
      · have d1 : decide (a < 0) = true := decide_eq_true ca
        rw [d1]
        by_cases cb : b < 0
        · have d2 : decide (b < 0) = true := decide_eq_true cb
          skip
          clear ca cb
          go_enter Tryd.func48, Tryd.ntmps48
          go_wp2
          go_quiet (fail)
          go_wp2
          go_ret3
          exact ⟨rfl, below_drewN (Below.refl _ _) _⟩
        · have d2 : decide (b < 0) = false := decide_eq_false cb
          have d3 : decide (a - b < 0) = true := decide_eq_true (by omega)
          clear ca cb
          go_enter Tryd.func48, Tryd.ntmps48
          go_wp2
          go_quiet (fail)
          go_wp2
          go_ret3
          exact ⟨rfl, below_drewN (Below.refl _ _) _⟩
      · have d1 : decide (a < 0) = false := decide_eq_false ca
        rw [d1]
        by_cases cb : b < 0
        · have d2 : decide (b < 0) = true := decide_eq_true cb
          have d3 : decide (a - b < 0) = false := decide_eq_false (by omega)
          clear ca cb
          go_enter Tryd.func48, Tryd.ntmps48
          go_wp2
          go_quiet (fail)
          go_wp2
          go_ret3
          exact ⟨rfl, below_drewN (Below.refl _ _) _⟩
        · have d2 : decide (b < 0) = false := decide_eq_false cb
          skip
          clear ca cb
          go_enter Tryd.func48, Tryd.ntmps48
          go_wp2
          go_quiet (fail)
          go_wp2
          go_ret3
          exact ⟨rfl, below_drewN (Below.refl _ _) _⟩
theorem sub_any (a b : Int) (w : World) (ha : wf64 a) (hb : wf64 b) : Calls Tryd.prog 29 #[.int .i64 a, .int .i64 b] w (IntPost w (limI (a - b))) := by
  have hmf : ∀ (fn : Fn) (first cap : Array Value) (w : World), (Instr.makeFunc fn first cap).run Tryd.prog w = .ok (.func fn first cap) w := fun _ _ _ _ => rfl
  obtain ⟨W, hW⟩ : ∃ W, W = (w.alloc (.cells #[.int .i64 a] 3)).alloc (.cells #[.int .i64 b] 3) := ⟨_, rfl⟩
  have hbW : Below w.heap.size w W := by rw [hW]; exact ((Below.refl _ _).alloc (Nat.le_refl _) _).alloc (by simp) _
  have hp : W.cell? ⟨w.heap.size, 0, none⟩ = some (.int .i64 a) := by rw [hW]; exact two_old1 w _ _ 3 3
  have hq : W.cell? ⟨w.heap.size + 1, 0, none⟩ = some (.int .i64 b) := by rw [hW]; exact two_new1 w _ _ 3 3
  obtain ⟨n, ex, hn, ho, hc⟩ := sub_in w.heap.size (w.heap.size + 1) a b W ha hb hp hq
  have c := lim35 _ _ _ _ _ _ hc
  have hR : Hid (limB n ex (decide (a < 0)) = limI (a - b)) := by
    unfold Hid limB
    cases ex
    · obtain ⟨o1, o2⟩ := ho rfl
      simp only [Bool.false_eq_true, if_false, decide_eq_true_eq]
      unfold limI clampI
      by_cases h : a < 0
      · rw [if_pos h, if_pos (by have := o1 h; omega)]
      · rw [if_neg h, if_neg (by have := o2 (by omega); omega), if_pos (by have := o2 (by omega); omega)]
    · rw [if_pos rfl, hn rfl]
  clear hn ho hc hp hq
  go_enter Tryd.func29, Tryd.ntmps29
  go_wp2_with fail
  rw [← hW]
  clear hW
  refine (Calls.mono c ?_)
  rintro e w1 ⟨rfl, hb1⟩
  go_wp2
  go_ret
  exact ⟨by rw [← hR.out]; rfl, hbW.trans (hb1.mono hbW.size)⟩
end Go.Proofs.YtjcaaiikccnpeaaDoor
