/- The reference's arithmetic, walked: it computes what num computes. -/
import Derived.Test.YtjcaaiikccnpeaaDoorCmp
namespace Go.Proofs.YtjcaaiikccnpeaaDoor
open Go.ChangeShapes Go.WideShapes Go.ChangeAt Go.RowKit Go.Lib
set_option linter.unusedVariables false

theorem rclamp_any (n l h : Int) (w : World) : Calls Tryd.prog 69 #[.int .i64 n, .int .i64 l, .int .i64 h] w (Same (.int .i64 (clampI n l h)) w) := by
  by_cases h1 : n < l
  · have hN : Hid (clampI n l h = l) := by unfold Hid clampI; rw [if_pos h1]
    go_enter Tryd.func69, Tryd.ntmps69
    go_wp2
    go_ret
    exact ⟨by rw [hN.out]; rfl, rfl⟩
  · have hd : decide (n < l) = false := by simpa using h1
    by_cases h2 : h < n
    · have hN : Hid (clampI n l h = h) := by unfold Hid clampI; rw [if_neg h1, if_pos h2]
      go_enter Tryd.func69, Tryd.ntmps69
      go_wp2
      go_ret
      exact ⟨by rw [hN.out]; rfl, rfl⟩
    · have hd2 : decide (h < n) = false := by simpa using h2
      have hN : Hid (clampI n l h = n) := by unfold Hid clampI; rw [if_neg h1, if_neg h2]
      go_enter Tryd.func69, Tryd.ntmps69
      go_wp2
      go_ret
      exact ⟨by rw [hN.out]; rfl, rfl⟩
theorem rlimit_any (n : Int) (w : World) : Calls Tryd.prog 59 #[.int .i64 n] w (Same (.int .i64 (limI n)) w) := by
  go_enter Tryd.func59, Tryd.ntmps59
  go_wp2_with fail
  refine (rclamp_any _ _ _ w).mono ?_
  rintro e w' ⟨rfl, rfl⟩
  go_wp2_with fail
  go_ret
  exact ⟨rfl, rfl⟩
theorem rsize_any (n : Int) (w : World) (h : wf64 n) : Calls Tryd.prog 57 #[.int .i64 n] w (Same (.int .u64 (n.natAbs : Int)) w) := by
  unfold wf64 at h
  by_cases h0 : n < 0
  · obtain ⟨m, rfl⟩ : ∃ m : Nat, n = -(m : Int) - 1 := ⟨(-n - 1).toNat, by omega⟩
    have hm : (m : Int) ≤ 9223372036854775807 := by omega
    have d0 : decide (-(m : Int) - 1 < 0) = true := decide_eq_true (by omega)
    have e : Hid ((((-(m : Int) - 1).natAbs : Nat) : Int) = (m : Int) + 1) := by unfold Hid; omega
    clear h h0
    go_enter Tryd.func57, Tryd.ntmps57
    go_wp2
    go_ret
    refine ⟨?_, rfl⟩
    rw [e.out]
    rfl
  · obtain ⟨m, rfl⟩ : ∃ m : Nat, n = (m : Int) := ⟨n.toNat, by omega⟩
    have hm : (m : Int) ≤ 9223372036854775807 := by omega
    have d0 : decide ((m : Int) < 0) = false := decide_eq_false (by omega)
    clear h h0
    go_enter Tryd.func57, Tryd.ntmps57
    go_wp2
    go_ret
    refine ⟨?_, rfl⟩
    rfl
theorem lim_min (u : Nat) : limI (u : Int) = min (u : Int) 1125899906842624 := by
  unfold limI clampI
  rw [if_neg (by omega)]
  split <;> omega
theorem lim_min_neg (u : Nat) : limI (-(u : Int)) = -min (u : Int) 1125899906842624 := by
  unfold limI clampI
  split
  · omega
  · rw [if_neg (by omega)]; omega
def sgn (neg : Bool) (u : Nat) : Int := bif neg then -(u : Int) else u
theorem rsigned_any (u : Nat) (neg : Bool) (w : World) (h : (u : Int) ≤ 18446744073709551615) : Calls Tryd.prog 58 #[.int .u64 u, .bool neg] w (Same (.int .i64 (limI (sgn neg u))) w) := by
  cases neg
  · have HN := Lib.hid (show limI (sgn false u) = _ from lim_min u)
    go_enter Tryd.func58, Tryd.ntmps58
    go_wp2
    go_ret
    exact ⟨by rw [HN.out]; rfl, rfl⟩
  · have HN := Lib.hid (show limI (sgn true u) = _ from lim_min_neg u)
    go_enter Tryd.func58, Tryd.ntmps58
    go_wp2
    go_ret
    exact ⟨by rw [HN.out]; rfl, rfl⟩
/-- the sign of a product and of a quotient -/
theorem sgn_mul (a b : Int) : sgn (decide (a < 0) != decide (b < 0)) (a.natAbs * b.natAbs) = a * b := by
  have h := mul_sign (a := a) (b := b)
  cases hs : (decide (a < 0) != decide (b < 0)) <;> rw [hs] at h <;> simp [sgn] at h ⊢ <;> omega
theorem radd_any (a b : Int) (w : World) (ha : wf64 a) (hb : wf64 b) : Calls Tryd.prog 42 #[.int .i64 a, .int .i64 b] w (Same (.int .i64 (limI (a + b))) w) := by
  unfold wf64 at ha hb
  by_cases h0 : 0 ≤ b
  · have d0 : decide (0 ≤ b) = true := decide_eq_true h0
    by_cases h1 : 1125899906842624 - b < a
    · have d1 : decide (1125899906842624 - b < a) = true := decide_eq_true h1
      have z : Hid (limI (a + b) = 1125899906842624) := by unfold Hid limI clampI; rw [if_neg (by omega), if_pos (by omega)]
      go_enter Tryd.func42, Tryd.ntmps42
      go_wp2
      go_ret
      exact ⟨by rw [z.out]; rfl, rfl⟩
    · have d1 : decide (1125899906842624 - b < a) = false := decide_eq_false h1
      have d2 : decide (b < 0) = false := decide_eq_false (by omega)
      have s1 : a + b ≤ 9223372036854775807 := by omega
      have s2 : -9223372036854775808 ≤ a + b := by omega
      go_enter Tryd.func42, Tryd.ntmps42
      go_wp2_with fail
      refine (rlimit_any _ _).mono ?_
      rintro e w' ⟨rfl, rfl⟩
      go_wp2_with fail
      go_ret
      exact ⟨rfl, rfl⟩
  · have d0 : decide (0 ≤ b) = false := decide_eq_false h0
    have d2 : decide (b < 0) = true := decide_eq_true (by omega)
    by_cases h1 : a < -1125899906842624 - b
    · have d1 : decide (a < -1125899906842624 - b) = true := decide_eq_true h1
      have z : Hid (limI (a + b) = -1125899906842624) := by unfold Hid limI clampI; rw [if_pos (by omega)]
      go_enter Tryd.func42, Tryd.ntmps42
      go_wp2
      go_ret
      exact ⟨by rw [z.out]; rfl, rfl⟩
    · have d1 : decide (a < -1125899906842624 - b) = false := decide_eq_false h1
      have s1 : a + b ≤ 9223372036854775807 := by omega
      have s2 : -9223372036854775808 ≤ a + b := by omega
      go_enter Tryd.func42, Tryd.ntmps42
      go_wp2_with fail
      refine (rlimit_any _ _).mono ?_
      rintro e w' ⟨rfl, rfl⟩
      go_wp2_with fail
      go_ret
      exact ⟨rfl, rfl⟩
theorem rsub_any (a b : Int) (w : World) (ha : wf64 a) (hb : wf64 b) : Calls Tryd.prog 41 #[.int .i64 a, .int .i64 b] w (Same (.int .i64 (limI (a - b))) w) := by
  unfold wf64 at ha hb
  by_cases h0 : b < 0
  · have d0 : decide (b < 0) = true := decide_eq_true h0
    by_cases h1 : 1125899906842624 + b < a
    · have d1 : decide (1125899906842624 + b < a) = true := decide_eq_true h1
      have z : Hid (limI (a - b) = 1125899906842624) := by unfold Hid limI clampI; rw [if_neg (by omega), if_pos (by omega)]
      go_enter Tryd.func41, Tryd.ntmps41
      go_wp2
      go_ret
      exact ⟨by rw [z.out]; rfl, rfl⟩
    · have d1 : decide (1125899906842624 + b < a) = false := decide_eq_false h1
      have d2 : decide (0 ≤ b) = false := decide_eq_false (by omega)
      have s1 : a - b ≤ 9223372036854775807 := by omega
      have s2 : -9223372036854775808 ≤ a - b := by omega
      go_enter Tryd.func41, Tryd.ntmps41
      go_wp2_with fail
      refine (rlimit_any _ _).mono ?_
      rintro e w' ⟨rfl, rfl⟩
      go_wp2_with fail
      go_ret
      exact ⟨rfl, rfl⟩
  · have d0 : decide (b < 0) = false := decide_eq_false h0
    have d2 : decide (0 ≤ b) = true := decide_eq_true (by omega)
    by_cases h1 : a < -1125899906842624 + b
    · have d1 : decide (a < -1125899906842624 + b) = true := decide_eq_true h1
      have z : Hid (limI (a - b) = -1125899906842624) := by unfold Hid limI clampI; rw [if_pos (by omega)]
      go_enter Tryd.func41, Tryd.ntmps41
      go_wp2
      go_ret
      exact ⟨by rw [z.out]; rfl, rfl⟩
    · have d1 : decide (a < -1125899906842624 + b) = false := decide_eq_false h1
      have s1 : a - b ≤ 9223372036854775807 := by omega
      have s2 : -9223372036854775808 ≤ a - b := by omega
      go_enter Tryd.func41, Tryd.ntmps41
      go_wp2_with fail
      refine (rlimit_any _ _).mono ?_
      rintro e w' ⟨rfl, rfl⟩
      go_wp2_with fail
      go_ret
      exact ⟨rfl, rfl⟩
theorem rmul_any (a b : Int) (w : World) (ha : wf64 a) (hb : wf64 b) : Calls Tryd.prog 40 #[.int .i64 a, .int .i64 b] w (Same (.int .i64 (limI (a * b))) w) := by
  have c1 := fun W => rsize_any a W ha
  have c2 := fun W => rsize_any b W hb
  have hs := sgn_mul a b
  unfold wf64 at ha hb
  have x1 : (a.natAbs : Int) ≤ 9223372036854775808 := by omega
  have y1 : (b.natAbs : Int) ≤ 9223372036854775808 := by omega
  generalize a.natAbs = x at *
  generalize b.natAbs = y at *
  by_cases hx : x = 0
  · subst hx
    have z : Hid (limI (a * b) = 0) := by unfold Hid; rw [← hs]; simp [sgn]; rfl
    clear hs
    go_enter Tryd.func40, Tryd.ntmps40
    go_wp2_with fail
    refine (c1 _).mono ?_
    rintro e w' ⟨rfl, rfl⟩
    go_wp2_with fail
    refine (c2 _).mono ?_
    rintro e w' ⟨rfl, rfl⟩
    go_wp2_with fail
    go_ret
    exact ⟨by rw [z.out]; rfl, rfl⟩
  have dx : ((x : Int) == 0) = false := by simpa using hx
  by_cases hy : y = 0
  · subst hy
    have z : Hid (limI (a * b) = 0) := by unfold Hid; rw [← hs]; simp [sgn]; rfl
    clear hs
    go_enter Tryd.func40, Tryd.ntmps40
    go_wp2_with fail
    refine (c1 _).mono ?_
    rintro e w' ⟨rfl, rfl⟩
    go_wp2_with fail
    refine (c2 _).mono ?_
    rintro e w' ⟨rfl, rfl⟩
    go_wp2_with fail
    go_ret
    exact ⟨by rw [z.out]; rfl, rfl⟩
  have dy : ((y : Int) == 0) = false := by simpa using hy
  have yp : 1 ≤ y := by omega
  have yp0 : 0 < y := by omega
  by_cases hq : 1125899906842624 / y < x
  · have dq : decide ((1125899906842624 : Int) / (y : Int) < (x : Int)) = true := decide_eq_true (by have h := Int.natCast_ediv 1125899906842624 y; rw [show ((1125899906842624 : Nat) : Int) = 1125899906842624 from rfl] at h; omega)
    have hb : 1125899906842624 < x * y := (Nat.div_lt_iff_lt_mul yp0).1 hq
    have z : Hid (limI (a * b) = limI (sgn (decide (a < 0) != decide (b < 0)) 1125899906842624)) := by
      unfold Hid
      rw [← hs]
      generalize x * y = u at *
      cases (decide (a < 0) != decide (b < 0)) <;> simp only [sgn, cond_true, cond_false]
      · rw [lim_min, lim_min]; omega
      · rw [lim_min_neg, lim_min_neg]; omega
    have c3 := fun W => rsigned_any 1125899906842624 (decide (a < 0) != decide (b < 0)) W (by decide)
    rw [← z.out] at c3
    clear hs z hb hq hx hy
    go_enter Tryd.func40, Tryd.ntmps40
    go_wp2_with fail
    refine (c1 _).mono ?_
    rintro e w' ⟨rfl, rfl⟩
    go_wp2_with fail
    refine (c2 _).mono ?_
    rintro e w' ⟨rfl, rfl⟩
    go_wp2_with fail
    refine (c3 _).mono ?_
    rintro e w' ⟨rfl, rfl⟩
    go_wp2_with fail
    go_ret
    exact ⟨rfl, rfl⟩
  · have dq : decide ((1125899906842624 : Int) / (y : Int) < (x : Int)) = false := decide_eq_false (by have h := Int.natCast_ediv 1125899906842624 y; rw [show ((1125899906842624 : Nat) : Int) = 1125899906842624 from rfl] at h; omega)
    have hb : x * y ≤ 1125899906842624 := by
      rcases Nat.lt_or_ge 1125899906842624 (x * y) with h | h
      · exact absurd ((Nat.div_lt_iff_lt_mul yp0).2 h) hq
      · exact h
    have hbi : (x : Int) * (y : Int) ≤ 1125899906842624 := by rw [← Int.natCast_mul]; omega
    have hb0 : 0 ≤ (x : Int) * (y : Int) := by rw [← Int.natCast_mul]; omega
    have c3 := fun W => rsigned_any (x * y) (decide (a < 0) != decide (b < 0)) W (by omega)
    rw [hs, Int.natCast_mul] at c3
    clear hs hb hq hx hy
    go_enter Tryd.func40, Tryd.ntmps40
    go_wp2_with fail
    refine (c1 _).mono ?_
    rintro e w' ⟨rfl, rfl⟩
    go_wp2_with fail
    refine (c2 _).mono ?_
    rintro e w' ⟨rfl, rfl⟩
    go_wp2_with fail
    refine (c3 _).mono ?_
    rintro e w' ⟨rfl, rfl⟩
    go_wp2_with fail
    go_ret
    exact ⟨rfl, rfl⟩
end Go.Proofs.YtjcaaiikccnpeaaDoor
