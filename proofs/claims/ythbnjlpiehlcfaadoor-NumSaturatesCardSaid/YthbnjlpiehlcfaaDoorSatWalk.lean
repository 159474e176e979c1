/- NumSaturates, walked: it answers true. -/
import Derived.Test.YthbnjlpiehlcfaaDoorSmall
namespace Go.Proofs.YthbnjlpiehlcfaaDoor
open Go.ChangeShapes Go.WideShapes Go.ChangeAt Go.RowKit Go.Lib
set_option linter.unusedVariables false

theorem lim_cases {x : Int} (h : 0 ≤ x) : (x ≤ 1125899906842624 ∧ limI x = x) ∨ (1125899906842624 < x ∧ limI x = 1125899906842624) := by
  unfold limI clampI
  by_cases h1 : 1125899906842624 < x
  · right; exact ⟨h1, by rw [if_neg (by omega), if_pos h1]⟩
  · left; exact ⟨by omega, by rw [if_neg (by omega), if_neg h1]⟩
theorem lim_bounds (x : Int) : -1125899906842624 ≤ limI x ∧ limI x ≤ 1125899906842624 := by
  unfold limI clampI
  split
  · omega
  · split
    · omega
    · omega
theorem lim_nonneg {x : Int} (h : 0 ≤ x) : 0 ≤ limI x := by rcases lim_cases h with ⟨_, h1⟩ | ⟨_, h1⟩ <;> omega
theorem wf_lim (x : Int) : wf64 (limI x) := by have := lim_bounds x; unfold wf64; omega
theorem lim_add {x y : Int} (hx : 0 ≤ x) (hy : 0 ≤ y) : limI (limI x + limI y) = limI (x + y) := by
  rcases lim_cases hx with ⟨a1, a2⟩ | ⟨a1, a2⟩ <;> rcases lim_cases hy with ⟨b1, b2⟩ | ⟨b1, b2⟩ <;> rw [a2, b2]
  · rcases lim_cases (x := x + 1125899906842624) (by omega) with ⟨c1, c2⟩ | ⟨c1, c2⟩ <;> rcases lim_cases (x := x + y) (by omega) with ⟨d1, d2⟩ | ⟨d1, d2⟩ <;> omega
  · rcases lim_cases (x := 1125899906842624 + y) (by omega) with ⟨c1, c2⟩ | ⟨c1, c2⟩ <;> rcases lim_cases (x := x + y) (by omega) with ⟨d1, d2⟩ | ⟨d1, d2⟩ <;> omega
  · have h1 : limI (1125899906842624 + 1125899906842624) = 1125899906842624 := by rfl
    rcases lim_cases (x := x + y) (by omega) with ⟨d1, d2⟩ | ⟨d1, d2⟩ <;> omega
theorem lim_idem {x : Int} (h : 0 ≤ x) : limI (limI x) = limI x := by
  rcases lim_cases h with ⟨a1, a2⟩ | ⟨a1, a2⟩ <;> rw [a2]
  · exact a2
  · rfl
theorem lim_mul_left {x c : Int} (hx : 0 ≤ x) (hc : 0 ≤ c) : limI (limI x * c) = limI (x * c) := by
  rcases lim_cases hx with ⟨a1, a2⟩ | ⟨a1, a2⟩ <;> rw [a2]
  rcases Int.lt_or_eq_of_le hc with h | h
  · have h1 : 1125899906842624 * 1 ≤ 1125899906842624 * c := Int.mul_le_mul_of_nonneg_left (by omega) (by omega)
    have h2 : x * 1 ≤ x * c := Int.mul_le_mul_of_nonneg_left (by omega) hx
    rcases lim_cases (x := 1125899906842624 * c) (by omega) with ⟨c1, c2⟩ | ⟨c1, c2⟩ <;> rcases lim_cases (x := x * c) (by omega) with ⟨d1, d2⟩ | ⟨d1, d2⟩ <;> omega
  · rw [← h]; simp
theorem lim_mul_right {x c : Int} (hx : 0 ≤ x) (hc : 0 ≤ c) : limI (c * limI x) = limI (c * x) := by
  rw [Int.mul_comm, lim_mul_left hx hc, Int.mul_comm]
theorem clamp_lim {x : Int} (h : 0 ≤ x) : clampI x 0 1125899906842624 = limI x := by
  have h1 : ¬ x < 0 := by omega
  have h2 : ¬ x < -1125899906842624 := by omega
  unfold limI clampI
  rw [if_neg h1, if_neg h2]
theorem add_as (a b r : Int) (w : World) (ha : wf64 a) (hb : wf64 b) (h : limI (a + b) = r) : Calls Tryd.prog 19 #[.int .i64 a, .int .i64 b] w (IntPost w r) := by rw [← h]; exact add_any a b w ha hb
theorem mul_as (a b r : Int) (w : World) (ha : wf64 a) (hb : wf64 b) (h : limI (a * b) = r) : Calls Tryd.prog 23 #[.int .i64 a, .int .i64 b] w (IntPost w r) := by rw [← h]; exact mul_any a b w ha hb
set_option maxRecDepth 100000 in
set_option maxHeartbeats 1600000 in
theorem saturates_any (a b c : Int) (w : World) (wa : wf64 a) (wb : wf64 b) (wc : wf64 c) (hL : Laid w) : Calls Tryd.prog 5 #[.int .i64 a, .int .i64 b, .int .i64 c] w (BoolPost w true) := by
  have cs := small_any w hL
  by_cases ha : a < 0
  · have d : decide (a < 0) = true := decide_eq_true ha
    clear ha
    go_enter Tryd.func5, Tryd.ntmps5
    go_wp2_with (go_at_call 8; refine cs.mono ?_; rintro e w1 ⟨rfl, hb1⟩)
    go_ret
    exact ⟨rfl, hb1⟩
  have da : decide (a < 0) = false := decide_eq_false ha
  by_cases hb : b < 0
  · have d : decide (b < 0) = true := decide_eq_true hb
    clear ha hb
    go_enter Tryd.func5, Tryd.ntmps5
    go_wp2_with (go_at_call 8; refine cs.mono ?_; rintro e w1 ⟨rfl, hb1⟩)
    go_ret
    exact ⟨rfl, hb1⟩
  have db : decide (b < 0) = false := decide_eq_false hb
  by_cases hc : c < 0
  · have d : decide (c < 0) = true := decide_eq_true hc
    clear ha hb hc
    go_enter Tryd.func5, Tryd.ntmps5
    go_wp2_with (go_at_call 8; refine cs.mono ?_; rintro e w1 ⟨rfl, hb1⟩)
    go_ret
    exact ⟨rfl, hb1⟩
  have dc : decide (c < 0) = false := decide_eq_false hc
  have a0 : 0 ≤ a := by omega
  have b0 : 0 ≤ b := by omega
  have c0 : 0 ≤ c := by omega
  have ab0 : 0 ≤ a * b := Int.mul_nonneg a0 b0
  have ac0 : 0 ≤ a * c := Int.mul_nonneg a0 c0
  have bc0 : 0 ≤ b * c := Int.mul_nonneg b0 c0
  obtain ⟨S, hS⟩ : ∃ S, limI (a + b) = S := ⟨_, rfl⟩
  obtain ⟨P, hP⟩ : ∃ P, limI (a * b) = P := ⟨_, rfl⟩
  obtain ⟨S', hS'⟩ : ∃ S', limI (b + c) = S' := ⟨_, rfl⟩
  obtain ⟨P', hP'⟩ : ∃ P', limI (b * c) = P' := ⟨_, rfl⟩
  obtain ⟨Q, hQ⟩ : ∃ Q, limI (a * c) = Q := ⟨_, rfl⟩
  obtain ⟨S3, hS3⟩ : ∃ S3, limI (a + b + c) = S3 := ⟨_, rfl⟩
  obtain ⟨P3, hP3⟩ : ∃ P3, limI (a * b * c) = P3 := ⟨_, rfl⟩
  obtain ⟨D, hD⟩ : ∃ D, limI (a * b + a * c) = D := ⟨_, rfl⟩
  obtain ⟨X, hX⟩ : ∃ X, limI a = X := ⟨_, rfl⟩
  obtain ⟨Y, hY⟩ : ∃ Y, limI b = Y := ⟨_, rfl⟩
  have wS : wf64 S := by rw [← hS]; exact wf_lim _
  have wP : wf64 P := by rw [← hP]; exact wf_lim _
  have wS' : wf64 S' := by rw [← hS']; exact wf_lim _
  have wP' : wf64 P' := by rw [← hP']; exact wf_lim _
  have wQ : wf64 Q := by rw [← hQ]; exact wf_lim _
  have wX : wf64 X := by rw [← hX]; exact wf_lim _
  have wY : wf64 Y := by rw [← hY]; exact wf_lim _
  have w0 : wf64 0 := by unfold wf64; decide
  have w1' : wf64 1 := by unfold wf64; decide
  have k1 : limI (b + a) = S := by rw [Int.add_comm]; exact hS
  have k2 : limI (b * a) = P := by rw [Int.mul_comm]; exact hP
  have k3 : limI (S + c) = S3 := by
    rw [← hS, ← hS3]
    have h1 := lim_add (x := limI (a + b)) (y := c) (lim_nonneg (by omega)) c0
    have h2 := lim_add (x := a + b) (y := c) (by omega) c0
    rw [lim_idem (by omega)] at h1
    rw [← h1, h2]
  have k4 : limI (a + S') = S3 := by
    rw [← hS', ← hS3]
    have h1 := lim_add (x := a) (y := limI (b + c)) a0 (lim_nonneg (by omega))
    have h2 := lim_add (x := a) (y := b + c) a0 (by omega)
    rw [lim_idem (by omega)] at h1
    rw [← h1, h2, Int.add_assoc]
  have k5 : limI (P * c) = P3 := by rw [← hP, ← hP3, lim_mul_left ab0 c0]
  have k6 : limI (a * P') = P3 := by rw [← hP', ← hP3, lim_mul_right bc0 a0, Int.mul_assoc]
  have k7 : limI (a * S') = D := by rw [← hS', ← hD, lim_mul_right (by omega) a0, Int.mul_add]
  have k8 : limI (P + Q) = D := by rw [← hP, ← hQ, ← hD, lim_add ab0 ac0]
  have k9 : limI (a + 0) = X := by rw [Int.add_zero]; exact hX
  have k10 : limI (a * 1) = X := by rw [Int.mul_one]; exact hX
  have k11 : limI (a * 0) = 0 := by rw [Int.mul_zero]; rfl
  have k12 : limI (X + Y) = S := by rw [← hX, ← hY, ← hS, lim_add a0 b0]
  have k13 : limI (X * Y) = P := by rw [← hX, ← hY, ← hP, lim_mul_left a0 (lim_nonneg b0), lim_mul_right b0 a0]
  have x1 : clampI a 0 1125899906842624 = X := by rw [clamp_lim a0]; exact hX
  have y1 : clampI b 0 1125899906842624 = Y := by rw [clamp_lim b0]; exact hY
  have cA1 := fun W => add_as a b S W wa wb hS
  have cA2 := fun W => add_as b a S W wb wa k1
  have cA3 := fun W => add_as S c S3 W wS wc k3
  have cA4 := fun W => add_as b c S' W wb wc hS'
  have cA5 := fun W => add_as a S' S3 W wa wS' k4
  have cA6 := fun W => add_as P Q D W wP wQ k8
  have cA7 := fun W => add_as a 0 X W wa w0 k9
  have cA8 := fun W => add_as X Y S W wX wY k12
  have cM1 := fun W => mul_as a b P W wa wb hP
  have cM2 := fun W => mul_as b a P W wb wa k2
  have cM3 := fun W => mul_as P c P3 W wP wc k5
  have cM4 := fun W => mul_as b c P' W wb wc hP'
  have cM5 := fun W => mul_as a P' P3 W wa wP' k6
  have cM6 := fun W => mul_as a S' D W wa wS' k7
  have cM7 := fun W => mul_as a c Q W wa wc hQ
  have cM8 := fun W => mul_as a 1 X W wa w1' k10
  have cM9 := fun W => mul_as a 0 0 W wa w0 k11
  have cM10 := fun W => mul_as X Y P W wX wY k13
  have cC1 := fun W => clamp_any a 0 1125899906842624 W
  have cC2 := fun W => clamp_any b 0 1125899906842624 W
  rw [x1] at cC1
  rw [y1] at cC2
  clear hS hP hS' hP' hQ hS3 hP3 hD hX hY wS wP wS' wP' wQ wX wY w0 w1' k1 k2 k3 k4 k5 k6 k7 k8 k9 k10 k11 k12 k13 x1 y1 ab0 ac0 bc0 a0 b0 c0 ha hb hc hL wa wb wc
  go_enter Tryd.func5, Tryd.ntmps5
  go_wp2_with fail
  refine cs.mono ?_
  rintro e w1 ⟨rfl, hb1⟩
  go_wp2_with fail
  refine (cA1 _).mono ?_
  rintro e w2 ⟨rfl, hbx⟩
  have hb2 := hb1.trans (hbx.mono hb1.size)
  clear hbx hb1
  go_wp2_with fail
  refine (cA2 _).mono ?_
  rintro e w3 ⟨rfl, hbx⟩
  have hb3 := hb2.trans (hbx.mono hb2.size)
  clear hbx hb2
  go_wp2_with fail
  refine (cM1 _).mono ?_
  rintro e w4 ⟨rfl, hbx⟩
  have hb4 := hb3.trans (hbx.mono hb3.size)
  clear hbx hb3
  go_wp2_with fail
  refine (cM2 _).mono ?_
  rintro e w5 ⟨rfl, hbx⟩
  have hb5 := hb4.trans (hbx.mono hb4.size)
  clear hbx hb4
  go_wp2_with fail
  refine (cA1 _).mono ?_
  rintro e w6 ⟨rfl, hbx⟩
  have hb6 := hb5.trans (hbx.mono hb5.size)
  clear hbx hb5
  go_wp2_with fail
  refine (cA3 _).mono ?_
  rintro e w7 ⟨rfl, hbx⟩
  have hb7 := hb6.trans (hbx.mono hb6.size)
  clear hbx hb6
  go_wp2_with fail
  refine (cA4 _).mono ?_
  rintro e w8 ⟨rfl, hbx⟩
  have hb8 := hb7.trans (hbx.mono hb7.size)
  clear hbx hb7
  go_wp2_with fail
  refine (cA5 _).mono ?_
  rintro e w9 ⟨rfl, hbx⟩
  have hb9 := hb8.trans (hbx.mono hb8.size)
  clear hbx hb8
  go_wp2_with fail
  refine (cM1 _).mono ?_
  rintro e w10 ⟨rfl, hbx⟩
  have hb10 := hb9.trans (hbx.mono hb9.size)
  clear hbx hb9
  go_wp2_with fail
  refine (cM3 _).mono ?_
  rintro e w11 ⟨rfl, hbx⟩
  have hb11 := hb10.trans (hbx.mono hb10.size)
  clear hbx hb10
  go_wp2_with fail
  refine (cM4 _).mono ?_
  rintro e w12 ⟨rfl, hbx⟩
  have hb12 := hb11.trans (hbx.mono hb11.size)
  clear hbx hb11
  go_wp2_with fail
  refine (cM5 _).mono ?_
  rintro e w13 ⟨rfl, hbx⟩
  have hb13 := hb12.trans (hbx.mono hb12.size)
  clear hbx hb12
  go_wp2_with fail
  refine (cA4 _).mono ?_
  rintro e w14 ⟨rfl, hbx⟩
  have hb14 := hb13.trans (hbx.mono hb13.size)
  clear hbx hb13
  go_wp2_with fail
  refine (cM6 _).mono ?_
  rintro e w15 ⟨rfl, hbx⟩
  have hb15 := hb14.trans (hbx.mono hb14.size)
  clear hbx hb14
  go_wp2_with fail
  refine (cM1 _).mono ?_
  rintro e w16 ⟨rfl, hbx⟩
  have hb16 := hb15.trans (hbx.mono hb15.size)
  clear hbx hb15
  go_wp2_with fail
  refine (cM7 _).mono ?_
  rintro e w17 ⟨rfl, hbx⟩
  have hb17 := hb16.trans (hbx.mono hb16.size)
  clear hbx hb16
  go_wp2_with fail
  refine (cA6 _).mono ?_
  rintro e w18 ⟨rfl, hbx⟩
  have hb18 := hb17.trans (hbx.mono hb17.size)
  clear hbx hb17
  go_wp2_with fail
  refine (cC1 _).mono ?_
  rintro e w19 ⟨rfl, rfl⟩
  go_wp2_with fail
  refine (cC2 _).mono ?_
  rintro e w20 ⟨rfl, rfl⟩
  go_wp2_with fail
  refine (cA7 _).mono ?_
  rintro e w21 ⟨rfl, hbx⟩
  have hb21 := hb18.trans (hbx.mono hb18.size)
  clear hbx hb18
  go_wp2_with fail
  refine (cM8 _).mono ?_
  rintro e w22 ⟨rfl, hbx⟩
  have hb22 := hb21.trans (hbx.mono hb21.size)
  clear hbx hb21
  go_wp2_with fail
  refine (cM9 _).mono ?_
  rintro e w23 ⟨rfl, hbx⟩
  have hb23 := hb22.trans (hbx.mono hb22.size)
  clear hbx hb22
  go_wp2_with fail
  refine (cA8 _).mono ?_
  rintro e w24 ⟨rfl, hbx⟩
  have hb24 := hb23.trans (hbx.mono hb23.size)
  clear hbx hb23
  go_wp2_with fail
  refine (cA1 _).mono ?_
  rintro e w25 ⟨rfl, hbx⟩
  have hb25 := hb24.trans (hbx.mono hb24.size)
  clear hbx hb24
  go_wp2_with fail
  refine (cM10 _).mono ?_
  rintro e w26 ⟨rfl, hbx⟩
  have hb26 := hb25.trans (hbx.mono hb25.size)
  clear hbx hb25
  go_wp2_with fail
  refine (cM1 _).mono ?_
  rintro e w27 ⟨rfl, hbx⟩
  have hb27 := hb26.trans (hbx.mono hb26.size)
  clear hbx hb26
  go_wp2
  go_ret
  exact ⟨rfl, hb27⟩
end Go.Proofs.YthbnjlpiehlcfaaDoor
