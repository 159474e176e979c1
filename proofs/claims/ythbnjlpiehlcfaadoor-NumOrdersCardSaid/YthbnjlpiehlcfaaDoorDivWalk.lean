/- NumDivides, walked: it answers true. -/
import Derived.Test.YthbnjlpiehlcfaaDoorSmall
namespace Go.Proofs.YthbnjlpiehlcfaaDoor
open Go.ChangeShapes Go.WideShapes Go.ChangeAt Go.RowKit Go.Lib
set_option linter.unusedVariables false

theorem lim_self {x : Int} (h1 : -1125899906842624 ≤ x) (h2 : x ≤ 1125899906842624) : limI x = x := by
  unfold limI clampI; rw [if_neg (by omega), if_neg (by omega)]
theorem div_as (a b q : Int) (w : World) (ha : wf64 a) (hb : wf64 b) (h0 : b ≠ 0) (hq : limI (a.tdiv b) = q) : Calls Tryd.prog 11 #[.int .i64 a, .int .i64 b] w (TwoPost w q true) := by
  have h := div_any a b w ha hb
  rw [if_neg h0, hq, decide_eq_true h0] at h
  exact h
theorem mod_as (a b q : Int) (w : World) (ha : wf64 a) (hb : wf64 b) (h0 : b ≠ 0) (hq : limI (a.tmod b) = q) : Calls Tryd.prog 13 #[.int .i64 a, .int .i64 b] w (TwoPost w q true) := by
  have h := mod_any a b w ha hb
  rw [if_neg h0, hq, decide_eq_true h0] at h
  exact h
theorem div_zero (a : Int) (w : World) (ha : wf64 a) : Calls Tryd.prog 11 #[.int .i64 a, .int .i64 0] w (TwoPost w 0 false) := by
  have h := div_any a 0 w ha (by unfold wf64; decide)
  rw [if_pos rfl] at h
  exact h
theorem mod_zero (a : Int) (w : World) (ha : wf64 a) : Calls Tryd.prog 13 #[.int .i64 a, .int .i64 0] w (TwoPost w 0 false) := by
  have h := mod_any a 0 w ha (by unfold wf64; decide)
  rw [if_pos rfl] at h
  exact h
theorem tmod_abs {a b : Int} (h : b ≠ 0) : -(b.natAbs : Int) < a.tmod b ∧ a.tmod b < b.natAbs := by
  have h1 := Int.natAbs_tmod a b
  have h2 : (a.tmod b).natAbs < b.natAbs := by rw [h1]; exact Nat.mod_lt _ (by omega)
  omega
theorem tmod_sign {a b : Int} (h : a.tmod b ≠ 0) : decide (a.tmod b < 0) = decide (a < 0) := by
  by_cases ha : a < 0
  · have h1 : 0 ≤ (-a).tmod b := Int.tmod_nonneg b (by omega)
    rw [Int.neg_tmod] at h1
    rw [decide_eq_true ha, decide_eq_true (by omega)]
  · have h1 : 0 ≤ a.tmod b := Int.tmod_nonneg b (by omega)
    rw [decide_eq_false ha, decide_eq_false (by omega)]

/-- the body behind the tests, by the sign of b and of the remainder -/
structure DivFacts (a b Q R : Int) : Prop where
  bound : -1125899906842624 ≤ b * Q ∧ b * Q ≤ 1125899906842624
  sum : b * Q + R = a
  q : -1125899906842624 ≤ Q ∧ Q ≤ 1125899906842624
  r : -(b.natAbs : Int) < R ∧ R < b.natAbs
  sign : R ≠ 0 → decide (R < 0) = decide (a < 0)
theorem div_facts {a b : Int} (a1 : -1125899906842624 ≤ a) (a2 : a ≤ 1125899906842624) (h : b ≠ 0) : DivFacts a b (a.tdiv b) (a.tmod b) := by
  have hs := Int.mul_tdiv_add_tmod a b
  have hq := tdiv_bound (a := a) (b := b)
  have hr := tmod_bound (a := a) (b := b)
  have hsg := fun h => tmod_sign (a := a) (b := b) h
  have hb : (b * a.tdiv b).natAbs ≤ a.natAbs := by
    rw [Int.natAbs_mul, Int.natAbs_tdiv]
    exact Nat.mul_div_le _ _
  refine ⟨⟨by omega, by omega⟩, hs, ⟨by omega, by omega⟩, tmod_abs h, hsg⟩

set_option maxRecDepth 100000 in
set_option maxHeartbeats 800000 in
theorem div_out0 (a b : Int) (w : World) (da : (decide (a < -1125899906842624) = true)) (cs : Calls Tryd.prog 8 #[] w (BoolPost w true))
    (cz : ∀ W, Calls Tryd.prog 11 #[.int .i64 a, .int .i64 0] W (TwoPost W 0 false)) (cm : ∀ W, Calls Tryd.prog 13 #[.int .i64 a, .int .i64 0] W (TwoPost W 0 false)) :
    Calls Tryd.prog 6 #[.int .i64 a, .int .i64 b] w (BoolPost w true) := by
  go_enter Tryd.func6, Tryd.ntmps6
  go_wp2_with fail
  refine cs.mono ?_
  rintro e w1 ⟨rfl, hb1⟩
  go_wp2_with fail
  refine (cz _).mono ?_
  rintro e w2 ⟨rfl, hbx⟩
  have hb2 := hb1.trans (hbx.mono hb1.size)
  clear hbx hb1
  go_wp2_with fail
  refine (cm _).mono ?_
  rintro e w3 ⟨rfl, hbx⟩
  have hb3 := hb2.trans (hbx.mono hb2.size)
  clear hbx hb2
  go_wp2
  go_ret
  exact ⟨rfl, hb3⟩
set_option maxRecDepth 100000 in
set_option maxHeartbeats 800000 in
theorem div_out1 (a b : Int) (w : World) (da : (decide (a < -1125899906842624) = false)) (db : (decide (1125899906842624 < a) = true)) (cs : Calls Tryd.prog 8 #[] w (BoolPost w true))
    (cz : ∀ W, Calls Tryd.prog 11 #[.int .i64 a, .int .i64 0] W (TwoPost W 0 false)) (cm : ∀ W, Calls Tryd.prog 13 #[.int .i64 a, .int .i64 0] W (TwoPost W 0 false)) :
    Calls Tryd.prog 6 #[.int .i64 a, .int .i64 b] w (BoolPost w true) := by
  go_enter Tryd.func6, Tryd.ntmps6
  go_wp2_with fail
  refine cs.mono ?_
  rintro e w1 ⟨rfl, hb1⟩
  go_wp2_with fail
  refine (cz _).mono ?_
  rintro e w2 ⟨rfl, hbx⟩
  have hb2 := hb1.trans (hbx.mono hb1.size)
  clear hbx hb1
  go_wp2_with fail
  refine (cm _).mono ?_
  rintro e w3 ⟨rfl, hbx⟩
  have hb3 := hb2.trans (hbx.mono hb2.size)
  clear hbx hb2
  go_wp2
  go_ret
  exact ⟨rfl, hb3⟩
set_option maxRecDepth 100000 in
set_option maxHeartbeats 800000 in
theorem div_out2 (a b : Int) (w : World) (da : (decide (a < -1125899906842624) = false)) (db : (decide (1125899906842624 < a) = false)) (dc : (decide (b < -1125899906842624) = true)) (cs : Calls Tryd.prog 8 #[] w (BoolPost w true))
    (cz : ∀ W, Calls Tryd.prog 11 #[.int .i64 a, .int .i64 0] W (TwoPost W 0 false)) (cm : ∀ W, Calls Tryd.prog 13 #[.int .i64 a, .int .i64 0] W (TwoPost W 0 false)) :
    Calls Tryd.prog 6 #[.int .i64 a, .int .i64 b] w (BoolPost w true) := by
  go_enter Tryd.func6, Tryd.ntmps6
  go_wp2_with fail
  refine cs.mono ?_
  rintro e w1 ⟨rfl, hb1⟩
  go_wp2_with fail
  refine (cz _).mono ?_
  rintro e w2 ⟨rfl, hbx⟩
  have hb2 := hb1.trans (hbx.mono hb1.size)
  clear hbx hb1
  go_wp2_with fail
  refine (cm _).mono ?_
  rintro e w3 ⟨rfl, hbx⟩
  have hb3 := hb2.trans (hbx.mono hb2.size)
  clear hbx hb2
  go_wp2
  go_ret
  exact ⟨rfl, hb3⟩
set_option maxRecDepth 100000 in
set_option maxHeartbeats 800000 in
theorem div_out3 (a b : Int) (w : World) (da : (decide (a < -1125899906842624) = false)) (db : (decide (1125899906842624 < a) = false)) (dc : (decide (b < -1125899906842624) = false)) (dd : (decide (1125899906842624 < b) = true)) (cs : Calls Tryd.prog 8 #[] w (BoolPost w true))
    (cz : ∀ W, Calls Tryd.prog 11 #[.int .i64 a, .int .i64 0] W (TwoPost W 0 false)) (cm : ∀ W, Calls Tryd.prog 13 #[.int .i64 a, .int .i64 0] W (TwoPost W 0 false)) :
    Calls Tryd.prog 6 #[.int .i64 a, .int .i64 b] w (BoolPost w true) := by
  go_enter Tryd.func6, Tryd.ntmps6
  go_wp2_with fail
  refine cs.mono ?_
  rintro e w1 ⟨rfl, hb1⟩
  go_wp2_with fail
  refine (cz _).mono ?_
  rintro e w2 ⟨rfl, hbx⟩
  have hb2 := hb1.trans (hbx.mono hb1.size)
  clear hbx hb1
  go_wp2_with fail
  refine (cm _).mono ?_
  rintro e w3 ⟨rfl, hbx⟩
  have hb3 := hb2.trans (hbx.mono hb2.size)
  clear hbx hb2
  go_wp2
  go_ret
  exact ⟨rfl, hb3⟩
set_option maxRecDepth 100000 in
set_option maxHeartbeats 800000 in
theorem div_out4 (a b : Int) (w : World) (da : (decide (a < -1125899906842624) = false)) (db : (decide (1125899906842624 < a) = false)) (dc : (decide (b < -1125899906842624) = false)) (dd : (decide (1125899906842624 < b) = false)) (de : ((b == (0 : Int)) = true)) (cs : Calls Tryd.prog 8 #[] w (BoolPost w true))
    (cz : ∀ W, Calls Tryd.prog 11 #[.int .i64 a, .int .i64 0] W (TwoPost W 0 false)) (cm : ∀ W, Calls Tryd.prog 13 #[.int .i64 a, .int .i64 0] W (TwoPost W 0 false)) :
    Calls Tryd.prog 6 #[.int .i64 a, .int .i64 b] w (BoolPost w true) := by
  go_enter Tryd.func6, Tryd.ntmps6
  go_wp2_with fail
  refine cs.mono ?_
  rintro e w1 ⟨rfl, hb1⟩
  go_wp2_with fail
  refine (cz _).mono ?_
  rintro e w2 ⟨rfl, hbx⟩
  have hb2 := hb1.trans (hbx.mono hb1.size)
  clear hbx hb1
  go_wp2_with fail
  refine (cm _).mono ?_
  rintro e w3 ⟨rfl, hbx⟩
  have hb3 := hb2.trans (hbx.mono hb2.size)
  clear hbx hb2
  go_wp2
  go_ret
  exact ⟨rfl, hb3⟩
set_option maxRecDepth 100000 in
set_option maxHeartbeats 1600000 in
theorem div_in_zero (a b Q R : Int) (w : World) (da : decide (a < -1125899906842624) = false) (db : decide (1125899906842624 < a) = false) (dc : decide (b < -1125899906842624) = false) (dd : decide (1125899906842624 < b) = false) (de : (b == (0 : Int)) = false)
    (h1 : -1125899906842624 ≤ b * Q) (h2 : b * Q ≤ 1125899906842624) (q1 : -1125899906842624 ≤ Q) (q2 : Q ≤ 1125899906842624) (k1 : (b * Q + R == a) = true) (k2 : decide (-max b (-b) < R) = true) (k3 : decide (R < max b (-b)) = true) (x0 : (R == (0 : Int)) = true) (b2 : b ≤ 1125899906842624) (r3 : -1125899906842624 ≤ R) (r4 : R ≤ 1125899906842624)
    (a1 : -1125899906842624 ≤ a) (a2 : a ≤ 1125899906842624) (b1 : -1125899906842624 ≤ b)
    (cs : Calls Tryd.prog 8 #[] w (BoolPost w true))
    (cz : ∀ W, Calls Tryd.prog 11 #[.int .i64 a, .int .i64 0] W (TwoPost W 0 false)) (cm : ∀ W, Calls Tryd.prog 13 #[.int .i64 a, .int .i64 0] W (TwoPost W 0 false)) 
    (c1 : ∀ W, Calls Tryd.prog 11 #[.int .i64 a, .int .i64 b] W (TwoPost W Q true)) (c2 : ∀ W, Calls Tryd.prog 13 #[.int .i64 a, .int .i64 b] W (TwoPost W R true))
    (c3 : ∀ W, Calls Tryd.prog 11 #[.int .i64 (-a), .int .i64 b] W (TwoPost W (-Q) true)) (c4 : ∀ W, Calls Tryd.prog 13 #[.int .i64 (-a), .int .i64 b] W (TwoPost W (-R) true))
    (c5 : ∀ W, Calls Tryd.prog 11 #[.int .i64 a, .int .i64 (-b)] W (TwoPost W (-Q) true)) :
    Calls Tryd.prog 6 #[.int .i64 a, .int .i64 b] w (BoolPost w true) := by
  go_enter Tryd.func6, Tryd.ntmps6
  go_wp2_with fail
  refine cs.mono ?_
  rintro e w1 ⟨rfl, hb1⟩
  go_wp2_with fail
  refine (cz _).mono ?_
  rintro e w2 ⟨rfl, hbx⟩
  have hb2 := hb1.trans (hbx.mono hb1.size)
  clear hbx hb1
  go_wp2_with fail
  refine (cm _).mono ?_
  rintro e w3 ⟨rfl, hbx⟩
  have hb3 := hb2.trans (hbx.mono hb2.size)
  clear hbx hb2
  go_wp2_with fail
  refine (c1 _).mono ?_
  rintro e w4 ⟨rfl, hbx⟩
  have hb4 := hb3.trans (hbx.mono hb3.size)
  clear hbx hb3
  go_wp2_with fail
  refine (c2 _).mono ?_
  rintro e w5 ⟨rfl, hbx⟩
  have hb5 := hb4.trans (hbx.mono hb4.size)
  clear hbx hb4
  go_wp2_with fail
  refine (c3 _).mono ?_
  rintro e w6 ⟨rfl, hbx⟩
  have hb6 := hb5.trans (hbx.mono hb5.size)
  clear hbx hb5
  go_wp2_with fail
  refine (c4 _).mono ?_
  rintro e w7 ⟨rfl, hbx⟩
  have hb7 := hb6.trans (hbx.mono hb6.size)
  clear hbx hb6
  go_wp2_with fail
  refine (c5 _).mono ?_
  rintro e w8 ⟨rfl, hbx⟩
  have hb8 := hb7.trans (hbx.mono hb7.size)
  clear hbx hb7
  go_wp2
  go_ret
  exact ⟨rfl, hb8⟩
set_option maxRecDepth 100000 in
set_option maxHeartbeats 1600000 in
theorem div_in_neg (a b Q R : Int) (w : World) (da : decide (a < -1125899906842624) = false) (db : decide (1125899906842624 < a) = false) (dc : decide (b < -1125899906842624) = false) (dd : decide (1125899906842624 < b) = false) (de : (b == (0 : Int)) = false)
    (h1 : -1125899906842624 ≤ b * Q) (h2 : b * Q ≤ 1125899906842624) (q1 : -1125899906842624 ≤ Q) (q2 : Q ≤ 1125899906842624) (k1 : (b * Q + R == a) = true) (k2 : decide (-max b (-b) < R) = true) (k3 : decide (R < max b (-b)) = true) (x0 : (R == (0 : Int)) = false) (x1 : decide (R < 0) = true) (x2 : decide (a < 0) = true) (b2 : b ≤ 1125899906842624) (r3 : -1125899906842624 ≤ R) (r4 : R ≤ 1125899906842624)
    (a1 : -1125899906842624 ≤ a) (a2 : a ≤ 1125899906842624) (b1 : -1125899906842624 ≤ b)
    (cs : Calls Tryd.prog 8 #[] w (BoolPost w true))
    (cz : ∀ W, Calls Tryd.prog 11 #[.int .i64 a, .int .i64 0] W (TwoPost W 0 false)) (cm : ∀ W, Calls Tryd.prog 13 #[.int .i64 a, .int .i64 0] W (TwoPost W 0 false)) 
    (c1 : ∀ W, Calls Tryd.prog 11 #[.int .i64 a, .int .i64 b] W (TwoPost W Q true)) (c2 : ∀ W, Calls Tryd.prog 13 #[.int .i64 a, .int .i64 b] W (TwoPost W R true))
    (c3 : ∀ W, Calls Tryd.prog 11 #[.int .i64 (-a), .int .i64 b] W (TwoPost W (-Q) true)) (c4 : ∀ W, Calls Tryd.prog 13 #[.int .i64 (-a), .int .i64 b] W (TwoPost W (-R) true))
    (c5 : ∀ W, Calls Tryd.prog 11 #[.int .i64 a, .int .i64 (-b)] W (TwoPost W (-Q) true)) :
    Calls Tryd.prog 6 #[.int .i64 a, .int .i64 b] w (BoolPost w true) := by
  go_enter Tryd.func6, Tryd.ntmps6
  go_wp2_with fail
  refine cs.mono ?_
  rintro e w1 ⟨rfl, hb1⟩
  go_wp2_with fail
  refine (cz _).mono ?_
  rintro e w2 ⟨rfl, hbx⟩
  have hb2 := hb1.trans (hbx.mono hb1.size)
  clear hbx hb1
  go_wp2_with fail
  refine (cm _).mono ?_
  rintro e w3 ⟨rfl, hbx⟩
  have hb3 := hb2.trans (hbx.mono hb2.size)
  clear hbx hb2
  go_wp2_with fail
  refine (c1 _).mono ?_
  rintro e w4 ⟨rfl, hbx⟩
  have hb4 := hb3.trans (hbx.mono hb3.size)
  clear hbx hb3
  go_wp2_with fail
  refine (c2 _).mono ?_
  rintro e w5 ⟨rfl, hbx⟩
  have hb5 := hb4.trans (hbx.mono hb4.size)
  clear hbx hb4
  go_wp2_with fail
  refine (c3 _).mono ?_
  rintro e w6 ⟨rfl, hbx⟩
  have hb6 := hb5.trans (hbx.mono hb5.size)
  clear hbx hb5
  go_wp2_with fail
  refine (c4 _).mono ?_
  rintro e w7 ⟨rfl, hbx⟩
  have hb7 := hb6.trans (hbx.mono hb6.size)
  clear hbx hb6
  go_wp2_with fail
  refine (c5 _).mono ?_
  rintro e w8 ⟨rfl, hbx⟩
  have hb8 := hb7.trans (hbx.mono hb7.size)
  clear hbx hb7
  go_wp2
  go_ret
  exact ⟨rfl, hb8⟩
set_option maxRecDepth 100000 in
set_option maxHeartbeats 1600000 in
theorem div_in_pos (a b Q R : Int) (w : World) (da : decide (a < -1125899906842624) = false) (db : decide (1125899906842624 < a) = false) (dc : decide (b < -1125899906842624) = false) (dd : decide (1125899906842624 < b) = false) (de : (b == (0 : Int)) = false)
    (h1 : -1125899906842624 ≤ b * Q) (h2 : b * Q ≤ 1125899906842624) (q1 : -1125899906842624 ≤ Q) (q2 : Q ≤ 1125899906842624) (k1 : (b * Q + R == a) = true) (k2 : decide (-max b (-b) < R) = true) (k3 : decide (R < max b (-b)) = true) (x0 : (R == (0 : Int)) = false) (x1 : decide (R < 0) = false) (x2 : decide (a < 0) = false) (b2 : b ≤ 1125899906842624) (r3 : -1125899906842624 ≤ R) (r4 : R ≤ 1125899906842624)
    (a1 : -1125899906842624 ≤ a) (a2 : a ≤ 1125899906842624) (b1 : -1125899906842624 ≤ b)
    (cs : Calls Tryd.prog 8 #[] w (BoolPost w true))
    (cz : ∀ W, Calls Tryd.prog 11 #[.int .i64 a, .int .i64 0] W (TwoPost W 0 false)) (cm : ∀ W, Calls Tryd.prog 13 #[.int .i64 a, .int .i64 0] W (TwoPost W 0 false)) 
    (c1 : ∀ W, Calls Tryd.prog 11 #[.int .i64 a, .int .i64 b] W (TwoPost W Q true)) (c2 : ∀ W, Calls Tryd.prog 13 #[.int .i64 a, .int .i64 b] W (TwoPost W R true))
    (c3 : ∀ W, Calls Tryd.prog 11 #[.int .i64 (-a), .int .i64 b] W (TwoPost W (-Q) true)) (c4 : ∀ W, Calls Tryd.prog 13 #[.int .i64 (-a), .int .i64 b] W (TwoPost W (-R) true))
    (c5 : ∀ W, Calls Tryd.prog 11 #[.int .i64 a, .int .i64 (-b)] W (TwoPost W (-Q) true)) :
    Calls Tryd.prog 6 #[.int .i64 a, .int .i64 b] w (BoolPost w true) := by
  go_enter Tryd.func6, Tryd.ntmps6
  go_wp2_with fail
  refine cs.mono ?_
  rintro e w1 ⟨rfl, hb1⟩
  go_wp2_with fail
  refine (cz _).mono ?_
  rintro e w2 ⟨rfl, hbx⟩
  have hb2 := hb1.trans (hbx.mono hb1.size)
  clear hbx hb1
  go_wp2_with fail
  refine (cm _).mono ?_
  rintro e w3 ⟨rfl, hbx⟩
  have hb3 := hb2.trans (hbx.mono hb2.size)
  clear hbx hb2
  go_wp2_with fail
  refine (c1 _).mono ?_
  rintro e w4 ⟨rfl, hbx⟩
  have hb4 := hb3.trans (hbx.mono hb3.size)
  clear hbx hb3
  go_wp2_with fail
  refine (c2 _).mono ?_
  rintro e w5 ⟨rfl, hbx⟩
  have hb5 := hb4.trans (hbx.mono hb4.size)
  clear hbx hb4
  go_wp2_with fail
  refine (c3 _).mono ?_
  rintro e w6 ⟨rfl, hbx⟩
  have hb6 := hb5.trans (hbx.mono hb5.size)
  clear hbx hb5
  go_wp2_with fail
  refine (c4 _).mono ?_
  rintro e w7 ⟨rfl, hbx⟩
  have hb7 := hb6.trans (hbx.mono hb6.size)
  clear hbx hb6
  go_wp2_with fail
  refine (c5 _).mono ?_
  rintro e w8 ⟨rfl, hbx⟩
  have hb8 := hb7.trans (hbx.mono hb7.size)
  clear hbx hb7
  go_wp2
  go_ret
  exact ⟨rfl, hb8⟩
theorem divides_any (a b : Int) (w : World) (wa : wf64 a) (wb : wf64 b) (hL : Laid w) : Calls Tryd.prog 6 #[.int .i64 a, .int .i64 b] w (BoolPost w true) := by
  have cs := small_any w hL
  have cz := fun W => div_zero a W wa
  have cm := fun W => mod_zero a W wa
  by_cases ha : a < -1125899906842624
  · exact div_out0 a b w (decide_eq_true ha) cs cz cm
  by_cases hb : 1125899906842624 < a
  · exact div_out1 a b w (decide_eq_false ha) (decide_eq_true hb) cs cz cm
  by_cases hc : b < -1125899906842624
  · exact div_out2 a b w (decide_eq_false ha) (decide_eq_false hb) (decide_eq_true hc) cs cz cm
  by_cases hd : 1125899906842624 < b
  · exact div_out3 a b w (decide_eq_false ha) (decide_eq_false hb) (decide_eq_false hc) (decide_eq_true hd) cs cz cm
  by_cases he : b = 0
  · exact div_out4 a b w (decide_eq_false ha) (decide_eq_false hb) (decide_eq_false hc) (decide_eq_false hd) (beq_iff_eq.2 he) cs cz cm
  have f := div_facts (a := a) (b := b) (by omega) (by omega) he
  have ab := tmod_bound (a := a) (b := b)
  have wna : wf64 (-a) := by unfold wf64; omega
  have wnb : wf64 (-b) := by unfold wf64; omega
  have l1 : limI (a.tdiv b) = a.tdiv b := lim_self f.q.1 f.q.2
  have l2 : limI (a.tmod b) = a.tmod b := lim_self (by omega) (by omega)
  have l3 : limI ((-a).tdiv b) = -a.tdiv b := by rw [Int.neg_tdiv]; have := f.q; exact lim_self (by omega) (by omega)
  have l4 : limI ((-a).tmod b) = -a.tmod b := by rw [Int.neg_tmod]; exact lim_self (by omega) (by omega)
  have l5 : limI (a.tdiv (-b)) = -a.tdiv b := by rw [Int.tdiv_neg]; have := f.q; exact lim_self (by omega) (by omega)
  have c1 := fun W => div_as a b _ W wa wb he l1
  have c2 := fun W => mod_as a b _ W wa wb he l2
  have c3 := fun W => div_as (-a) b _ W wna wb he l3
  have c4 := fun W => mod_as (-a) b _ W wna wb he l4
  have c5 := fun W => div_as a (-b) _ W wa wnb (by omega) l5
  have f1 := f.bound
  have f2 := f.sum
  have f3 := f.q
  have f4 := f.r
  have f5 := f.sign
  generalize a.tdiv b = Q at *
  generalize a.tmod b = R at *
  have k2 : decide (-max b (-b) < R) = true := decide_eq_true (by omega)
  have k3 : decide (R < max b (-b)) = true := decide_eq_true (by omega)
  by_cases h0 : R = 0
  · exact div_in_zero a b Q R w (decide_eq_false ha) (decide_eq_false hb) (decide_eq_false hc) (decide_eq_false hd) (beq_eq_false_iff_ne.2 he) f1.1 f1.2 f3.1 f3.2 (beq_iff_eq.2 f2) k2 k3 (beq_iff_eq.2 h0) (by omega) (by omega) (by omega) (by omega) (by omega) (by omega) cs cz cm c1 c2 c3 c4 c5
  have h5 := f5 h0
  by_cases hn : a < 0
  · rw [decide_eq_true hn] at h5
    exact div_in_neg a b Q R w (decide_eq_false ha) (decide_eq_false hb) (decide_eq_false hc) (decide_eq_false hd) (beq_eq_false_iff_ne.2 he) f1.1 f1.2 f3.1 f3.2 (beq_iff_eq.2 f2) k2 k3 (beq_eq_false_iff_ne.2 h0) h5 (decide_eq_true hn) (by omega) (by omega) (by omega) (by omega) (by omega) (by omega) cs cz cm c1 c2 c3 c4 c5
  · rw [decide_eq_false hn] at h5
    exact div_in_pos a b Q R w (decide_eq_false ha) (decide_eq_false hb) (decide_eq_false hc) (decide_eq_false hd) (beq_eq_false_iff_ne.2 he) f1.1 f1.2 f3.1 f3.2 (beq_iff_eq.2 f2) k2 k3 (beq_eq_false_iff_ne.2 h0) h5 (decide_eq_false hn) (by omega) (by omega) (by omega) (by omega) (by omega) (by omega) cs cz cm c1 c2 c3 c4 c5
end Go.Proofs.YthbnjlpiehlcfaaDoor
