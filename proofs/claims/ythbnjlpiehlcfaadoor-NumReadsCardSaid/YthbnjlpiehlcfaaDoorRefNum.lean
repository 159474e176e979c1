/- The reference's arithmetic, walked: it computes what num computes. -/
import Derived.Test.YthbnjlpiehlcfaaDoorSmall
namespace Go.Proofs.YthbnjlpiehlcfaaDoor
open Go.ChangeShapes Go.WideShapes Go.ChangeAt Go.RowKit Go.Lib
set_option linter.unusedVariables false

def Same (v : Value) (w : World) (e : Ending) (w' : World) : Prop := e = .returned v ∧ w = w'
theorem rclamp_any (n l h : Int) (w : World) : Calls Tryd.prog 18 #[.int .i64 n, .int .i64 l, .int .i64 h] w (Same (.int .i64 (clampI n l h)) w) := by
  by_cases h1 : n < l
  · have hN : Hid (clampI n l h = l) := by unfold Hid clampI; rw [if_pos h1]
    go_enter Tryd.func18, Tryd.ntmps18
    go_wp2
    go_ret
    exact ⟨by rw [hN.out]; rfl, rfl⟩
  · have hd : decide (n < l) = false := by simpa using h1
    by_cases h2 : h < n
    · have hN : Hid (clampI n l h = h) := by unfold Hid clampI; rw [if_neg h1, if_pos h2]
      go_enter Tryd.func18, Tryd.ntmps18
      go_wp2
      go_ret
      exact ⟨by rw [hN.out]; rfl, rfl⟩
    · have hd2 : decide (h < n) = false := by simpa using h2
      have hN : Hid (clampI n l h = n) := by unfold Hid clampI; rw [if_neg h1, if_neg h2]
      go_enter Tryd.func18, Tryd.ntmps18
      go_wp2
      go_ret
      exact ⟨by rw [hN.out]; rfl, rfl⟩
theorem rlimit_any (n : Int) (w : World) : Calls Tryd.prog 34 #[.int .i64 n] w (Same (.int .i64 (limI n)) w) := by
  go_enter Tryd.func34, Tryd.ntmps34
  go_wp2_with fail
  refine (rclamp_any _ _ _ w).mono ?_
  rintro e w' ⟨rfl, rfl⟩
  go_wp2_with fail
  go_ret
  exact ⟨rfl, rfl⟩
theorem rsize_any (n : Int) (w : World) (h : wf64 n) : Calls Tryd.prog 29 #[.int .i64 n] w (Same (.int .u64 (n.natAbs : Int)) w) := by
  unfold wf64 at h
  by_cases h0 : n < 0
  · obtain ⟨m, rfl⟩ : ∃ m : Nat, n = -(m : Int) - 1 := ⟨(-n - 1).toNat, by omega⟩
    have hm : (m : Int) ≤ 9223372036854775807 := by omega
    have d0 : decide (-(m : Int) - 1 < 0) = true := decide_eq_true (by omega)
    have e : Hid ((((-(m : Int) - 1).natAbs : Nat) : Int) = (m : Int) + 1) := by unfold Hid; omega
    clear h h0
    go_enter Tryd.func29, Tryd.ntmps29
    go_wp2
    go_ret
    refine ⟨?_, rfl⟩
    rw [e.out]
    rfl
  · obtain ⟨m, rfl⟩ : ∃ m : Nat, n = (m : Int) := ⟨n.toNat, by omega⟩
    have hm : (m : Int) ≤ 9223372036854775807 := by omega
    have d0 : decide ((m : Int) < 0) = false := decide_eq_false (by omega)
    clear h h0
    go_enter Tryd.func29, Tryd.ntmps29
    go_wp2
    go_ret
    refine ⟨?_, rfl⟩
    rfl
theorem lim_min (u : Nat) : limI (u : Int) = min (u : Int) 1125899906842624 := by
  unfold limI clampI
  rw [if_neg (by omega)]
  split <;> omega
theorem lim_min_neg (u : Nat) : limI (-(u : Int)) = -min (u : Int) 1125899906842624 := by
  unfold limI clampI
  split
  · omega
  · rw [if_neg (by omega)]; omega
def sgn (neg : Bool) (u : Nat) : Int := bif neg then -(u : Int) else u
theorem rsigned_any (u : Nat) (neg : Bool) (w : World) (h : (u : Int) ≤ 18446744073709551615) : Calls Tryd.prog 28 #[.int .u64 u, .bool neg] w (Same (.int .i64 (limI (sgn neg u))) w) := by
  cases neg
  · have HN := Lib.hid (show limI (sgn false u) = _ from lim_min u)
    go_enter Tryd.func28, Tryd.ntmps28
    go_wp2
    go_ret
    exact ⟨by rw [HN.out]; rfl, rfl⟩
  · have HN := Lib.hid (show limI (sgn true u) = _ from lim_min_neg u)
    go_enter Tryd.func28, Tryd.ntmps28
    go_wp2
    go_ret
    exact ⟨by rw [HN.out]; rfl, rfl⟩
/-- the sign of a product and of a quotient -/
theorem sgn_mul (a b : Int) : sgn (decide (a < 0) != decide (b < 0)) (a.natAbs * b.natAbs) = a * b := by
  have h := mul_sign (a := a) (b := b)
  cases hs : (decide (a < 0) != decide (b < 0)) <;> rw [hs] at h <;> simp [sgn] at h ⊢ <;> omega
theorem sgn_div (a b : Int) : sgn (decide (a < 0) != decide (b < 0)) (a.natAbs / b.natAbs) = a.tdiv b := by
  have h1 : (a.tdiv b).natAbs = a.natAbs / b.natAbs := Int.natAbs_tdiv a b
  rw [← h1]
  by_cases ha : a < 0 <;> by_cases hb : b < 0
  · have h := Int.tdiv_nonneg (a := -a) (b := -b) (by omega) (by omega)
    rw [Int.tdiv_neg, Int.neg_tdiv, Int.neg_neg] at h
    rw [decide_eq_true ha, decide_eq_true hb]
    simp only [sgn, bne_self_eq_false, cond_false]
    omega
  · have h := Int.tdiv_nonneg (a := -a) (b := b) (by omega) (by omega)
    rw [Int.neg_tdiv] at h
    rw [decide_eq_true ha, decide_eq_false hb]
    show -((a.tdiv b).natAbs : Int) = _
    omega
  · have h := Int.tdiv_nonneg (a := a) (b := -b) (by omega) (by omega)
    rw [Int.tdiv_neg] at h
    rw [decide_eq_false ha, decide_eq_true hb]
    show -((a.tdiv b).natAbs : Int) = _
    omega
  · have h := Int.tdiv_nonneg (a := a) (b := b) (by omega) (by omega)
    rw [decide_eq_false ha, decide_eq_false hb]
    show ((a.tdiv b).natAbs : Int) = _
    omega
theorem sgn_mod (a b : Int) : sgn (decide (a < 0)) (a.natAbs % b.natAbs) = a.tmod b := by
  have h1 : (a.tmod b).natAbs = a.natAbs % b.natAbs := Int.natAbs_tmod a b
  rw [← h1]
  by_cases ha : a < 0
  · have h : 0 ≤ (-a).tmod b := Int.tmod_nonneg b (by omega)
    rw [Int.neg_tmod] at h
    rw [decide_eq_true ha]
    show -((a.tmod b).natAbs : Int) = _
    omega
  · have h : 0 ≤ a.tmod b := Int.tmod_nonneg b (by omega)
    rw [decide_eq_false ha]
    show ((a.tmod b).natAbs : Int) = _
    omega
theorem rdiv_zero (a : Int) (w : World) : Calls Tryd.prog 12 #[.int .i64 a, .int .i64 0] w (Same (.tuple #[.int .i64 0, .bool false]) w) := by
  go_enter Tryd.func12, Tryd.ntmps12
  go_wp2
  go_ret2
  exact ⟨rfl, rfl⟩
theorem rmod_zero (a : Int) (w : World) : Calls Tryd.prog 14 #[.int .i64 a, .int .i64 0] w (Same (.tuple #[.int .i64 0, .bool false]) w) := by
  go_enter Tryd.func14, Tryd.ntmps14
  go_wp2
  go_ret2
  exact ⟨rfl, rfl⟩
theorem rdiv_at (a b q : Int) (x y : Nat) (w : World) (h0 : (b == (0 : Int)) = false) (h1 : 1 ≤ y) (h2 : (x : Int) ≤ 18446744073709551615)
    (c1 : ∀ W, Calls Tryd.prog 29 #[.int .i64 a] W (Same (.int .u64 x) W)) (c2 : ∀ W, Calls Tryd.prog 29 #[.int .i64 b] W (Same (.int .u64 y) W))
    (u1 : 0 ≤ (x : Int) / (y : Int)) (u2 : (x : Int) / (y : Int) ≤ 18446744073709551615)
    (c3 : ∀ W, Calls Tryd.prog 28 #[.int .u64 ((x : Int) / (y : Int)), .bool (decide (a < 0) != decide (b < 0))] W (Same (.int .i64 q) W)) :
    Calls Tryd.prog 12 #[.int .i64 a, .int .i64 b] w (Same (.tuple #[.int .i64 q, .bool true]) w) := by
  go_enter Tryd.func12, Tryd.ntmps12
  go_wp2_with fail
  refine (c1 _).mono ?_
  rintro e w' ⟨rfl, rfl⟩
  go_wp2_with fail
  refine (c2 _).mono ?_
  rintro e w' ⟨rfl, rfl⟩
  go_wp2_with fail
  refine (c3 _).mono ?_
  rintro e w' ⟨rfl, rfl⟩
  go_wp2_with fail
  go_ret2
  exact ⟨rfl, rfl⟩
theorem rmod_at (a b q : Int) (x y : Nat) (w : World) (h0 : (b == (0 : Int)) = false) (h1 : 1 ≤ y) (h2 : (x : Int) ≤ 18446744073709551615)
    (c1 : ∀ W, Calls Tryd.prog 29 #[.int .i64 a] W (Same (.int .u64 x) W)) (c2 : ∀ W, Calls Tryd.prog 29 #[.int .i64 b] W (Same (.int .u64 y) W))
    (u1 : 0 ≤ (x : Int) % (y : Int)) (u2 : (x : Int) % (y : Int) ≤ 18446744073709551615)
    (c3 : ∀ W, Calls Tryd.prog 28 #[.int .u64 ((x : Int) % (y : Int)), .bool (decide (a < 0))] W (Same (.int .i64 q) W)) :
    Calls Tryd.prog 14 #[.int .i64 a, .int .i64 b] w (Same (.tuple #[.int .i64 q, .bool true]) w) := by
  go_enter Tryd.func14, Tryd.ntmps14
  go_wp2_with fail
  refine (c1 _).mono ?_
  rintro e w' ⟨rfl, rfl⟩
  go_wp2_with fail
  refine (c2 _).mono ?_
  rintro e w' ⟨rfl, rfl⟩
  go_wp2_with fail
  refine (c3 _).mono ?_
  rintro e w' ⟨rfl, rfl⟩
  go_wp2_with fail
  go_ret2
  exact ⟨rfl, rfl⟩
theorem rdiv_any (a b : Int) (w : World) (ha : wf64 a) (hb : wf64 b) : Calls Tryd.prog 12 #[.int .i64 a, .int .i64 b] w (Same (.tuple #[.int .i64 (if b = 0 then 0 else limI (a.tdiv b)), .bool (decide (b ≠ 0))]) w) := by
  by_cases h0 : b = 0
  · subst h0
    rw [if_pos rfl]
    exact rdiv_zero a w
  · rw [if_neg h0, decide_eq_true h0]
    have q1 : (a.natAbs : Int) ≤ 18446744073709551615 := by unfold wf64 at ha; omega
    have q2 : a.natAbs / b.natAbs ≤ a.natAbs := Nat.div_le_self _ _
    refine rdiv_at a b _ a.natAbs b.natAbs w (beq_eq_false_iff_ne.2 h0) (by omega) q1 (fun W => rsize_any a W ha) (fun W => rsize_any b W hb) (by rw [← Int.natCast_ediv]; exact Int.natCast_nonneg _) (by rw [← Int.natCast_ediv]; omega) fun W => ?_
    have c := rsigned_any (a.natAbs / b.natAbs) (decide (a < 0) != decide (b < 0)) W (by omega)
    rw [sgn_div, Int.natCast_ediv] at c
    exact c
theorem rmod_any (a b : Int) (w : World) (ha : wf64 a) (hb : wf64 b) : Calls Tryd.prog 14 #[.int .i64 a, .int .i64 b] w (Same (.tuple #[.int .i64 (if b = 0 then 0 else limI (a.tmod b)), .bool (decide (b ≠ 0))]) w) := by
  by_cases h0 : b = 0
  · subst h0
    rw [if_pos rfl]
    exact rmod_zero a w
  · rw [if_neg h0, decide_eq_true h0]
    have q1 : (a.natAbs : Int) ≤ 18446744073709551615 := by unfold wf64 at ha; omega
    have q2 : a.natAbs % b.natAbs ≤ a.natAbs := Nat.mod_le _ _
    refine rmod_at a b _ a.natAbs b.natAbs w (beq_eq_false_iff_ne.2 h0) (by omega) q1 (fun W => rsize_any a W ha) (fun W => rsize_any b W hb) (by rw [← Int.natCast_emod]; omega) (by rw [← Int.natCast_emod]; omega) fun W => ?_
    have c := rsigned_any (a.natAbs % b.natAbs) (decide (a < 0)) W (by omega)
    rw [sgn_mod, Int.natCast_emod] at c
    exact c
theorem radd_any (a b : Int) (w : World) (ha : wf64 a) (hb : wf64 b) : Calls Tryd.prog 20 #[.int .i64 a, .int .i64 b] w (Same (.int .i64 (limI (a + b))) w) := by
  unfold wf64 at ha hb
  by_cases h0 : 0 ≤ b
  · have d0 : decide (0 ≤ b) = true := decide_eq_true h0
    by_cases h1 : 1125899906842624 - b < a
    · have d1 : decide (1125899906842624 - b < a) = true := decide_eq_true h1
      have z : Hid (limI (a + b) = 1125899906842624) := by unfold Hid limI clampI; rw [if_neg (by omega), if_pos (by omega)]
      go_enter Tryd.func20, Tryd.ntmps20
      go_wp2
      go_ret
      exact ⟨by rw [z.out]; rfl, rfl⟩
    · have d1 : decide (1125899906842624 - b < a) = false := decide_eq_false h1
      have d2 : decide (b < 0) = false := decide_eq_false (by omega)
      have s1 : a + b ≤ 9223372036854775807 := by omega
      have s2 : -9223372036854775808 ≤ a + b := by omega
      go_enter Tryd.func20, Tryd.ntmps20
      go_wp2_with fail
      refine (rlimit_any _ _).mono ?_
      rintro e w' ⟨rfl, rfl⟩
      go_wp2_with fail
      go_ret
      exact ⟨rfl, rfl⟩
  · have d0 : decide (0 ≤ b) = false := decide_eq_false h0
    have d2 : decide (b < 0) = true := decide_eq_true (by omega)
    by_cases h1 : a < -1125899906842624 - b
    · have d1 : decide (a < -1125899906842624 - b) = true := decide_eq_true h1
      have z : Hid (limI (a + b) = -1125899906842624) := by unfold Hid limI clampI; rw [if_pos (by omega)]
      go_enter Tryd.func20, Tryd.ntmps20
      go_wp2
      go_ret
      exact ⟨by rw [z.out]; rfl, rfl⟩
    · have d1 : decide (a < -1125899906842624 - b) = false := decide_eq_false h1
      have s1 : a + b ≤ 9223372036854775807 := by omega
      have s2 : -9223372036854775808 ≤ a + b := by omega
      go_enter Tryd.func20, Tryd.ntmps20
      go_wp2_with fail
      refine (rlimit_any _ _).mono ?_
      rintro e w' ⟨rfl, rfl⟩
      go_wp2_with fail
      go_ret
      exact ⟨rfl, rfl⟩
theorem rsub_any (a b : Int) (w : World) (ha : wf64 a) (hb : wf64 b) : Calls Tryd.prog 22 #[.int .i64 a, .int .i64 b] w (Same (.int .i64 (limI (a - b))) w) := by
  unfold wf64 at ha hb
  by_cases h0 : b < 0
  · have d0 : decide (b < 0) = true := decide_eq_true h0
    by_cases h1 : 1125899906842624 + b < a
    · have d1 : decide (1125899906842624 + b < a) = true := decide_eq_true h1
      have z : Hid (limI (a - b) = 1125899906842624) := by unfold Hid limI clampI; rw [if_neg (by omega), if_pos (by omega)]
      go_enter Tryd.func22, Tryd.ntmps22
      go_wp2
      go_ret
      exact ⟨by rw [z.out]; rfl, rfl⟩
    · have d1 : decide (1125899906842624 + b < a) = false := decide_eq_false h1
      have d2 : decide (0 ≤ b) = false := decide_eq_false (by omega)
      have s1 : a - b ≤ 9223372036854775807 := by omega
      have s2 : -9223372036854775808 ≤ a - b := by omega
      go_enter Tryd.func22, Tryd.ntmps22
      go_wp2_with fail
      refine (rlimit_any _ _).mono ?_
      rintro e w' ⟨rfl, rfl⟩
      go_wp2_with fail
      go_ret
      exact ⟨rfl, rfl⟩
  · have d0 : decide (b < 0) = false := decide_eq_false h0
    have d2 : decide (0 ≤ b) = true := decide_eq_true (by omega)
    by_cases h1 : a < -1125899906842624 + b
    · have d1 : decide (a < -1125899906842624 + b) = true := decide_eq_true h1
      have z : Hid (limI (a - b) = -1125899906842624) := by unfold Hid limI clampI; rw [if_pos (by omega)]
      go_enter Tryd.func22, Tryd.ntmps22
      go_wp2
      go_ret
      exact ⟨by rw [z.out]; rfl, rfl⟩
    · have d1 : decide (a < -1125899906842624 + b) = false := decide_eq_false h1
      have s1 : a - b ≤ 9223372036854775807 := by omega
      have s2 : -9223372036854775808 ≤ a - b := by omega
      go_enter Tryd.func22, Tryd.ntmps22
      go_wp2_with fail
      refine (rlimit_any _ _).mono ?_
      rintro e w' ⟨rfl, rfl⟩
      go_wp2_with fail
      go_ret
      exact ⟨rfl, rfl⟩
theorem rmul_any (a b : Int) (w : World) (ha : wf64 a) (hb : wf64 b) : Calls Tryd.prog 24 #[.int .i64 a, .int .i64 b] w (Same (.int .i64 (limI (a * b))) w) := by
  have c1 := fun W => rsize_any a W ha
  have c2 := fun W => rsize_any b W hb
  have hs := sgn_mul a b
  unfold wf64 at ha hb
  have x1 : (a.natAbs : Int) ≤ 9223372036854775808 := by omega
  have y1 : (b.natAbs : Int) ≤ 9223372036854775808 := by omega
  generalize a.natAbs = x at *
  generalize b.natAbs = y at *
  by_cases hx : x = 0
  · subst hx
    have z : Hid (limI (a * b) = 0) := by unfold Hid; rw [← hs]; simp [sgn]; rfl
    clear hs
    go_enter Tryd.func24, Tryd.ntmps24
    go_wp2_with fail
    refine (c1 _).mono ?_
    rintro e w' ⟨rfl, rfl⟩
    go_wp2_with fail
    refine (c2 _).mono ?_
    rintro e w' ⟨rfl, rfl⟩
    go_wp2_with fail
    go_ret
    exact ⟨by rw [z.out]; rfl, rfl⟩
  have dx : ((x : Int) == 0) = false := by simpa using hx
  by_cases hy : y = 0
  · subst hy
    have z : Hid (limI (a * b) = 0) := by unfold Hid; rw [← hs]; simp [sgn]; rfl
    clear hs
    go_enter Tryd.func24, Tryd.ntmps24
    go_wp2_with fail
    refine (c1 _).mono ?_
    rintro e w' ⟨rfl, rfl⟩
    go_wp2_with fail
    refine (c2 _).mono ?_
    rintro e w' ⟨rfl, rfl⟩
    go_wp2_with fail
    go_ret
    exact ⟨by rw [z.out]; rfl, rfl⟩
  have dy : ((y : Int) == 0) = false := by simpa using hy
  have yp : 1 ≤ y := by omega
  have yp0 : 0 < y := by omega
  by_cases hq : 1125899906842624 / y < x
  · have dq : decide ((1125899906842624 : Int) / (y : Int) < (x : Int)) = true := decide_eq_true (by have h := Int.natCast_ediv 1125899906842624 y; rw [show ((1125899906842624 : Nat) : Int) = 1125899906842624 from rfl] at h; omega)
    have hb : 1125899906842624 < x * y := (Nat.div_lt_iff_lt_mul yp0).1 hq
    have z : Hid (limI (a * b) = limI (sgn (decide (a < 0) != decide (b < 0)) 1125899906842624)) := by
      unfold Hid
      rw [← hs]
      generalize x * y = u at *
      cases (decide (a < 0) != decide (b < 0)) <;> simp only [sgn, cond_true, cond_false]
      · rw [lim_min, lim_min]; omega
      · rw [lim_min_neg, lim_min_neg]; omega
    have c3 := fun W => rsigned_any 1125899906842624 (decide (a < 0) != decide (b < 0)) W (by decide)
    rw [← z.out] at c3
    clear hs z hb hq hx hy
    go_enter Tryd.func24, Tryd.ntmps24
    go_wp2_with fail
    refine (c1 _).mono ?_
    rintro e w' ⟨rfl, rfl⟩
    go_wp2_with fail
    refine (c2 _).mono ?_
    rintro e w' ⟨rfl, rfl⟩
    go_wp2_with fail
    refine (c3 _).mono ?_
    rintro e w' ⟨rfl, rfl⟩
    go_wp2_with fail
    go_ret
    exact ⟨rfl, rfl⟩
  · have dq : decide ((1125899906842624 : Int) / (y : Int) < (x : Int)) = false := decide_eq_false (by have h := Int.natCast_ediv 1125899906842624 y; rw [show ((1125899906842624 : Nat) : Int) = 1125899906842624 from rfl] at h; omega)
    have hb : x * y ≤ 1125899906842624 := by
      rcases Nat.lt_or_ge 1125899906842624 (x * y) with h | h
      · exact absurd ((Nat.div_lt_iff_lt_mul yp0).2 h) hq
      · exact h
    have hbi : (x : Int) * (y : Int) ≤ 1125899906842624 := by rw [← Int.natCast_mul]; omega
    have hb0 : 0 ≤ (x : Int) * (y : Int) := by rw [← Int.natCast_mul]; omega
    have c3 := fun W => rsigned_any (x * y) (decide (a < 0) != decide (b < 0)) W (by omega)
    rw [hs, Int.natCast_mul] at c3
    clear hs hb hq hx hy
    go_enter Tryd.func24, Tryd.ntmps24
    go_wp2_with fail
    refine (c1 _).mono ?_
    rintro e w' ⟨rfl, rfl⟩
    go_wp2_with fail
    refine (c2 _).mono ?_
    rintro e w' ⟨rfl, rfl⟩
    go_wp2_with fail
    refine (c3 _).mono ?_
    rintro e w' ⟨rfl, rfl⟩
    go_wp2_with fail
    go_ret
    exact ⟨rfl, rfl⟩
end Go.Proofs.YthbnjlpiehlcfaaDoor
