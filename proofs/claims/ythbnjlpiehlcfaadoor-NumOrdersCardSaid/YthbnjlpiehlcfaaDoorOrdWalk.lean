/- NumOrders, walked: it answers true. -/
import Derived.Test.YthbnjlpiehlcfaaDoorDivWalk
import Derived.Test.YthbnjlpiehlcfaaDoorPure
import Derived.Deep.DeepCutAuto
namespace Go.Proofs.YthbnjlpiehlcfaaDoor
open Go.ChangeShapes Go.WideShapes Go.ChangeAt Go.RowKit Go.Lib
set_option linter.unusedVariables false

theorem lim_mono {x y : Int} (h : x ≤ y) : limI x ≤ limI y := by
  unfold limI clampI
  repeat' split
  all_goals omega
theorem lim_neg (x : Int) : limI (-x) = -limI x := by
  unfold limI clampI
  repeat' split
  all_goals omega
theorem limb (x : Int) : -1125899906842624 ≤ limI x ∧ limI x ≤ 1125899906842624 := by
  unfold limI clampI
  repeat' split
  all_goals omega
theorem clamp_in {c a b : Int} (h : a ≤ b) : a ≤ clampI c a b ∧ clampI c a b ≤ b := by
  unfold clampI
  repeat' split
  all_goals omega
theorem clamp_clamp {c a b : Int} (h : a ≤ b) : clampI (clampI c a b) a b = clampI c a b := by
  have := clamp_in (c := c) h
  rw [clampI.eq_def (clampI c a b), if_neg (by omega), if_neg (by omega)]
theorem clamp_mid {c a b : Int} (h1 : ¬ c < a) (h2 : ¬ b < c) : clampI c a b = c := by
  unfold clampI
  rw [if_neg h1, if_neg h2]
theorem itoa_inj {a b : Int} (ha : wf64 a) (hb : wf64 b) (h : itoa a = itoa b) : a = b := by
  have h1 := atoi_itoa ha.1 ha.2
  rw [h, atoi_itoa hb.1 hb.2] at h1
  injection h1 with h1
  exact h1.symm

set_option maxRecDepth 100000 in
set_option maxHeartbeats 1600000 in
theorem ord_in (a b c A1 A2 S1 S2 T1 T2 M1 M2 X D E : Int) (is : Bool) (w : World) (wa : wf64 a) (wb : wf64 b) (hL : Laid w) (dab : decide (b < a) = false)
    (o1 : decide (A1 ≤ A2) = true) (o2 : decide (S1 ≤ S2) = true) (o3 : decide (T2 ≤ T1) = true) (o4 : (S1 == -T1) = true) (t1 : -1125899906842624 ≤ T1) (t2 : T1 ≤ 1125899906842624)
    (o5 : decide (a ≤ X) = true) (o6 : decide (X ≤ b) = true) (o7 : (decide (c < a) = true) ∨ (decide (c < a) = false ∧ decide (b < c) = true) ∨ (decide (c < a) = false ∧ decide (b < c) = false ∧ (X == c) = true))
    (o8 : (decide (c ≤ 0) = true) ∨ (decide (c ≤ 0) = false ∧ is = true ∧ decide (D ≤ E) = true ∧ decide (M1 ≤ M2) = true))
    (o9 : decide (-1125899906842624 ≤ M1) = true) (o10 : decide (M1 ≤ 1125899906842624) = true) (o11 : decide (-1125899906842624 ≤ D) = true) (o12 : decide (D ≤ 1125899906842624) = true)
    (o13 : ((a == b) = true ∧ (itoa a == itoa b) = true) ∨ ((a == b) = false ∧ (itoa a == itoa b) = false))
    (cs : Calls Tryd.prog 8 #[] w (BoolPost w true))
    (cA1 : ∀ W, Calls Tryd.prog 19 #[.int .i64 a, .int .i64 c] W (IntPost W A1)) (cA2 : ∀ W, Calls Tryd.prog 19 #[.int .i64 b, .int .i64 c] W (IntPost W A2)) (cA3 : ∀ W, Calls Tryd.prog 19 #[.int .i64 c, .int .i64 a] W (IntPost W A1))
    (cS1 : ∀ W, Calls Tryd.prog 21 #[.int .i64 a, .int .i64 c] W (IntPost W S1)) (cS2 : ∀ W, Calls Tryd.prog 21 #[.int .i64 b, .int .i64 c] W (IntPost W S2))
    (cT1 : ∀ W, Calls Tryd.prog 21 #[.int .i64 c, .int .i64 a] W (IntPost W T1)) (cT2 : ∀ W, Calls Tryd.prog 21 #[.int .i64 c, .int .i64 b] W (IntPost W T2))
    (cM1 : ∀ W, Calls Tryd.prog 23 #[.int .i64 a, .int .i64 c] W (IntPost W M1)) (cM2 : ∀ W, Calls Tryd.prog 23 #[.int .i64 b, .int .i64 c] W (IntPost W M2)) (cM3 : ∀ W, Calls Tryd.prog 23 #[.int .i64 c, .int .i64 a] W (IntPost W M1))
    (cX1 : ∀ W, Calls Tryd.prog 17 #[.int .i64 c, .int .i64 a, .int .i64 b] W (fun e w' => e = .returned (.int .i64 X) ∧ W = w')) (cX2 : ∀ W, Calls Tryd.prog 17 #[.int .i64 X, .int .i64 a, .int .i64 b] W (fun e w' => e = .returned (.int .i64 X) ∧ W = w'))
    (cD : ∀ W, Calls Tryd.prog 11 #[.int .i64 a, .int .i64 c] W (TwoPost W D is)) (cE : ∀ W, Calls Tryd.prog 11 #[.int .i64 b, .int .i64 c] W (TwoPost W E is)) :
    Calls Tryd.prog 7 #[.int .i64 a, .int .i64 b, .int .i64 c] w (BoolPost w true) := by
  have hb0 := Below.refl w.heap.size w
  go_enter Tryd.func7, Tryd.ntmps7
  go_wp2_with fail
  refine (cs).mono ?_
  rintro e v1 ⟨rfl, hbx⟩
  have hb1 := hb0.trans (hbx.mono hb0.size)
  clear hbx hb0
  go_wp2_with fail
  refine (cA1 _).mono ?_
  rintro e v2 ⟨rfl, hbx⟩
  have hb2 := hb1.trans (hbx.mono hb1.size)
  clear hbx hb1
  go_wp2_with fail
  refine (cA2 _).mono ?_
  rintro e v3 ⟨rfl, hbx⟩
  have hb3 := hb2.trans (hbx.mono hb2.size)
  clear hbx hb2
  go_wp2_with fail
  refine (cS1 _).mono ?_
  rintro e v4 ⟨rfl, hbx⟩
  have hb4 := hb3.trans (hbx.mono hb3.size)
  clear hbx hb3
  go_wp2_with fail
  refine (cS2 _).mono ?_
  rintro e v5 ⟨rfl, hbx⟩
  have hb5 := hb4.trans (hbx.mono hb4.size)
  clear hbx hb4
  go_wp2_with fail
  refine (cT1 _).mono ?_
  rintro e v6 ⟨rfl, hbx⟩
  have hb6 := hb5.trans (hbx.mono hb5.size)
  clear hbx hb5
  go_wp2_with fail
  refine (cT2 _).mono ?_
  rintro e v7 ⟨rfl, hbx⟩
  have hb7 := hb6.trans (hbx.mono hb6.size)
  clear hbx hb6
  go_wp2_with fail
  refine (cS1 _).mono ?_
  rintro e v8 ⟨rfl, hbx⟩
  have hb8 := hb7.trans (hbx.mono hb7.size)
  clear hbx hb7
  go_wp2_with fail
  refine (cT1 _).mono ?_
  rintro e v9 ⟨rfl, hbx⟩
  have hb9 := hb8.trans (hbx.mono hb8.size)
  clear hbx hb8
  go_wp2_with fail
  refine (cM1 _).mono ?_
  rintro e v10 ⟨rfl, hbx⟩
  have hb10 := hb9.trans (hbx.mono hb9.size)
  clear hbx hb9
  go_wp2_with fail
  refine (cM3 _).mono ?_
  rintro e v11 ⟨rfl, hbx⟩
  have hb11 := hb10.trans (hbx.mono hb10.size)
  clear hbx hb10
  go_wp2_with fail
  refine (cA1 _).mono ?_
  rintro e v12 ⟨rfl, hbx⟩
  have hb12 := hb11.trans (hbx.mono hb11.size)
  clear hbx hb11
  go_wp2_with fail
  refine (cA3 _).mono ?_
  rintro e v13 ⟨rfl, hbx⟩
  have hb13 := hb12.trans (hbx.mono hb12.size)
  clear hbx hb12
  go_wp2_with fail
  refine (cX1 _).mono ?_
  rintro e w14 ⟨rfl, rfl⟩
  go_upto_region 7 with fail
  go_cut [11] (fun s11 wx => s11 = .bool true ∧ Below w.heap.size w wx)
  case first =>
    rcases o7 with h1 | ⟨h1, h2⟩ | ⟨h1, h2, h3⟩
    all_goals
      clear o8 o13
      go_wp2_with (go_at_call 17; refine (cX2 _).mono ?_; rintro e w99 ⟨rfl, rfl⟩)
      go_meet
      exact ⟨rfl, hb13⟩
  case rest =>
    obtain ⟨rfl, hbc11⟩ := hcut
    go_wp2_with fail
    refine (cD _).mono ?_
    rintro e v15 ⟨rfl, hbx⟩
    have hb15 := hbc11.trans (hbx.mono hbc11.size)
    clear hbx hbc11
    go_wp2_with fail
    refine (cE _).mono ?_
    rintro e v16 ⟨rfl, hbx⟩
    have hb16 := hb15.trans (hbx.mono hb15.size)
    clear hbx hb15
    go_upto_region 10 with fail
    go_cut [16] (fun s16 wx => s16 = .bool true ∧ Below w.heap.size w wx)
    case first =>
      rcases o8 with h1 | ⟨h1, rfl, h2, h3⟩
      · clear o7 o13
        go_wp2_with fail
        go_meet
        exact ⟨rfl, hb16⟩
      · clear o7 o13
        go_wp2_with fail
        refine (cM1 _).mono ?_
        rintro e v17 ⟨rfl, hbx⟩
        have hb17 := hb16.trans (hbx.mono hb16.size)
        clear hbx hb16
        go_wp2_with fail
        refine (cM2 _).mono ?_
        rintro e v18 ⟨rfl, hbx⟩
        have hb18 := hb17.trans (hbx.mono hb17.size)
        clear hbx hb17
        go_wp2_with fail
        go_meet
        exact ⟨rfl, hb18⟩
    case rest =>
      obtain ⟨rfl, hbc16⟩ := hcut
      go_wp2_with fail
      refine (cM1 _).mono ?_
      rintro e v19 ⟨rfl, hbx⟩
      have hb19 := hbc16.trans (hbx.mono hbc16.size)
      clear hbx hbc16
      go_upto_region 12 with fail
      go_cut [18] (fun s18 wx => s18 = .bool true ∧ Below w.heap.size w wx)
      case first =>
        have ta := bs_toList (itoa a)
        have tb := bs_toList (itoa b)
        rcases o13 with ⟨h1, h2⟩ | ⟨h1, h2⟩
        all_goals
          clear o7 o8
          go_wp2_with fail
          refine (text_any a _ wa (hL.below hb19)).mono ?_
          rintro e v20 ⟨rfl, hbx⟩
          have hb20 := hb19.trans (hbx.mono hb19.size)
          clear hbx hb19
          go_wp2_with fail
          refine (text_any b _ wb (hL.below hb20)).mono ?_
          rintro e v21 ⟨rfl, hbx⟩
          have hb21 := hb20.trans (hbx.mono hb20.size)
          clear hbx hb20
          go_wp2_with fail
          go_meet
          exact ⟨rfl, hb21⟩
      case rest =>
        obtain ⟨rfl, hbc18⟩ := hcut
        go_wp2
        go_ret
        exact ⟨rfl, hbc18⟩
set_option maxRecDepth 100000 in
/-- a first number that is above the second: what the small examples say -/
theorem ord_out (a b c : Int) (w : World) (d : decide (b < a) = true) (cs : Calls Tryd.prog 8 #[] w (BoolPost w true)) : Calls Tryd.prog 7 #[.int .i64 a, .int .i64 b, .int .i64 c] w (BoolPost w true) := by
  go_enter Tryd.func7, Tryd.ntmps7
  go_wp2_with fail
  refine cs.mono ?_
  rintro e w1 ⟨rfl, hb1⟩
  go_wp2
  go_ret
  exact ⟨rfl, hb1⟩
theorem limi_as (P : Int → Prop) {x y : Int} (h : P (limI x)) (e : x = y) : P (limI y) := e ▸ h
theorem orders_any (a b c : Int) (w : World) (wa : wf64 a) (wb : wf64 b) (wc : wf64 c) (hL : Laid w) : Calls Tryd.prog 7 #[.int .i64 a, .int .i64 b, .int .i64 c] w (BoolPost w true) := by
  have cs := small_any w hL
  by_cases hab : b < a
  · exact ord_out a b c w (decide_eq_true hab) cs
  have hle : a ≤ b := by omega
  have m1 := lim_mono (x := a + c) (y := b + c) (by omega)
  have m2 := lim_mono (x := a - c) (y := b - c) (by omega)
  have m3 := lim_mono (x := c - b) (y := c - a) (by omega)
  have m4 : limI (a - c) = -limI (c - a) := by rw [← lim_neg, Int.neg_sub]
  have t := limb (c - a)
  have p := limb (a * c)
  have cA3 := fun W => add_any c a W wc wa
  have cM3 := fun W => mul_any c a W wc wa
  rw [Int.add_comm c a] at cA3
  rw [Int.mul_comm c a] at cM3
  have xi := clamp_in (c := c) hle
  have xw : wf64 (clampI c a b) := by unfold wf64 at *; omega
  have cX2 := fun W => clamp_any (clampI c a b) a b W
  rw [clamp_clamp hle] at cX2
  have o7 : (decide (c < a) = true) ∨ (decide (c < a) = false ∧ decide (b < c) = true) ∨ (decide (c < a) = false ∧ decide (b < c) = false ∧ (clampI c a b == c) = true) := by
    by_cases h1 : c < a
    · exact .inl (decide_eq_true h1)
    by_cases h2 : b < c
    · exact .inr (.inl ⟨decide_eq_false h1, decide_eq_true h2⟩)
    · exact .inr (.inr ⟨decide_eq_false h1, decide_eq_false h2, beq_iff_eq.2 (clamp_mid h1 h2)⟩)
  have dl : ∀ x : Int, -1125899906842624 ≤ (if c = 0 then 0 else limI (x.tdiv c)) ∧ (if c = 0 then 0 else limI (x.tdiv c)) ≤ 1125899906842624 := by
    intro x
    by_cases h : c = 0
    · rw [if_pos h]; omega
    · rw [if_neg h]; exact limb _
  have o8 : (decide (c ≤ 0) = true) ∨ (decide (c ≤ 0) = false ∧ decide (c ≠ 0) = true ∧ decide ((if c = 0 then 0 else limI (a.tdiv c)) ≤ (if c = 0 then 0 else limI (b.tdiv c))) = true ∧ decide (limI (a * c) ≤ limI (b * c)) = true) := by
    by_cases h : c ≤ 0
    · exact .inl (decide_eq_true h)
    · have h0 : c ≠ 0 := by omega
      refine .inr ⟨decide_eq_false h, decide_eq_true h0, decide_eq_true ?_, decide_eq_true ?_⟩
      · rw [if_neg h0, if_neg h0]
        exact lim_mono (Int.tdiv_le_tdiv (by omega) hle)
      · exact lim_mono (Int.mul_le_mul_of_nonneg_right hle (by omega))
  have o13 : ((a == b) = true ∧ (itoa a == itoa b) = true) ∨ ((a == b) = false ∧ (itoa a == itoa b) = false) := by
    by_cases h : a = b
    · exact .inl ⟨beq_iff_eq.2 h, beq_iff_eq.2 (by rw [h])⟩
    · exact .inr ⟨beq_eq_false_iff_ne.2 h, beq_eq_false_iff_ne.2 (fun e => h (itoa_inj wa wb e))⟩
  exact ord_in a b c _ _ _ _ _ _ _ _ _ _ _ _ w wa wb hL (decide_eq_false hab) (decide_eq_true m1) (decide_eq_true m2) (decide_eq_true m3) (beq_iff_eq.2 m4) t.1 t.2
    (decide_eq_true xi.1) (decide_eq_true xi.2) o7 o8 (decide_eq_true p.1) (decide_eq_true p.2) (decide_eq_true (dl a).1) (decide_eq_true (dl a).2) o13 cs
    (fun W => add_any a c W wa wc) (fun W => add_any b c W wb wc) cA3 (fun W => sub_any a c W wa wc) (fun W => sub_any b c W wb wc) (fun W => sub_any c a W wc wa) (fun W => sub_any c b W wc wb)
    (fun W => mul_any a c W wa wc) (fun W => mul_any b c W wb wc) cM3 (fun W => clamp_any c a b W) cX2 (fun W => div_any a c W wa wc) (fun W => div_any b c W wb wc)
end Go.Proofs.YthbnjlpiehlcfaaDoor
