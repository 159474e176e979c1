/- num's Mul, walked (from the Num texts). -/
import Derived.Test.YtjcaaiikccnpeaaDoorNumA

namespace Go.Proofs.YtjcaaiikccnpeaaDoor
open Go.ChangeShapes Go.WideShapes Go.ChangeAt Go.RowKit Go.Lib
set_option linter.unusedVariables false


theorem size_any (n : Int) (w : World) (h : wf64 n) : Calls Tryd.prog 34 #[.int .i64 n] w (fun e w' => e = .returned (.int .u64 (n.natAbs : Int)) ∧ w' = w) := by
  unfold wf64 at h
  by_cases h0 : n < 0
  · obtain ⟨m, hm⟩ : ∃ m : Nat, n.natAbs = m := ⟨_, rfl⟩
    rw [hm]
    have hn : n = -(m : Int) := by omega
    subst hn
    have hw : IntKind.u64.wrap (-IntKind.u64.wrap (-(m : Int))) = m := by rw [IntKind.wrap_u64, IntKind.wrap_u64]; omega
    go_enter Tryd.func34, Tryd.ntmps34
    go_wp2
    go_ret
    exact ⟨rfl, rfl⟩
  · obtain ⟨m, rfl⟩ : ∃ m : Nat, n = m := ⟨n.toNat, by omega⟩
    have hd : decide ((m : Int) < 0) = false := by simp
    have hm : ((m : Int).natAbs : Int) = m := by simp
    rw [hm]
    go_enter Tryd.func34, Tryd.ntmps34
    go_wp2
    go_ret
    exact ⟨rfl, rfl⟩
theorem mul_sign {a b : Int} : ((a.natAbs * b.natAbs : Nat) : Int) = if (decide (a < 0) != decide (b < 0)) = true then -(a * b) else a * b := by
  by_cases ha : a < 0
  · rw [decide_eq_true ha]
    obtain ⟨m, rfl⟩ : ∃ m : Nat, a = -(m : Int) := ⟨a.natAbs, by omega⟩
    by_cases hb : b < 0
    · rw [decide_eq_true hb]
      obtain ⟨n, rfl⟩ : ∃ n : Nat, b = -(n : Int) := ⟨b.natAbs, by omega⟩
      simp [Int.neg_mul_neg]
    · rw [decide_eq_false hb]
      obtain ⟨n, rfl⟩ : ∃ n : Nat, b = (n : Int) := ⟨b.natAbs, by omega⟩
      simp [Int.neg_mul]
  · rw [decide_eq_false ha]
    obtain ⟨m, rfl⟩ : ∃ m : Nat, a = (m : Int) := ⟨a.natAbs, by omega⟩
    by_cases hb : b < 0
    · rw [decide_eq_true hb]
      obtain ⟨n, rfl⟩ : ∃ n : Nat, b = -(n : Int) := ⟨b.natAbs, by omega⟩
      simp [Int.mul_neg]
    · rw [decide_eq_false hb]
      obtain ⟨n, rfl⟩ : ∃ n : Nat, b = (n : Int) := ⟨b.natAbs, by omega⟩
      simp
set_option maxHeartbeats 1000000 in
theorem mul_in (p q : Nat) (a b : Int) (w : World) (ha : wf64 a) (hb : wf64 b) (hp : w.cell? ⟨p, 0, none⟩ = some (.int .i64 a)) (hq : w.cell? ⟨q, 0, none⟩ = some (.int .i64 b)) :
    ∃ n ex neg, limB n ex neg = limI (a * b) ∧ Calls Tryd.prog 32 #[.pointer (some ⟨p, 0, none⟩), .pointer (some ⟨q, 0, none⟩)] w (TriPost w n ex neg) := by
  have hs := mul_sign (a := a) (b := b)
  have h1 := size_any a
  have h2 := size_any b
  have hx : a.natAbs < 18446744073709551616 := by unfold wf64 at ha; omega
  have hy : b.natAbs < 18446744073709551616 := by unfold wf64 at hb; omega
  have h3 := Tryd.bits_Mul64 a.natAbs b.natAbs hx hy
  have h1' := fun W => h1 W ha
  have h2' := fun W => h2 W hb
  generalize a.natAbs = x at *
  generalize b.natAbs = y at *
  have hxy : x * y < 18446744073709551616 * 18446744073709551616 := Nat.mul_lt_mul'' hx hy
  generalize x * y = z at *
  clear h1 h2 ha hb hx hy
  cases hpa : decide (a < 0)
  · cases hpb : decide (b < 0)
    · rw [hpa, hpb] at hs
      replace hs : (z : Int) = a * b := by simpa using hs
      by_cases hz : z ≤ 9223372036854775807
      · have c1 : decide (9223372036854775807 < (z : Int)) = false := decide_eq_false (by omega)
        have e1 : ((z / 18446744073709551616 : Nat) : Int) = 0 := by omega
        have e2 : ((z % 18446744073709551616 : Nat) : Int) = z := by omega
        rw [e1, e2] at h3
        refine ⟨z, true, false, by rw [hs]; rfl, ?_⟩
        have c2 : IntKind.i64.wrap (z : Int) = z := by rw [IntKind.wrap_i64]; omega
        have HS := Lib.hid hs
        clear hs e1 e2 hxy
        go_enter Tryd.func32, Tryd.ntmps32
        go_wp2
        go_quiet (first | (go_at_call 34; with_reducible refine (h1' _).mono ?_; exact fun e w' ⟨he, hw⟩ => ⟨he, _, hw⟩) | (go_at_call 34; with_reducible refine (h2' _).mono ?_; exact fun e w' ⟨he, hw⟩ => ⟨he, _, hw⟩) | (go_at_call 33; refine (h3 _).mono ?_; exact fun e w' ⟨he, hw⟩ => ⟨he, _, hw⟩))
        go_wp2
        go_ret3
        exact ⟨rfl, below_drewN (Below.refl _ _) _⟩
      · have hbig : limB 0 false false = limI (a * b) := by
          rw [← hs]; unfold limB limI clampI; simp only [Bool.false_eq_true, if_false]; rw [if_neg (by omega), if_pos (by omega)]
        by_cases hzh : z / 18446744073709551616 = 0
        · refine ⟨0, false, false, hbig, ?_⟩
          have e1 : ((z / 18446744073709551616 : Nat) : Int) = 0 := by omega
          have e2 : ((z % 18446744073709551616 : Nat) : Int) = z := by omega
          rw [e1, e2] at h3
          have c1 : decide (9223372036854775807 < (z : Int)) = true := decide_eq_true (by omega)
          have HS := Lib.hid hs
          clear hs hxy hz hbig e1 e2 hzh
          go_enter Tryd.func32, Tryd.ntmps32
          go_wp2
          go_quiet (first | (go_at_call 34; with_reducible refine (h1' _).mono ?_; exact fun e w' ⟨he, hw⟩ => ⟨he, _, hw⟩) | (go_at_call 34; with_reducible refine (h2' _).mono ?_; exact fun e w' ⟨he, hw⟩ => ⟨he, _, hw⟩) | (go_at_call 33; refine (h3 _).mono ?_; exact fun e w' ⟨he, hw⟩ => ⟨he, _, hw⟩))
          go_wp2
          go_ret3
          exact ⟨rfl, below_drewN (Below.refl _ _) _⟩
        · refine ⟨0, false, false, hbig, ?_⟩
          have e1 : (((z / 18446744073709551616 : Nat) : Int) != 0) = true := by simp only [bne_iff_ne]; omega
          have HS := Lib.hid hs
          clear hs hxy hz hbig
          generalize ((z / 18446744073709551616 : Nat) : Int) = zh at *
          generalize ((z % 18446744073709551616 : Nat) : Int) = zl at *
          go_enter Tryd.func32, Tryd.ntmps32
          go_wp2
          go_quiet (first | (go_at_call 34; with_reducible refine (h1' _).mono ?_; exact fun e w' ⟨he, hw⟩ => ⟨he, _, hw⟩) | (go_at_call 34; with_reducible refine (h2' _).mono ?_; exact fun e w' ⟨he, hw⟩ => ⟨he, _, hw⟩) | (go_at_call 33; refine (h3 _).mono ?_; exact fun e w' ⟨he, hw⟩ => ⟨he, _, hw⟩))
          go_wp2
          go_ret3
          exact ⟨rfl, below_drewN (Below.refl _ _) _⟩
    · rw [hpa, hpb] at hs
      replace hs : (z : Int) = -(a * b) := by simpa using hs
      by_cases hz : z ≤ 9223372036854775807
      · have c1 : decide (9223372036854775807 < (z : Int)) = false := decide_eq_false (by omega)
        have e1 : ((z / 18446744073709551616 : Nat) : Int) = 0 := by omega
        have e2 : ((z % 18446744073709551616 : Nat) : Int) = z := by omega
        rw [e1, e2] at h3
        refine ⟨-(z : Int), true, true, by rw [hs, Int.neg_neg]; rfl, ?_⟩
        have c2 : IntKind.i64.wrap (z : Int) = z := by rw [IntKind.wrap_i64]; omega
        have c3 : IntKind.i64.wrap (-(z : Int)) = -(z : Int) := by rw [IntKind.wrap_i64]; omega
        have HS := Lib.hid hs
        clear hs e1 e2 hxy
        go_enter Tryd.func32, Tryd.ntmps32
        go_wp2
        go_quiet (first | (go_at_call 34; with_reducible refine (h1' _).mono ?_; exact fun e w' ⟨he, hw⟩ => ⟨he, _, hw⟩) | (go_at_call 34; with_reducible refine (h2' _).mono ?_; exact fun e w' ⟨he, hw⟩ => ⟨he, _, hw⟩) | (go_at_call 33; refine (h3 _).mono ?_; exact fun e w' ⟨he, hw⟩ => ⟨he, _, hw⟩))
        go_wp2
        go_ret3
        exact ⟨rfl, below_drewN (Below.refl _ _) _⟩
      · have hbig : limB 0 false true = limI (a * b) := by
          have h : a * b = -(z : Int) := by omega
          rw [h]; unfold limB limI clampI; simp only [Bool.false_eq_true, if_false, if_true]; rw [if_pos (by omega)]
        by_cases hzh : z / 18446744073709551616 = 0
        · refine ⟨0, false, true, hbig, ?_⟩
          have e1 : ((z / 18446744073709551616 : Nat) : Int) = 0 := by omega
          have e2 : ((z % 18446744073709551616 : Nat) : Int) = z := by omega
          rw [e1, e2] at h3
          have c1 : decide (9223372036854775807 < (z : Int)) = true := decide_eq_true (by omega)
          have HS := Lib.hid hs
          clear hs hxy hz hbig e1 e2 hzh
          go_enter Tryd.func32, Tryd.ntmps32
          go_wp2
          go_quiet (first | (go_at_call 34; with_reducible refine (h1' _).mono ?_; exact fun e w' ⟨he, hw⟩ => ⟨he, _, hw⟩) | (go_at_call 34; with_reducible refine (h2' _).mono ?_; exact fun e w' ⟨he, hw⟩ => ⟨he, _, hw⟩) | (go_at_call 33; refine (h3 _).mono ?_; exact fun e w' ⟨he, hw⟩ => ⟨he, _, hw⟩))
          go_wp2
          go_ret3
          exact ⟨rfl, below_drewN (Below.refl _ _) _⟩
        · refine ⟨0, false, true, hbig, ?_⟩
          have e1 : (((z / 18446744073709551616 : Nat) : Int) != 0) = true := by simp only [bne_iff_ne]; omega
          have HS := Lib.hid hs
          clear hs hxy hz hbig
          generalize ((z / 18446744073709551616 : Nat) : Int) = zh at *
          generalize ((z % 18446744073709551616 : Nat) : Int) = zl at *
          go_enter Tryd.func32, Tryd.ntmps32
          go_wp2
          go_quiet (first | (go_at_call 34; with_reducible refine (h1' _).mono ?_; exact fun e w' ⟨he, hw⟩ => ⟨he, _, hw⟩) | (go_at_call 34; with_reducible refine (h2' _).mono ?_; exact fun e w' ⟨he, hw⟩ => ⟨he, _, hw⟩) | (go_at_call 33; refine (h3 _).mono ?_; exact fun e w' ⟨he, hw⟩ => ⟨he, _, hw⟩))
          go_wp2
          go_ret3
          exact ⟨rfl, below_drewN (Below.refl _ _) _⟩
  · cases hpb : decide (b < 0)
    · rw [hpa, hpb] at hs
      replace hs : (z : Int) = -(a * b) := by simpa using hs
      by_cases hz : z ≤ 9223372036854775807
      · have c1 : decide (9223372036854775807 < (z : Int)) = false := decide_eq_false (by omega)
        have e1 : ((z / 18446744073709551616 : Nat) : Int) = 0 := by omega
        have e2 : ((z % 18446744073709551616 : Nat) : Int) = z := by omega
        rw [e1, e2] at h3
        refine ⟨-(z : Int), true, true, by rw [hs, Int.neg_neg]; rfl, ?_⟩
        have c2 : IntKind.i64.wrap (z : Int) = z := by rw [IntKind.wrap_i64]; omega
        have c3 : IntKind.i64.wrap (-(z : Int)) = -(z : Int) := by rw [IntKind.wrap_i64]; omega
        have HS := Lib.hid hs
        clear hs e1 e2 hxy
        go_enter Tryd.func32, Tryd.ntmps32
        go_wp2
        go_quiet (first | (go_at_call 34; with_reducible refine (h1' _).mono ?_; exact fun e w' ⟨he, hw⟩ => ⟨he, _, hw⟩) | (go_at_call 34; with_reducible refine (h2' _).mono ?_; exact fun e w' ⟨he, hw⟩ => ⟨he, _, hw⟩) | (go_at_call 33; refine (h3 _).mono ?_; exact fun e w' ⟨he, hw⟩ => ⟨he, _, hw⟩))
        go_wp2
        go_ret3
        exact ⟨rfl, below_drewN (Below.refl _ _) _⟩
      · have hbig : limB 0 false true = limI (a * b) := by
          have h : a * b = -(z : Int) := by omega
          rw [h]; unfold limB limI clampI; simp only [Bool.false_eq_true, if_false, if_true]; rw [if_pos (by omega)]
        by_cases hzh : z / 18446744073709551616 = 0
        · refine ⟨0, false, true, hbig, ?_⟩
          have e1 : ((z / 18446744073709551616 : Nat) : Int) = 0 := by omega
          have e2 : ((z % 18446744073709551616 : Nat) : Int) = z := by omega
          rw [e1, e2] at h3
          have c1 : decide (9223372036854775807 < (z : Int)) = true := decide_eq_true (by omega)
          have HS := Lib.hid hs
          clear hs hxy hz hbig e1 e2 hzh
          go_enter Tryd.func32, Tryd.ntmps32
          go_wp2
          go_quiet (first | (go_at_call 34; with_reducible refine (h1' _).mono ?_; exact fun e w' ⟨he, hw⟩ => ⟨he, _, hw⟩) | (go_at_call 34; with_reducible refine (h2' _).mono ?_; exact fun e w' ⟨he, hw⟩ => ⟨he, _, hw⟩) | (go_at_call 33; refine (h3 _).mono ?_; exact fun e w' ⟨he, hw⟩ => ⟨he, _, hw⟩))
          go_wp2
          go_ret3
          exact ⟨rfl, below_drewN (Below.refl _ _) _⟩
        · refine ⟨0, false, true, hbig, ?_⟩
          have e1 : (((z / 18446744073709551616 : Nat) : Int) != 0) = true := by simp only [bne_iff_ne]; omega
          have HS := Lib.hid hs
          clear hs hxy hz hbig
          generalize ((z / 18446744073709551616 : Nat) : Int) = zh at *
          generalize ((z % 18446744073709551616 : Nat) : Int) = zl at *
          go_enter Tryd.func32, Tryd.ntmps32
          go_wp2
          go_quiet (first | (go_at_call 34; with_reducible refine (h1' _).mono ?_; exact fun e w' ⟨he, hw⟩ => ⟨he, _, hw⟩) | (go_at_call 34; with_reducible refine (h2' _).mono ?_; exact fun e w' ⟨he, hw⟩ => ⟨he, _, hw⟩) | (go_at_call 33; refine (h3 _).mono ?_; exact fun e w' ⟨he, hw⟩ => ⟨he, _, hw⟩))
          go_wp2
          go_ret3
          exact ⟨rfl, below_drewN (Below.refl _ _) _⟩
    · rw [hpa, hpb] at hs
      replace hs : (z : Int) = a * b := by simpa using hs
      by_cases hz : z ≤ 9223372036854775807
      · have c1 : decide (9223372036854775807 < (z : Int)) = false := decide_eq_false (by omega)
        have e1 : ((z / 18446744073709551616 : Nat) : Int) = 0 := by omega
        have e2 : ((z % 18446744073709551616 : Nat) : Int) = z := by omega
        rw [e1, e2] at h3
        refine ⟨z, true, false, by rw [hs]; rfl, ?_⟩
        have c2 : IntKind.i64.wrap (z : Int) = z := by rw [IntKind.wrap_i64]; omega
        have HS := Lib.hid hs
        clear hs e1 e2 hxy
        go_enter Tryd.func32, Tryd.ntmps32
        go_wp2
        go_quiet (first | (go_at_call 34; with_reducible refine (h1' _).mono ?_; exact fun e w' ⟨he, hw⟩ => ⟨he, _, hw⟩) | (go_at_call 34; with_reducible refine (h2' _).mono ?_; exact fun e w' ⟨he, hw⟩ => ⟨he, _, hw⟩) | (go_at_call 33; refine (h3 _).mono ?_; exact fun e w' ⟨he, hw⟩ => ⟨he, _, hw⟩))
        go_wp2
        go_ret3
        exact ⟨rfl, below_drewN (Below.refl _ _) _⟩
      · have hbig : limB 0 false false = limI (a * b) := by
          rw [← hs]; unfold limB limI clampI; simp only [Bool.false_eq_true, if_false]; rw [if_neg (by omega), if_pos (by omega)]
        by_cases hzh : z / 18446744073709551616 = 0
        · refine ⟨0, false, false, hbig, ?_⟩
          have e1 : ((z / 18446744073709551616 : Nat) : Int) = 0 := by omega
          have e2 : ((z % 18446744073709551616 : Nat) : Int) = z := by omega
          rw [e1, e2] at h3
          have c1 : decide (9223372036854775807 < (z : Int)) = true := decide_eq_true (by omega)
          have HS := Lib.hid hs
          clear hs hxy hz hbig e1 e2 hzh
          go_enter Tryd.func32, Tryd.ntmps32
          go_wp2
          go_quiet (first | (go_at_call 34; with_reducible refine (h1' _).mono ?_; exact fun e w' ⟨he, hw⟩ => ⟨he, _, hw⟩) | (go_at_call 34; with_reducible refine (h2' _).mono ?_; exact fun e w' ⟨he, hw⟩ => ⟨he, _, hw⟩) | (go_at_call 33; refine (h3 _).mono ?_; exact fun e w' ⟨he, hw⟩ => ⟨he, _, hw⟩))
          go_wp2
          go_ret3
          exact ⟨rfl, below_drewN (Below.refl _ _) _⟩
        · refine ⟨0, false, false, hbig, ?_⟩
          have e1 : (((z / 18446744073709551616 : Nat) : Int) != 0) = true := by simp only [bne_iff_ne]; omega
          have HS := Lib.hid hs
          clear hs hxy hz hbig
          generalize ((z / 18446744073709551616 : Nat) : Int) = zh at *
          generalize ((z % 18446744073709551616 : Nat) : Int) = zl at *
          go_enter Tryd.func32, Tryd.ntmps32
          go_wp2
          go_quiet (first | (go_at_call 34; with_reducible refine (h1' _).mono ?_; exact fun e w' ⟨he, hw⟩ => ⟨he, _, hw⟩) | (go_at_call 34; with_reducible refine (h2' _).mono ?_; exact fun e w' ⟨he, hw⟩ => ⟨he, _, hw⟩) | (go_at_call 33; refine (h3 _).mono ?_; exact fun e w' ⟨he, hw⟩ => ⟨he, _, hw⟩))
          go_wp2
          go_ret3
          exact ⟨rfl, below_drewN (Below.refl _ _) _⟩
theorem mul_any (a b : Int) (w : World) (ha : wf64 a) (hb : wf64 b) : Calls Tryd.prog 14 #[.int .i64 a, .int .i64 b] w (IntPost w (limI (a * b))) := by
  have hmf : ∀ (fn : Fn) (first cap : Array Value) (w : World), (Instr.makeFunc fn first cap).run Tryd.prog w = .ok (.func fn first cap) w := fun _ _ _ _ => rfl
  obtain ⟨W, hW⟩ : ∃ W, W = (w.alloc (.cells #[.int .i64 a] 3)).alloc (.cells #[.int .i64 b] 3) := ⟨_, rfl⟩
  have hbW : Below w.heap.size w W := by rw [hW]; exact ((Below.refl _ _).alloc (Nat.le_refl _) _).alloc (by simp) _
  have hp : W.cell? ⟨w.heap.size, 0, none⟩ = some (.int .i64 a) := by rw [hW]; exact two_old1 w _ _ 3 3
  have hq : W.cell? ⟨w.heap.size + 1, 0, none⟩ = some (.int .i64 b) := by rw [hW]; exact two_new1 w _ _ 3 3
  obtain ⟨n, ex, neg, hn, hc⟩ := mul_in w.heap.size (w.heap.size + 1) a b W ha hb hp hq
  have c := lim36 _ _ _ _ _ _ hc
  have hR := Lib.hid hn
  clear hn hc hp hq
  go_enter Tryd.func14, Tryd.ntmps14
  go_wp2_with fail
  rw [← hW]
  clear hW
  refine (Calls.mono c ?_)
  rintro e w1 ⟨rfl, hb1⟩
  go_wp2
  go_ret
  exact ⟨by rw [← hR.out]; rfl, hbW.trans (hb1.mono hbW.size)⟩
end Go.Proofs.YtjcaaiikccnpeaaDoor
