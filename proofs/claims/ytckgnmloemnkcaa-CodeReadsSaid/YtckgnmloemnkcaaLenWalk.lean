/- CodeLengths, walked: it answers true. -/
import Derived.Test.YtckgnmloemnkcaaSmall
namespace Go.Proofs.Ytckgnmloemnkcaa
open Go.ChangeShapes Go.WideShapes Go.ChangeAt Go.RowKit Go.Lib
set_option linter.unusedVariables false

theorem intI_out {n : Int} (h : n < -2305843009213693952 ∨ 2305843009213693952 < n) : intI n = [] := by unfold intI lim; rw [if_pos h]
theorem intI_neg {n : Int} (h : -2305843009213693952 ≤ n) (h0 : n < 0) : intI n = numI (-2 * n - 1) := by
  unfold intI lim; rw [if_neg (by omega)]
  unfold numI zig; rw [if_pos h0, if_neg (by omega)]
theorem intI_pos {n : Int} (h : n ≤ 2305843009213693952) (h0 : 0 ≤ n) : intI n = numI (2 * n) := by
  unfold intI lim; rw [if_neg (by omega)]
  unfold numI zig; rw [if_neg (by omega), if_neg (by omega)]
theorem numF_ne (k n : Nat) : numF (k + 1) n ≠ [] := by rw [numF_succ]; split <;> simp
theorem numL_ne (n : Nat) : numL n ≠ [] := numF_ne 9 n
theorem numI_ne {n : Int} (h : 0 ≤ n) : numI n ≠ [] := by unfold numI; rw [if_neg (by omega)]; exact numL_ne _
theorem intI_ne {n : Int} (h : -2305843009213693952 ≤ n) (h1 : n ≤ 2305843009213693952) : intI n ≠ [] := by
  by_cases h0 : n < 0
  · rw [intI_neg h h0]; exact numI_ne (by omega)
  · rw [intI_pos h1 (by omega)]; exact numI_ne (by omega)
/-- the digits from m on -/
def more (m : Nat) : Nat := if m = 0 then 0 else (numL m).length
theorem more_step {m : Nat} (h : 0 < m) (hm : m < 128 ^ 9) : more m = 1 + more (m / 128) := by
  unfold more
  rw [if_neg (by omega)]
  by_cases h1 : m < 128
  · rw [numL_small h1, if_pos (by omega)]; rfl
  · rw [numL_big (by omega) (by omega), if_neg (by omega)]; simp; omega
theorem numL_more {m : Nat} (hm : m < 128 ^ 9) : (numL m).length = 1 + more (m / 128) := by
  by_cases h : m = 0
  · subst h; rfl
  · rw [← more_step (by omega) hm]; unfold more; rw [if_neg h]
set_option maxRecDepth 100000 in
theorem lengths_any (n : Int) (w : World) (h0 : -9223372036854775808 ≤ n) (h1 : n ≤ 9223372036854775807) : Calls Try.prog 9 #[.int .i64 n] w (BoolPost w true) := by
  have cs := small_any w
  by_cases hn : n < 0
  · have E1 : Hid (numI n = []) := by simp [Hid, numI, hn]
    have hq1 : ¬ (0 < n.tdiv 128) := by
      obtain ⟨k, rfl⟩ : ∃ k : Nat, n = -(k : Int) := ⟨(-n).toNat, by omega⟩
      rw [Int.neg_tdiv, Int.tdiv_eq_ediv_of_nonneg (by omega)]
      omega
    have hz : (bs []).size = 0 := rfl
    have ht : (bs []).toList = [] := bs_toList _
    have cn := fun W => num_any n W (by omega)
    unfold NumPost at cn
    rw [E1.out] at cn
    have ci := fun W => int_any n W h0 h1
    unfold StrPost at ci
    by_cases ho : n < -2305843009213693952
    · have E2 : intI n = [] := intI_out (.inl ho)
      rw [E2] at ci
      clear E2 E1
      go_enter Try.func9, Try.ntmps9
      go_wp2_with (go_at_call 10; refine cs.mono ?_; rintro e w1 ⟨rfl, hb1⟩)
      go_loop [4, 5] (fun v0 v1 => v0 = .int .i64 1 ∧ v1 = .int .i64 (n.tdiv 128)) (fun _ _ => 0)
      case atStart => exact ⟨rfl, rfl⟩
      case round =>
        obtain ⟨rfl, rfl⟩ := hrel
        go_wp2_with (first | (go_at_call 12; refine (cn _).mono ?_; rintro e w2 ⟨rfl, hb2⟩) | (go_at_call 14; refine (ci _).mono ?_; rintro e w3 ⟨rfl, hb3⟩))
        go_ret
        exact ⟨rfl, hb1.trans ((hb2.trans (hb3.mono hb2.size)).mono hb1.size)⟩
    · have E2 := intI_neg (n := n) (by omega) hn
      have E3 : (intI n).isEmpty = false := by simpa using intI_ne (n := n) (by omega) (by omega)
      rw [E2] at E3 ci
      have cz := fun W => num_any (-2 * n - 1) W (by omega)
      unfold NumPost at cz
      have ht2 := bs_toList (numI (-2 * n - 1))
      have hg1 : decide (n < -2305843009213693952) = false := by simp; omega
      have hg2 : decide (2305843009213693952 < n) = false := by simp; omega
      generalize numI (-2 * n - 1) = out at *
      have hlo : -2305843009213693952 ≤ n := by omega
      clear E2 E1 ho
      go_enter Try.func9, Try.ntmps9
      go_wp2_with (go_at_call 10; refine cs.mono ?_; rintro e w1 ⟨rfl, hb1⟩)
      go_loop [4, 5] (fun v0 v1 => v0 = .int .i64 1 ∧ v1 = .int .i64 (n.tdiv 128)) (fun _ _ => 0)
      case atStart => exact ⟨rfl, rfl⟩
      case round =>
        obtain ⟨rfl, rfl⟩ := hrel
        go_wp2_with fail
        with_reducible refine (cn _).mono ?_
        rintro e w2 ⟨rfl, hb2⟩
        go_wp2_with fail
        refine (ci _).mono ?_
        rintro e w3 ⟨rfl, hb3⟩
        go_wp2_with fail
        with_reducible refine (cz _).mono ?_
        rintro e w4 ⟨rfl, hb4⟩
        go_wp2_with fail
        refine (ci _).mono ?_
        rintro e w5 ⟨rfl, hb5⟩
        go_wp2
        go_ret
        have hb23 := hb2.trans (hb3.mono hb2.size)
        have hb24 := hb23.trans (hb4.mono hb23.size)
        have hb25 := hb24.trans (hb5.mono hb24.size)
        exact ⟨rfl, hb1.trans (hb25.mono hb1.size)⟩
  · obtain ⟨m0, rfl⟩ : ∃ m : Nat, n = m := ⟨n.toNat, by omega⟩
    have E1 := Lib.hid (numI_nat m0)
    have HL := Lib.hid (numL_more (m := m0) (by omega))
    have hsz := bs_size (numI m0)
    have cn := fun W => num_any (m0 : Int) W (by omega)
    unfold NumPost at cn
    have ci := fun W => int_any (m0 : Int) W h0 h1
    unfold StrPost at ci
    have hg1 : decide ((m0 : Int) < -2305843009213693952) = false := decide_eq_false (by omega)
    by_cases ho : 2305843009213693952 < (m0 : Int)
    · have E2 : intI m0 = [] := intI_out (.inr ho)
      have ht : (bs []).toList = [] := bs_toList _
      rw [E2] at ci
      clear E2
      go_enter Try.func9, Try.ntmps9
      go_wp2_with (go_at_call 10; refine cs.mono ?_; rintro e w1 ⟨rfl, hb1⟩)
      go_loop [4, 5] (fun v0 v1 => ∃ k m : Nat, v0 = .int .i64 k ∧ v1 = .int .i64 m ∧ m < 9223372036854775808 ∧ k ≤ 20 ∧ (numI m0).length = k + more m) (fun _ v1 => (intOf v1).toNat)
      case atStart => exact ⟨1, m0 / 128, rfl, by simp, by omega, by omega, by rw [E1.out]; exact HL.out⟩
      case round =>
        obtain ⟨k, m, rfl, rfl, hm, hk, hlen⟩ := hrel
        by_cases hm0 : 0 < m
        · have hst := more_step hm0 (by omega)
          have hle := numI_length m0
          go_wp2
          refine ⟨⟨k + 1, m / 128, by simp, by simp, by omega, by omega, by omega⟩, by simp [intOf]; omega⟩
        · have hm' : m = 0 := by omega
          subst hm'
          have hk' : (numI m0).length = k := by rw [hlen]; rfl
          clear hlen
          go_wp2_with (first | (go_at_call 12; refine (cn _).mono ?_; rintro e w2 ⟨rfl, hb2⟩) | (go_at_call 14; refine (ci _).mono ?_; rintro e w3 ⟨rfl, hb3⟩))
          go_ret
          exact ⟨rfl, hb1.trans ((hb2.trans (hb3.mono hb2.size)).mono hb1.size)⟩
    · have E2 := intI_pos (n := m0) (by omega) (by omega)
      have E3 : (intI m0).isEmpty = false := by simpa using intI_ne (n := m0) (by omega) (by omega)
      rw [E2] at E3 ci
      have cz := fun W => num_any (2 * (m0 : Int)) W (by omega)
      unfold NumPost at cz
      have ht2 := bs_toList (numI (2 * m0))
      have hg2 : decide (2305843009213693952 < (m0 : Int)) = false := by simp; omega
      have hg3 : decide ((m0 : Int) < 0) = false := by simp
      generalize numI (2 * m0) = out at *
      have hhi : (m0 : Int) ≤ 2305843009213693952 := by omega
      clear E2 ho
      go_enter Try.func9, Try.ntmps9
      go_wp2_with (go_at_call 10; refine cs.mono ?_; rintro e w1 ⟨rfl, hb1⟩)
      go_loop [4, 5] (fun v0 v1 => ∃ k m : Nat, v0 = .int .i64 k ∧ v1 = .int .i64 m ∧ m < 9223372036854775808 ∧ k ≤ 20 ∧ (numI m0).length = k + more m) (fun _ v1 => (intOf v1).toNat)
      case atStart => exact ⟨1, m0 / 128, rfl, by simp, by omega, by omega, by rw [E1.out]; exact HL.out⟩
      case round =>
        obtain ⟨k, m, rfl, rfl, hm, hk, hlen⟩ := hrel
        by_cases hm0 : 0 < m
        · have hst := more_step hm0 (by omega)
          have hle := numI_length m0
          go_wp2
          refine ⟨⟨k + 1, m / 128, by simp, by simp, by omega, by omega, by omega⟩, by simp [intOf]; omega⟩
        · have hm' : m = 0 := by omega
          subst hm'
          have hk' : (numI m0).length = k := by rw [hlen]; rfl
          clear hlen
          go_wp2_with fail
          with_reducible refine (cn _).mono ?_
          rintro e w2 ⟨rfl, hb2⟩
          go_wp2_with fail
          refine (ci _).mono ?_
          rintro e w3 ⟨rfl, hb3⟩
          go_wp2_with fail
          with_reducible refine (cz _).mono ?_
          rintro e w4 ⟨rfl, hb4⟩
          go_wp2_with fail
          refine (ci _).mono ?_
          rintro e w5 ⟨rfl, hb5⟩
          go_wp2
          go_ret
          have hb23 := hb2.trans (hb3.mono hb2.size)
          have hb24 := hb23.trans (hb4.mono hb23.size)
          have hb25 := hb24.trans (hb5.mono hb24.size)
          exact ⟨rfl, hb1.trans (hb25.mono hb1.size)⟩
end Go.Proofs.Ytckgnmloemnkcaa
