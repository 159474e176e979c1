/- Int, Text and the reference's Num, Int, Text, walked. -/
import Derived.Test.YtemdecaiadkchaaCNum
namespace Go.Proofs.Ytemdecaiadkchaa
open Go.ChangeShapes Go.WideShapes Go.ChangeAt Go.RowKit Go.Lib
set_option linter.unusedVariables false
theorem int_any (n : Int) (w : World) (h0 : -9223372036854775808 ≤ n) (h1 : n ≤ 9223372036854775807) : Calls Try.prog 25 #[.int .i64 n] w (StrPost w (intI n)) := by
  by_cases ho : n < -2305843009213693952 ∨ 2305843009213693952 < n
  · have hN : Hid (intI n = []) := by unfold Hid intI lim; rw [if_pos ho]
    rcases ho with ho | ho
    · go_enter Try.func25, Try.ntmps25
      go_wp2
      go_ret
      exact ⟨by rw [hN.out]; rfl, Below.refl _ _⟩
    · have hg : decide (n < -2305843009213693952) = false := by simp; omega
      go_enter Try.func25, Try.ntmps25
      go_wp2
      go_ret
      exact ⟨by rw [hN.out]; rfl, Below.refl _ _⟩
  · have hN : Hid (intI n = numI (if n < 0 then -2 * n - 1 else 2 * n)) := by
      unfold Hid intI lim; rw [if_neg ho]
      unfold numI zig
      by_cases h : n < 0
      · simp only [h, if_true]; rw [if_neg (by omega)]
      · simp only [h, if_false]; rw [if_neg (by omega)]
    have hg1 : decide (n < -2305843009213693952) = false := by simp; omega
    have hg2 : decide (2305843009213693952 < n) = false := by simp; omega
    by_cases hneg : n < 0
    · rw [if_pos hneg] at hN
      have c := num_any (-2 * n - 1) w (by omega)
      go_enter Try.func25, Try.ntmps25
      go_wp2_with (go_at_call 24; refine (c).mono ?_; rintro e w' ⟨rfl, hb⟩)
      go_ret
      exact ⟨by rw [hN.out]; rfl, hb⟩
    · rw [if_neg hneg] at hN
      have c := num_any (2 * n) w (by omega)
      go_enter Try.func25, Try.ntmps25
      go_wp2_with (go_at_call 24; refine (c).mono ?_; rintro e w' ⟨rfl, hb⟩)
      go_ret
      exact ⟨by rw [hN.out]; rfl, hb⟩
theorem numI_nat (n : Nat) : numI n = numL n := by unfold numI; rw [if_neg (by omega)]; simp
theorem numF_length (k n : Nat) : (numF k n).length ≤ k := by
  induction k generalizing n with
  | zero => simp [numF]
  | succ k ih =>
    unfold numF
    split
    · simp
    · simp; exact ih _
theorem numI_length (n : Int) : (numI n).length ≤ 10 := by
  unfold numI
  split
  · simp
  · exact numF_length 10 _
theorem intI_length (n : Int) : (intI n).length ≤ 10 := by
  unfold intI
  split
  · simp
  · exact numF_length 10 _
theorem textL_length (l : List UInt8) : (textL l).length ≤ 10 + l.length := by
  unfold textL
  have := numF_length 10 l.length
  simp [numL]; omega
theorem text_any (l : List UInt8) (w : World) (hl : l.length ≤ 1000000000) : Calls Try.prog 26 #[.string (bs l)] w (StrPost w (textL l)) := by
  have hsz := bs_size l
  have c := num_any l.length w (by omega)
  have ha := bs_append (numI l.length) l
  have hno : ¬ (9223372036854775807 < (bs (numI l.length)).size + l.length) := by rw [bs_size]; have := numI_length l.length; omega
  have hN : Hid (textL l = numI l.length ++ l) := by unfold Hid textL; rw [numI_nat]
  go_enter Try.func26, Try.ntmps26
  go_wp2_with (go_at_call 24; refine (c).mono ?_; rintro e w' ⟨rfl, hb⟩)
  go_ret
  exact ⟨by rw [hN.out]; rfl, hb⟩
theorem numL_small {n : Nat} (h : n < 128) : numL n = [UInt8.ofNat n] := by unfold numL numF; rw [if_pos h]
theorem numF_succ (k n : Nat) : numF (k + 1) n = if n < 128 then [UInt8.ofNat n] else UInt8.ofNat (128 + n % 128) :: numF k (n / 128) := rfl
theorem numF_more (k n : Nat) (h : n < 128 ^ (k + 1)) : numF (k + 1) n = numF (k + 2) n := by
  induction k generalizing n with
  | zero => simp at h; rw [numF_succ, numF_succ, if_pos h, if_pos h]
  | succ k ih =>
    rw [numF_succ (k + 1), numF_succ (k + 2)]
    split
    · rfl
    · rw [ih (n / 128) (by rw [Nat.pow_succ] at h; omega)]
theorem numL_big {n : Nat} (h : 128 ≤ n) (hn : n < 128 ^ 10) : numL n = UInt8.ofNat (128 + n % 128) :: numL (n / 128) := by
  unfold numL
  conv => lhs; unfold numF
  rw [if_neg (by omega), numF_more 8 (n / 128) (by omega)]


end Go.Proofs.Ytemdecaiadkchaa
