/- The reference's Num, Int, Text, walked. -/
import Derived.Test.YtckgnmloemnkcaaNum2
import Derived.Deep.RegionWith
import Derived.IntWalk
namespace Go.Proofs.Ytckgnmloemnkcaa
open Go.ChangeShapes Go.WideShapes Go.ChangeAt Go.RowKit Go.Lib
set_option linter.unusedVariables false

theorem conv_one (W : World) (b : Nat) (d : Nat) (hd : d < 256) (h : W.cell? ⟨b, 0, none⟩ = some (.int .u8 d)) : (convert 53 9 (.slice (some ⟨b, 0, none⟩) 1 1)).run Try.prog W = .ok (.string (bs [UInt8.ofNat d])) W := by
  have := run_convert_bytes_arg (P := Try.prog) W 53 5 Try.underlying53 Try.underlying5 b 0 1 1 [(d : Int)] rfl (fun i hi => by
    obtain rfl : i = 0 := by omega
    simpa using h) 9 Try.underlying9
  rw [this]
  have h2 := strOf_bytes [UInt8.ofNat d]
  simp only [List.map_cons, List.map_nil, byte_toNat hd] at h2
  rw [h2]
set_option maxHeartbeats 400000 in
theorem refnum_any (n : Int) (w : World) (hn : n ≤ 9223372036854775807) : Calls Try.prog 13 #[.int .i64 n] w (NumPost w n) := by
  by_cases h0 : n < 0
  · have hN : Hid (numI n = []) := by simp [Hid, numI, h0]
    go_enter Try.func13, Try.ntmps13
    go_wp2
    go_ret
    unfold NumPost
    rw [hN.out]
    exact ⟨rfl, Below.refl _ _⟩
  · obtain ⟨m, rfl⟩ : ∃ m : Nat, n = m := ⟨n.toNat, by omega⟩
    clear h0
    induction m using Nat.strongRecOn generalizing w with
    | _ m ih =>
      have hf : ((m : Int) < 0) = False := by simp
      have hf' : decide ((m : Int) < 0) = false := by simp
      by_cases h128 : m < 128
      · have hN : Hid (numI m = [UInt8.ofNat m]) := by unfold Hid; rw [numI_nat, numL_small h128]
        have hc := fun W b => conv_one W b m (by omega)
        have hlt : (m : Int) < 128 := by omega
        clear ih
        go_enter Try.func13, Try.ntmps13
        go_wp2
        go_ret
        exact ⟨by rw [hN.out]; rfl, (Below.refl _ _).alloc (Nat.le_refl _) _⟩
      · have hN : Hid (numI m = UInt8.ofNat (128 + m % 128) :: numI ((m / 128 : Nat) : Int)) := by unfold Hid; rw [numI_nat, numL_big (by omega) (by omega), numI_nat]
        have hlt : decide ((m : Int) < 128) = false := by simp; omega
        have hcast : ((m / 128 : Nat) : Int) = (m : Int) / 128 := by omega
        have IH : ∀ W, Calls Try.prog 13 #[.int .i64 ((m : Int) / 128)] W (NumPost W ((m / 128 : Nat) : Int)) := fun W => by
          have := ih (m / 128) (by omega) W (by omega)
          rw [hcast] at this ⊢; exact this
        clear ih
        have hc : ∀ (W : World) (b : Nat), W.cell? ⟨b, 0, none⟩ = some (.int .u8 (128 + (m : Int) % 128)) → (convert 53 9 (.slice (some ⟨b, 0, none⟩) 1 1)).run Try.prog W = .ok (.string (bs [UInt8.ofNat (128 + m % 128)])) W := fun W b hW => conv_one W b (128 + m % 128) (by omega) (by rw [hW]; simp)
        have ha := bs_append [UInt8.ofNat (128 + m % 128)] (numI ((m / 128 : Nat) : Int))
        have hno : ¬ (9223372036854775807 < (bs [UInt8.ofNat (128 + m % 128)]).size + (bs (numI ((m / 128 : Nat) : Int))).size) := by rw [bs_size, bs_size]; have := numI_length ((m / 128 : Nat) : Int); rw [List.length_singleton]; omega
        clear hcast
        have ht : ((m : Int).tmod 128) = (m : Int) % 128 := by rw [Int.tmod_eq_emod_of_nonneg (by omega)]
        have hu : IntKind.u8.wrap (IntKind.i64.wrap (128 + (m : Int).tmod 128)) = 128 + (m : Int) % 128 := by
          rw [ht, IntWalk.i64_in _ (by omega), IntWalk.u8_in _ (by omega)]
        have hw2 : IntKind.i64.wrap ((m : Int) / 128) = (m : Int) / 128 := IntWalk.i64_in _ (by omega)
        clear ht
        generalize ((m / 128 : Nat) : Int) = q at *
        generalize UInt8.ofNat (128 + m % 128) = d at *
        go_enter Try.func13, Try.ntmps13
        go_wp2
        go_region_with (go_at_call 13; refine (IH _).mono ?_; rintro e w' ⟨rfl, hb⟩; try (have hcl : w'.cell? ⟨w.heap.size, 0, none⟩ = some (.int .u8 (128 + (m : Int) % 128)) := (hb.cell (by simp)).trans (cell_one_new w _ 5 0 _ rfl)))
        all_goals (
          have hbw : Below w.heap.size w w' := Below.trans (by repeat (first | exact Below.refl _ _ | apply Below.drew | refine Below.alloc ?_ (by simp) _)) (hb.mono (by simp))
          go_wp2
          go_ret
          first
            | exact ⟨by rw [hN.out]; rfl, hbw⟩
            | exact ⟨by rw [hN.out]; rfl, hbw.alloc hbw.size _⟩)
theorem refint_any (n : Int) (w : World) (h0 : -9223372036854775808 ≤ n) (h1 : n ≤ 9223372036854775807) : Calls Try.prog 15 #[.int .i64 n] w (StrPost w (intI n)) := by
  by_cases ho : n < -2305843009213693952 ∨ 2305843009213693952 < n
  · have hN : Hid (intI n = []) := by unfold Hid intI lim; rw [if_pos ho]
    rcases ho with ho | ho
    · go_enter Try.func15, Try.ntmps15
      go_wp2
      go_ret
      exact ⟨by rw [hN.out]; rfl, Below.refl _ _⟩
    · have hg : decide (n < -2305843009213693952) = false := by simp; omega
      go_enter Try.func15, Try.ntmps15
      go_wp2
      go_ret
      exact ⟨by rw [hN.out]; rfl, Below.refl _ _⟩
  · have hN : Hid (intI n = numI (if n < 0 then -2 * n - 1 else 2 * n)) := by
      unfold Hid intI lim; rw [if_neg ho]
      unfold numI zig
      by_cases h : n < 0
      · simp only [h, if_true]; rw [if_neg (by omega)]
      · simp only [h, if_false]; rw [if_neg (by omega)]
    have hg1 : decide (n < -2305843009213693952) = false := by simp; omega
    have hg2 : decide (2305843009213693952 < n) = false := by simp; omega
    by_cases hneg : n < 0
    · rw [if_pos hneg] at hN
      have c := refnum_any (-2 * n - 1) w (by omega)
      go_enter Try.func15, Try.ntmps15
      go_wp2_with (go_at_call 13; refine (c).mono ?_; rintro e w' ⟨rfl, hb⟩)
      go_ret
      exact ⟨by rw [hN.out]; rfl, hb⟩
    · rw [if_neg hneg] at hN
      have c := refnum_any (2 * n) w (by omega)
      go_enter Try.func15, Try.ntmps15
      go_wp2_with (go_at_call 13; refine (c).mono ?_; rintro e w' ⟨rfl, hb⟩)
      go_ret
      exact ⟨by rw [hN.out]; rfl, hb⟩
theorem reftext_any (l : List UInt8) (w : World) (hl : l.length ≤ 1000000000) : Calls Try.prog 17 #[.string (bs l)] w (StrPost w (textL l)) := by
  have hsz := bs_size l
  have c := refnum_any l.length w (by omega)
  have ha := bs_append (numI l.length) l
  have hno : ¬ (9223372036854775807 < (bs (numI l.length)).size + l.length) := by rw [bs_size]; have := numI_length l.length; omega
  have hN : Hid (textL l = numI l.length ++ l) := by unfold Hid textL; rw [numI_nat]
  go_enter Try.func17, Try.ntmps17
  go_wp2_with (go_at_call 13; refine (c).mono ?_; rintro e w' ⟨rfl, hb⟩)
  go_ret
  exact ⟨by rw [hN.out]; rfl, hb⟩
end Go.Proofs.Ytckgnmloemnkcaa
