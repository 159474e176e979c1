/- The reference's Text and Parse, walked. -/
import Derived.Test.YtjcaaiikccnpeaaDoorNumBase
import Derived.Test.YtjcaaiikccnpeaaDoorPure
namespace Go.Proofs.YtjcaaiikccnpeaaDoor
open Go.ChangeShapes Go.WideShapes Go.ChangeAt Go.RowKit Go.Lib
set_option linter.unusedVariables false

/-- one digit -/
def digB (k : Nat) : List UInt8 := [UInt8.ofNat (48 + k)]
theorem tenD_at (k : Nat) (hk : k < 10) : ∀ w : World, (Instr.slice 9 (.string { data := #[48, 49, 50, 51, 52, 53, 54, 55, 56, 57] }) (some (.int .i64 (k : Int))) (some (.int .i64 ((k : Int) + 1))) none).run Tryd.prog w = .ok (.string (bs (digB k))) w := by
  intro w
  rcases (by omega : k = 0 ∨ k = 1 ∨ k = 2 ∨ k = 3 ∨ k = 4 ∨ k = 5 ∨ k = 6 ∨ k = 7 ∨ k = 8 ∨ k = 9) with rfl | rfl | rfl | rfl | rfl | rfl | rfl | rfl | rfl | rfl
  all_goals kernel_rfl
theorem digits_small (n : Int) (k : Nat) (w : World) (hk : k < 10) (d0 : decide (n ≤ -10) = false) (t : n.tmod 10 = -(k : Int)) : Calls Tryd.prog 56 #[.int .i64 n] w (Same (.string (bs (digB k))) w) := by
  have hx := tenD_at k hk
  have ha := bs_append [] (digB k)
  have he : bs [] = (⟨#[]⟩ : ByteArray) := rfl
  rw [he, List.nil_append] at ha
  have hs := bs_size (digB k)
  have hl : (digB k).length ≤ 1 := Nat.le_refl _
  go_enter Tryd.func56, Tryd.ntmps56
  go_wp2_with fail
  go_ret
  exact ⟨rfl, rfl⟩
theorem digits_big (n m : Int) (k : Nat) (l : List UInt8) (w : World) (hk : k < 10) (d0 : decide (n ≤ -10) = true) (t : n.tmod 10 = -(k : Int)) (q : n.tdiv 10 = m) (m0 : -9223372036854775808 ≤ m) (m1 : m ≤ 0)
    (hl : l.length ≤ 100) (c : ∀ W, Calls Tryd.prog 56 #[.int .i64 m] W (Same (.string (bs l)) W)) : Calls Tryd.prog 56 #[.int .i64 n] w (Same (.string (bs (l ++ digB k))) w) := by
  have hx := tenD_at k hk
  have ha := bs_append l (digB k)
  have hs := bs_size l
  have hs1 := bs_size (digB k)
  have hl1 : (digB k).length ≤ 1 := Nat.le_refl _
  go_enter Tryd.func56, Tryd.ntmps56
  go_wp2_with fail
  refine (c _).mono ?_
  rintro e w' ⟨rfl, rfl⟩
  go_wp2_with fail
  go_ret
  exact ⟨rfl, rfl⟩
theorem dec_snoc {u : Nat} (h : ¬ u < 10) : decDigits u = decDigits (u / 10) ++ digB (u % 10) := by
  rw [decDigits, dif_neg h]; rfl
theorem digits_any (u : Nat) : ∀ (w : World), u ≤ 9223372036854775808 → Calls Tryd.prog 56 #[.int .i64 (-(u : Int))] w (Same (.string (bs (decDigits u))) w) := by
  induction u using Nat.strongRecOn with
  | ind u ih =>
    intro w hu
    have t : (-(u : Int)).tmod 10 = -((u % 10 : Nat) : Int) := by
      rw [Int.neg_tmod, Int.tmod_eq_emod_of_nonneg (by omega)]; omega
    have q : (-(u : Int)).tdiv 10 = -((u / 10 : Nat) : Int) := by
      rw [Int.neg_tdiv, Int.tdiv_eq_ediv_of_nonneg (by omega)]; omega
    by_cases h : u < 10
    · have hd : decDigits u = digB (u % 10) := by rw [decDigits, dif_pos h, Nat.mod_eq_of_lt h]; rfl
      rw [hd]
      exact digits_small _ _ w (Nat.mod_lt _ (by decide)) (decide_eq_false (by omega)) t
    · rw [dec_snoc h]
      have hlen := dec_length (u / 10) 20 (by have : (10 : Nat) ^ 20 = 100000000000000000000 := by decide
                                              omega) (by omega)
      exact digits_big _ _ _ _ w (Nat.mod_lt _ (by decide)) (decide_eq_true (by omega)) t q (by omega) (by omega) (by omega) (fun W => ih _ (by omega) W (by omega))
theorem rtext_any (n : Int) (w : World) (h : wf64 n) : Calls Tryd.prog 39 #[.int .i64 n] w (Same (.string (bs (itoa n))) w) := by
  unfold wf64 at h
  by_cases h0 : n < 0
  · have d0 : decide (n < 0) = true := decide_eq_true h0
    have z : Hid (itoa n = [45] ++ decDigits n.natAbs) := by unfold Hid itoa; rw [if_pos h0]; rfl
    have c := fun W => digits_any n.natAbs W (by omega)
    have e : -(n.natAbs : Int) = n := by omega
    rw [e] at c
    have hlen := dec_length n.natAbs 20 (by have : (10 : Nat) ^ 20 = 100000000000000000000 := by decide
                                            omega) (by omega)
    clear e
    generalize decDigits n.natAbs = l at *
    have ha := bs_append [45] l
    have h45 : bs [45] = (⟨#[45]⟩ : ByteArray) := rfl
    rw [h45] at ha
    have hs := bs_size l
    go_enter Tryd.func39, Tryd.ntmps39
    go_wp2_with fail
    refine (c _).mono ?_
    rintro e w' ⟨rfl, rfl⟩
    go_wp2_with fail
    go_ret
    exact ⟨by rw [z.out]; rfl, rfl⟩
  · obtain ⟨u, rfl⟩ : ∃ u : Nat, n = (u : Int) := ⟨n.toNat, by omega⟩
    have d0 : decide ((u : Int) < 0) = false := decide_eq_false h0
    have z : Hid (itoa (u : Int) = decDigits u) := by unfold Hid; exact itoa_nonneg u
    have c := fun W => digits_any u W (by omega)
    have u1 : (u : Int) ≤ 9223372036854775807 := h.2
    clear h0
    go_enter Tryd.func39, Tryd.ntmps39
    go_wp2_with fail
    refine (c _).mono ?_
    rintro e w' ⟨rfl, rfl⟩
    go_wp2_with fail
    go_ret
    exact ⟨by rw [z.out]; rfl, rfl⟩
end Go.Proofs.YtjcaaiikccnpeaaDoor
