/- The reader's Int, Take, Text, Done, Open, walked. -/
import Derived.Test.YtemdecaiadkchaaCRd
import Derived.Deep.RegionWith
namespace Go.Proofs.Ytemdecaiadkchaa
open Go.ChangeShapes Go.WideShapes Go.ChangeAt Go.RowKit Go.Lib
set_option linter.unusedVariables false


theorem int_rd (p : Nat) (r : Rd) (w : World) (h : RdAt w p 58 r) (hl : r.rest.length ≤ 1000000000) : Calls Try.prog 21 #[.pointer (some ⟨p, 0, none⟩)] w (RdPost w p 58 (.int .i64 r.int.1) r.int.2) := by
  have cn := num_rd p r w h hl
  have hlt := r.num_lt
  have hN : Hid (r.int = if unzig r.num.1 < -lim ∨ lim < unzig r.num.1 then (0, Rd.fail) else (unzig r.num.1, r.num.2)) := rfl
  have hU : Hid (unzig r.num.1 = if r.num.1 % 2 = 1 then -((r.num.1 / 2 : Nat) : Int) - 1 else ((r.num.1 / 2 : Nat) : Int)) := rfl
  generalize r.num.1 = z at *
  generalize r.num.2 = r1 at *
  unfold lim at hN
  by_cases hz : z % 2 = 1
  · have hzi : (z : Int) % 2 = 1 := by omega
    have hU' := hU.out
    rw [if_pos hz] at hU'
    have HU := Lib.hid hU'
    clear hU hU' hz
    by_cases ho : -((z : Int) / 2) - 1 < -2305843009213693952
    · have hN' := hN.out
      rw [if_pos (by left; rw [HU.out]; omega)] at hN'
      have HN := Lib.hid hN'
      clear hN hN'
      go_enter Try.func21, Try.ntmps21
      go_wp2_with (first | (go_at_call 20; refine (cn).mono ?_; rintro e w1 ⟨rfl, hr1, hch1⟩) | (go_at_call 31; refine (fail_any p r1 w1 hr1).mono ?_; rintro e w2 ⟨rfl, hr2, hch2⟩))
      go_ret
      unfold RdPost
      rw [HN.out]
      exact ⟨rfl, hr2, hch1.trans hch2⟩
    · have hN' := hN.out
      rw [if_neg (by rw [HU.out]; omega), HU.out] at hN'
      have HN := Lib.hid hN'
      have hg1 : decide (-((z : Int) / 2) - 1 < -2305843009213693952) = false := by simp; omega
      have hg2 : decide (2305843009213693952 < -((z : Int) / 2) - 1) = false := by simp; omega
      clear hN hN' ho
      go_enter Try.func21, Try.ntmps21
      go_wp2_with (first | (go_at_call 20; refine (cn).mono ?_; rintro e w1 ⟨rfl, hr1, hch1⟩))
      go_ret
      unfold RdPost
      rw [HN.out]
      exact ⟨by simp, hr1, hch1⟩
  · have hzi : (((z : Int) % 2) == 1) = false := by simp; omega
    have hU' := hU.out
    rw [if_neg hz] at hU'
    have HU := Lib.hid hU'
    clear hU hU' hz
    have hg1 : decide (((z : Int) / 2) < -2305843009213693952) = false := by simp; omega
    by_cases ho : 2305843009213693952 < ((z : Int) / 2)
    · have hN' := hN.out
      rw [if_pos (by right; rw [HU.out]; omega)] at hN'
      have HN := Lib.hid hN'
      clear hN hN'
      go_enter Try.func21, Try.ntmps21
      go_wp2_with (first | (go_at_call 20; refine (cn).mono ?_; rintro e w1 ⟨rfl, hr1, hch1⟩) | (go_at_call 31; refine (fail_any p r1 w1 hr1).mono ?_; rintro e w2 ⟨rfl, hr2, hch2⟩))
      go_ret
      unfold RdPost
      rw [HN.out]
      exact ⟨rfl, hr2, hch1.trans hch2⟩
    · have hN' := hN.out
      rw [if_neg (by rw [HU.out]; omega), HU.out] at hN'
      have HN := Lib.hid hN'
      have hg2 : decide (2305843009213693952 < ((z : Int) / 2)) = false := by simp; omega
      clear hN hN' ho
      go_enter Try.func21, Try.ntmps21
      go_wp2_with (first | (go_at_call 20; refine (cn).mono ?_; rintro e w1 ⟨rfl, hr1, hch1⟩))
      go_ret
      unfold RdPost
      rw [HN.out]
      exact ⟨by simp, hr1, hch1⟩
theorem take_rd (p : Nat) (r : Rd) (n : Int) (w : World) (h : RdAt w p 58 r) (hl : r.rest.length ≤ 1000000000) : Calls Try.prog 32 #[.pointer (some ⟨p, 0, none⟩), .int .i64 n] w (RdPost w p 58 (.string (bs (r.take n).1)) (r.take n).2) := by
  have h0 := h.c0
  have h1 := h.c1
  have hs := bs_size r.rest
  have cf := fail_any p r w h
  by_cases ho : r.bad = true ∨ n < 0 ∨ (r.rest.length : Int) < n
  · have HN : Hid (r.take n = ([], Rd.fail)) := by unfold Hid Rd.take; rw [if_pos ho]
    have key : ∀ (X : World), RdAt X p 58 Rd.fail ∧ Chg [p] w X → RdPost w p 58 (.string (bs (r.take n).1)) (r.take n).2 (.returned (.string ⟨#[]⟩)) X := by
      intro X hX
      unfold RdPost
      rw [HN.out]
      exact ⟨rfl, hX⟩
    have KEY := Lib.hid key
    clear key
    by_cases hb : r.bad = true
    · rw [hb] at h1
      go_enter Try.func32, Try.ntmps32
      go_wp2_with (go_at_call 31; refine (cf).mono ?_; rintro e w' ⟨rfl, hb⟩)
      go_ret
      exact KEY.out _ hb
    · have hb' : r.bad = false := by simpa using hb
      rw [hb'] at h1
      by_cases hn : n < 0
      · go_enter Try.func32, Try.ntmps32
        go_wp2_with (go_at_call 31; refine (cf).mono ?_; rintro e w' ⟨rfl, hb⟩)
        go_ret
        exact KEY.out _ hb
      · have hn' : decide (n < 0) = false := by simpa using hn
        have hlt : (r.rest.length : Int) < n := by
          rcases ho with h | h | h
          · exact absurd h hb
          · exact absurd h hn
          · exact h
        clear ho
        go_enter Try.func32, Try.ntmps32
        go_wp2_with (go_at_call 31; refine (cf).mono ?_; rintro e w' ⟨rfl, hb⟩)
        go_ret
        exact KEY.out _ hb
  · obtain ⟨k, rfl⟩ : ∃ k : Nat, n = k := ⟨n.toNat, by omega⟩
    have HN : Hid (r.take k = (r.rest.take k, ⟨r.rest.drop k, r.bad⟩)) := by unfold Hid Rd.take; rw [if_neg ho]; simp
    have hb' : r.bad = false := by
      cases hb : r.bad
      · rfl
      · exact absurd (Or.inl hb) ho
    have hk : k ≤ r.rest.length := by omega
    have hg1 : decide ((k : Int) < 0) = false := by simp
    have hg2 : decide ((r.rest.length : Int) < (k : Int)) = false := by simp; omega
    rw [hb'] at h1
    have hf0 := h.f0 0
    have hex1 : (bs r.rest).extract 0 k = bs (r.rest.take k) := by rw [bs_extract]; simp
    have hex2 : (bs r.rest).extract k r.rest.length = bs (r.rest.drop k) := by rw [bs_extract, List.take_of_length_le (by simp)]
    have hset := Lib.hid (h.set0 (r.rest.drop k))
    have hchg := Lib.hid ((Chg.refl [p] w).setCell (p := ⟨p, 0, none⟩) (by simp) (.string (bs (r.rest.drop k))))
    clear ho cf
    go_enter Try.func32, Try.ntmps32
    go_wp2
    go_ret
    unfold RdPost
    rw [HN.out]
    exact ⟨rfl, hset.out, hchg.out⟩
theorem text_rd (p : Nat) (r : Rd) (w : World) (h : RdAt w p 58 r) (hl : r.rest.length ≤ 1000000000) : Calls Try.prog 22 #[.pointer (some ⟨p, 0, none⟩)] w (RdPost w p 58 (.string (bs r.text.1)) r.text.2) := by
  have cn := num_rd p r w h hl
  have hl1 := r.num_len
  have HN : Hid (r.text = r.num.2.take r.num.1) := rfl
  generalize r.num.1 = z at *
  generalize r.num.2 = r1 at *
  go_enter Try.func22, Try.ntmps22
  go_wp2_with (first | (go_at_call 20; refine (cn).mono ?_; rintro e w1 ⟨rfl, hr1, hch1⟩) | (go_at_call 32; refine (take_rd p r1 z w1 hr1 (by omega)).mono ?_; rintro e w2 ⟨rfl, hr2, hch2⟩))
  go_ret
  unfold RdPost
  rw [HN.out]
  exact ⟨rfl, hr2, hch1.trans hch2⟩
def Rd.done (r : Rd) : Bool := !r.bad && r.rest.isEmpty
theorem done_rd (p : Nat) (r : Rd) (w : World) (h : RdAt w p 58 r) : Calls Try.prog 23 #[.pointer (some ⟨p, 0, none⟩)] w (fun e w' => e = .returned (.bool r.done) ∧ w' = w) := by
  have h0 := h.c0
  have h1 := h.c1
  have hs := bs_size r.rest
  have he := bs_toList r.rest
  have HN : Hid (r.done = (!r.bad && r.rest.isEmpty)) := rfl
  cases hb : r.bad
  · rw [hb] at h1
    have HB := Lib.hid hb
    clear hb
    go_enter Try.func23, Try.ntmps23
    go_wp2
    go_ret
    exact ⟨by rw [HN.out, HB.out]; rfl, rfl⟩
  · rw [hb] at h1
    have HB := Lib.hid hb
    clear hb
    go_enter Try.func23, Try.ntmps23
    go_wp2
    go_ret
    exact ⟨by rw [HN.out, HB.out]; rfl, rfl⟩
theorem open_rd (s : List UInt8) (w : World) : Calls Try.prog 19 #[.string (bs s)] w (fun e w' => e = .returned (.pointer (some ⟨w.heap.size, 0, none⟩)) ∧ RdAt w' w.heap.size 58 ⟨s, false⟩ ∧ Below w.heap.size w w') := by
  go_enter Try.func19, Try.ntmps19
  go_wp2
  go_ret
  refine ⟨rfl, ?_, (Below.refl _ _).alloc (Nat.le_refl _) _⟩
  exact heap_alloc_new w _


end Go.Proofs.Ytemdecaiadkchaa
