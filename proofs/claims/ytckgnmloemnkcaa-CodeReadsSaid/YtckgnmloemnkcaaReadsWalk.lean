/- CodeReads, walked: it answers true. -/
import Derived.Test.YtckgnmloemnkcaaAgainWalk
import Derived.Test.YtckgnmloemnkcaaRefL
import Derived.Deep.RegionHeld3
import Derived.IntWalk
namespace Go.Proofs.Ytckgnmloemnkcaa
open Go.ChangeShapes Go.WideShapes Go.ChangeAt Go.RowKit Go.Lib
set_option linter.unusedVariables false

theorem many_count {α : Type} (f : Rd → α × Rd) (hf : ∀ r, (f r).2.rest.length ≤ r.rest.length) (r : Rd) (h : r.rest.length ≤ 1000000000) : (r.many f).1.length ≤ 1000000000 := by
  rw [many_cnt]
  have h1 := cnt_le h
  have h2 := (readN_len f hf r.cnt r.counted).2
  simp only
  split
  · simp
  · omega
theorem list_count (r : Rd) (h : r.rest.length ≤ 1000000000) : r.list.1.length ≤ 1000000000 := many_count _ Rd.text_len r h
theorem nums_count (r : Rd) (h : r.rest.length ≤ 1000000000) : r.nums.1.length ≤ 1000000000 := many_count _ Rd.int_len r h
theorem list_len (r : Rd) : r.list.2.rest.length ≤ r.rest.length := Nat.le_trans (readN_len _ Rd.text_len _ _).1 (Rd.counted_len r)
theorem nums_len (r : Rd) : r.nums.2.rest.length ≤ r.rest.length := Nat.le_trans (readN_len _ Rd.int_len _ _).1 (Rd.counted_len r)
set_option maxRecDepth 100000 in
set_option maxHeartbeats 1600000 in
theorem reads_any (s : List UInt8) (ks : List Int) (A : Option Addr) (C : Nat) (w : World) (hk : RowAt w A (ints ks)) :
    Calls Try.prog 4 #[.string (bs s), .slice A ks.length C] w (BoolPost w true) := by
  have cs := small_any w
  have hss := bs_size s
  by_cases hs5 : 5000 < s.length
  · have hq : decide (5000 < (s.length : Int)) = true := decide_eq_true (by omega)
    go_enter Try.func4, Try.ntmps4
    go_wp2_with (go_at_call 10; refine cs.mono ?_; rintro e w1 ⟨rfl, hb1⟩)
    go_ret
    exact ⟨rfl, hb1⟩
  have hq : decide (5000 < (s.length : Int)) = false := decide_eq_false (by omega)
  by_cases hk20 : 30 < ks.length
  · have hq2 : decide (30 < (ks.length : Int)) = true := decide_eq_true (by omega)
    go_enter Try.func4, Try.ntmps4
    go_wp2_with (go_at_call 10; refine cs.mono ?_; rintro e w1 ⟨rfl, hb1⟩)
    go_ret
    exact ⟨rfl, hb1⟩
  have hq2 : decide (30 < (ks.length : Int)) = false := decide_eq_false (by omega)
  go_enter Try.func4, Try.ntmps4
  go_wp2_with fail
  refine cs.mono ?_
  rintro e w1 ⟨rfl, hb1⟩
  go_wp2_with fail
  refine (open_rd s w1).mono ?_
  rintro e w2 ⟨rfl, hr2, hb2⟩
  have hw2 := hb1.trans (hb2.mono hb1.size)
  have hpw : w.heap.size ≤ w1.heap.size := hb1.size
  obtain ⟨p, hp⟩ : ∃ p, p = w1.heap.size := ⟨_, rfl⟩
  rw [← hp] at hr2 hpw ⊢
  clear hb1 hb2 hp cs
  go_wp2_with fail
  refine (ropen_rd s w2).mono ?_
  rintro e w3 ⟨rfl, hq3, hb3⟩
  have hw3 := hw2.trans (hb3.mono hw2.size)
  have hp3 := hr2.below hb3
  have hpq := hr2.lt
  have hqw : w.heap.size ≤ w2.heap.size := hw2.size
  obtain ⟨q, hqe⟩ : ∃ q, q = w2.heap.size := ⟨_, rfl⟩
  rw [← hqe] at hq3 hqw hpq ⊢
  clear hb3 hqe hr2 hw2
  have hdn : (Rd.mk s false).done = s.isEmpty := by simp [Rd.done]
  have htt := bs_toList s
  have hbt : ∀ b : Bool, (b != b) = false := by intro b; simp
  go_wp2_with fail
  refine (left_any p _ w3 hp3).mono ?_
  rintro e w3' ⟨rfl, rfl⟩
  go_wp2_with fail
  refine (done_rd p _ w3' hp3).mono ?_
  rintro e w3 ⟨rfl, rfl⟩
  go_wp2_with fail
  go_loopw [8] (fun v0 wr => ∃ (i : Nat) (r1 : Rd), v0 = .int .i64 i ∧ i ≤ ks.length ∧ r1.ok ∧ r1.rest.length ≤ 5000 ∧ RdAt wr p 57 r1 ∧ RdAt wr q 59 r1 ∧ Below w.heap.size w wr) (fun v0 _ => ks.length - (intOf v0).toNat)
  case atStart => exact ⟨0, ⟨s, false⟩, rfl, by omega, Rd.ok_false s, by simp only; omega, hp3, hq3, hw3⟩
  case round =>
    obtain ⟨i, r1, rfl, hi, hok, hr1l, hp1, hq1, hbel⟩ := hrel
    by_cases hlt : i < ks.length
    · obtain ⟨x, hx⟩ : ∃ x, ks[i]? = some x := ⟨_, List.getElem?_eq_getElem hlt⟩
      obtain ⟨bx, ox, rfl, hcx⟩ := (hk.below hbel).at (ints_get hx)
      obtain ⟨b', o', he, hc0⟩ := hk.at (ints_get hx)
      cases he
      have hbw := lt_of_cell hc0
      simp only at hbw
      clear hc0
      clear hx hdn htt hbt
      have hdec : x = 0 ∨ x = 1 ∨ x = 2 ∨ x = 3 ∨ x = 4 ∨ (¬ x = 0 ∧ ¬ x = 1 ∧ ¬ x = 2 ∧ ¬ x = 3 ∧ ¬ x = 4) := by omega
      rcases hdec with hxk | hxk | hxk | hxk | hxk | hxk
      · have hx0 : x = 0 := hxk
        subst hx0
        clear hxk
        go_wp2_with fail
        refine (num_rd p r1 wr hp1 (by omega)).mono ?_
        rintro e w3 ⟨rfl, hp3, hch3⟩
        have hq3 : RdAt w3 q 59 r1 := hch3.heap_some (by simp; omega) hq1
        have hw3 := Chg.to_below hbel hch3 hpw
        go_wp2_with fail
        refine (rnum_rd q r1 w3 hq3 (by omega)).mono ?_
        rintro e w5 ⟨rfl, hq5, hch5⟩
        have hp5 := hch5.heap_some (by simp; omega) hp3
        have hw5 := Chg.to_below hw3 hch5 hqw
        clear hch3 hch5 hp3 hq3 hw3 hp1 hq1 hbel hcx
        have hr2ok : r1.num.2.ok := Rd.num_ok hok
        have hr2l : r1.num.2.rest.length ≤ 5000 := Nat.le_trans (Rd.num_len r1) hr1l
        have hd := Lib.hid hr2l
        clear hr2l
        generalize r1.num.2 = r2 at *
        have hbt : ∀ b : Bool, (b != b) = false := by intro b; simp
        go_wp2_with fail
        refine (left_any p r2 _ hp5).mono ?_
        rintro e w6 ⟨rfl, rfl⟩
        go_wp2_with fail
        refine (rleft_any q r2 _ hq5).mono ?_
        rintro e w7 ⟨rfl, rfl⟩
        go_wp2_with fail
        refine (done_rd p r2 _ hp5).mono ?_
        rintro e w8 ⟨rfl, rfl⟩
        go_wp2_with fail
        refine (rdone_rd q r2 _ hq5).mono ?_
        rintro e w9 ⟨rfl, rfl⟩
        go_wp2
        go_roundw
        case rel => exact ⟨i + 1, r2, by go_num, by omega, hr2ok, hd.out, hp5, hq5, hw5⟩
        case measure => simp [intOf]; omega
      · have hx1 : x = 1 := hxk
        subst hx1
        clear hxk
        go_wp2_with fail
        refine (int_rd p r1 wr hp1 (by omega)).mono ?_
        rintro e w3 ⟨rfl, hp3, hch3⟩
        have hq3 : RdAt w3 q 59 r1 := hch3.heap_some (by simp; omega) hq1
        have hw3 := Chg.to_below hbel hch3 hpw
        go_wp2_with fail
        refine (rint_rd q r1 w3 hq3 (by omega)).mono ?_
        rintro e w5 ⟨rfl, hq5, hch5⟩
        have hp5 := hch5.heap_some (by simp; omega) hp3
        have hw5 := Chg.to_below hw3 hch5 hqw
        clear hch3 hch5 hp3 hq3 hw3 hp1 hq1 hbel hcx
        have hr2ok : r1.int.2.ok := Rd.int_ok hok
        have hr2l : r1.int.2.rest.length ≤ 5000 := Nat.le_trans (Rd.int_len r1) hr1l
        have hd := Lib.hid hr2l
        clear hr2l
        generalize r1.int.2 = r2 at *
        have hbt : ∀ b : Bool, (b != b) = false := by intro b; simp
        go_wp2_with fail
        refine (left_any p r2 _ hp5).mono ?_
        rintro e w6 ⟨rfl, rfl⟩
        go_wp2_with fail
        refine (rleft_any q r2 _ hq5).mono ?_
        rintro e w7 ⟨rfl, rfl⟩
        go_wp2_with fail
        refine (done_rd p r2 _ hp5).mono ?_
        rintro e w8 ⟨rfl, rfl⟩
        go_wp2_with fail
        refine (rdone_rd q r2 _ hq5).mono ?_
        rintro e w9 ⟨rfl, rfl⟩
        go_wp2
        go_roundw
        case rel => exact ⟨i + 1, r2, by go_num, by omega, hr2ok, hd.out, hp5, hq5, hw5⟩
        case measure => simp [intOf]; omega
      · have hx2 : x = 2 := hxk
        subst hx2
        clear hxk
        go_wp2_with fail
        refine (text_rd p r1 wr hp1 (by omega)).mono ?_
        rintro e w3 ⟨rfl, hp3, hch3⟩
        have hq3 : RdAt w3 q 59 r1 := hch3.heap_some (by simp; omega) hq1
        have hw3 := Chg.to_below hbel hch3 hpw
        go_wp2_with fail
        refine (rtext_rd q r1 w3 hq3 (by omega)).mono ?_
        rintro e w5 ⟨rfl, hq5, hch5⟩
        have hp5 := hch5.heap_some (by simp; omega) hp3
        have hw5 := Chg.to_below hw3 hch5 hqw
        clear hch3 hch5 hp3 hq3 hw3 hp1 hq1 hbel hcx
        have hr2ok : r1.text.2.ok := Rd.text_ok
        have hr2l : r1.text.2.rest.length ≤ 5000 := Nat.le_trans (Rd.text_len r1) hr1l
        have hd := Lib.hid hr2l
        clear hr2l
        generalize r1.text.2 = r2 at *
        have hbt : ∀ b : Bool, (b != b) = false := by intro b; simp
        go_wp2_with fail
        refine (left_any p r2 _ hp5).mono ?_
        rintro e w6 ⟨rfl, rfl⟩
        go_wp2_with fail
        refine (rleft_any q r2 _ hq5).mono ?_
        rintro e w7 ⟨rfl, rfl⟩
        go_wp2_with fail
        refine (done_rd p r2 _ hp5).mono ?_
        rintro e w8 ⟨rfl, rfl⟩
        go_wp2_with fail
        refine (rdone_rd q r2 _ hq5).mono ?_
        rintro e w9 ⟨rfl, rfl⟩
        go_wp2
        go_roundw
        case rel => exact ⟨i + 1, r2, by go_num, by omega, hr2ok, hd.out, hp5, hq5, hw5⟩
        case measure => simp [intOf]; omega
      · have hx3 : x = 3 := hxk
        subst hx3
        clear hxk
        go_wp2_with fail
        refine (list_rd p r1 wr hp1 (by omega)).mono ?_
        rintro e w3 ⟨A1, C1, rfl, hf3, hl3, hp3, hch3⟩
        have hq3 : RdAt w3 q 59 r1 := hch3.heap_some (by simp; omega) hq1
        have hw3 := Chg.to_below hbel hch3 hpw
        have hsz3 := hch3.size
        have hqlt := hq1.lt
        go_wp2_with fail
        refine (rlist_rd q r1 w3 hq3 (by omega) hok).mono ?_
        rintro e w4 ⟨A2, C2, rfl, hf4, hl4, hq4, hch4⟩
        have hp4 := hch4.heap_some (by simp; omega) hp3
        have hw4 := Chg.to_below hw3 hch4 hqw
        have hl3' := hl3.chg hch4 (fun a ha hm => by have := hf3 a ha; simp at hm; omega)
        have hll : (r1.list.1).length ≤ 1000000000 := list_count r1 (by omega)
        have hdq : decide (r1.list.1 = r1.list.1) = true := by simp
        have hlq := strs_length (r1.list.1)
        have cs := sameTexts_any (r1.list.1) (r1.list.1) A1 A2 C1 C2 w4 hl3' hl4 hll hll
        rw [hdq] at cs
        clear hdq hf3 hf4 hl3 hl4 hl3' hch3 hch4 hp3 hq3 hw3 hp1 hq1 hbel hcx hsz3 hqlt hll
        go_wp2_with fail
        refine (Calls.mono cs ?_)
        rintro e w5 ⟨rfl, hb5⟩
        have hp5 := RdAt.below hp4 hb5
        have hq5 := RdAt.below hq4 hb5
        have hw5 := hw4.trans (hb5.mono hw4.size)
        clear cs hb5 hp4 hq4 hw4 hlq
        have hr2ok : r1.list.2.ok := Rd.list_ok hok
        have hr2l : r1.list.2.rest.length ≤ 5000 := Nat.le_trans (list_len r1) hr1l
        have hd := Lib.hid hr2l
        clear hr2l
        generalize r1.list.2 = r2 at *
        have hbt : ∀ b : Bool, (b != b) = false := by intro b; simp
        go_wp2_with fail
        refine (left_any p r2 _ hp5).mono ?_
        rintro e w6 ⟨rfl, rfl⟩
        go_wp2_with fail
        refine (rleft_any q r2 _ hq5).mono ?_
        rintro e w7 ⟨rfl, rfl⟩
        go_wp2_with fail
        refine (done_rd p r2 _ hp5).mono ?_
        rintro e w8 ⟨rfl, rfl⟩
        go_wp2_with fail
        refine (rdone_rd q r2 _ hq5).mono ?_
        rintro e w9 ⟨rfl, rfl⟩
        go_wp2
        go_roundw
        case rel => exact ⟨i + 1, r2, by go_num, by omega, hr2ok, hd.out, hp5, hq5, hw5⟩
        case measure => simp [intOf]; omega
      · have hx4 : x = 4 := hxk
        subst hx4
        clear hxk
        go_wp2_with fail
        refine (nums_rd p r1 wr hp1 (by omega)).mono ?_
        rintro e w3 ⟨A1, C1, rfl, hf3, hl3, hp3, hch3⟩
        have hq3 : RdAt w3 q 59 r1 := hch3.heap_some (by simp; omega) hq1
        have hw3 := Chg.to_below hbel hch3 hpw
        have hsz3 := hch3.size
        have hqlt := hq1.lt
        go_wp2_with fail
        refine (rnums_rd q r1 w3 hq3 (by omega) hok).mono ?_
        rintro e w4 ⟨A2, C2, rfl, hf4, hl4, hq4, hch4⟩
        have hp4 := hch4.heap_some (by simp; omega) hp3
        have hw4 := Chg.to_below hw3 hch4 hqw
        have hl3' := hl3.chg hch4 (fun a ha hm => by have := hf3 a ha; simp at hm; omega)
        have hll : (r1.nums.1).length ≤ 1000000000 := nums_count r1 (by omega)
        have hdq : decide (r1.nums.1 = r1.nums.1) = true := by simp
        have hlq := ints_length (r1.nums.1)
        have cs := sameNums_any (r1.nums.1) (r1.nums.1) A1 A2 C1 C2 w4 hl3' hl4 hll hll
        rw [hdq] at cs
        clear hdq hf3 hf4 hl3 hl4 hl3' hch3 hch4 hp3 hq3 hw3 hp1 hq1 hbel hcx hsz3 hqlt hll
        go_wp2_with fail
        refine (Calls.mono cs ?_)
        rintro e w5 ⟨rfl, hb5⟩
        have hp5 := RdAt.below hp4 hb5
        have hq5 := RdAt.below hq4 hb5
        have hw5 := hw4.trans (hb5.mono hw4.size)
        clear cs hb5 hp4 hq4 hw4 hlq
        have hr2ok : r1.nums.2.ok := Rd.nums_ok hok
        have hr2l : r1.nums.2.rest.length ≤ 5000 := Nat.le_trans (nums_len r1) hr1l
        have hd := Lib.hid hr2l
        clear hr2l
        generalize r1.nums.2 = r2 at *
        have hbt : ∀ b : Bool, (b != b) = false := by intro b; simp
        go_wp2_with fail
        refine (left_any p r2 _ hp5).mono ?_
        rintro e w6 ⟨rfl, rfl⟩
        go_wp2_with fail
        refine (rleft_any q r2 _ hq5).mono ?_
        rintro e w7 ⟨rfl, rfl⟩
        go_wp2_with fail
        refine (done_rd p r2 _ hp5).mono ?_
        rintro e w8 ⟨rfl, rfl⟩
        go_wp2_with fail
        refine (rdone_rd q r2 _ hq5).mono ?_
        rintro e w9 ⟨rfl, rfl⟩
        go_wp2
        go_roundw
        case rel => exact ⟨i + 1, r2, by go_num, by omega, hr2ok, hd.out, hp5, hq5, hw5⟩
        case measure => simp [intOf]; omega
      · obtain ⟨n0, n1, n2, n3, n4⟩ := hxk
        have m0 : (x == 0) = false := by simpa using n0
        have m1 : (x == 1) = false := by simpa using n1
        have m2 : (x == 2) = false := by simpa using n2
        have m3 : (x == 3) = false := by simpa using n3
        have m4 : (x == 4) = false := by simpa using n4
        clear n0 n1 n2 n3 n4
        go_wp2_with fail
        generalize hN : IntKind.i64.wrap (x - 5) = N
        have hi0 : (0 : Int) ≤ (i : Int) := by omega
        have hi1 : (i : Int) < (ks.length : Int) := by omega
        go_region_held3 (fun W' => W'.cell? ⟨bx, ox + i, none⟩ = some (.int .i64 x))
          (first | assumption | exact hch3.cell_some (by simp; omega) hcx | exact hch5.cell_some (by simp; omega) (hch3.cell_some (by simp; omega) hcx))
          (first | (go_at_call 38; refine (take_rd p r1 N _ (show RdAt wr.drew p 57 r1 from hp1) (by omega)).mono ?_; rintro e w3 ⟨rfl, hp3, hch3⟩) | (go_at_call 39; refine (rtake_rd q r1 N _ (hch3.heap_some (by simp; omega) (show RdAt wr.drew q 59 r1 from hq1)) (by omega)).mono ?_; rintro e w5 ⟨rfl, hq5, hch5⟩))
        have hw3 : Below w.heap.size w w3 := Chg.to_below (w1 := wr.drew) hbel.drew hch3 hpw
        have hp5 := hch5.heap_some (by simp; omega) hp3
        have hw5 := Chg.to_below hw3 hch5 hqw
        clear hch3 hch5 hp3 hw3 hp1 hq1 hbel hcx
        have hr2ok : (r1.take N).2.ok := Rd.take_ok' N
        have hr2l : (r1.take N).2.rest.length ≤ 5000 := Nat.le_trans (Rd.take_len r1 N) hr1l
        have hd := Lib.hid hr2l
        clear hr2l
        generalize (r1.take N).2 = r2 at *
        have hbt : ∀ b : Bool, (b != b) = false := by intro b; simp
        go_wp2_with fail
        refine (left_any p r2 _ hp5).mono ?_
        rintro e w6 ⟨rfl, rfl⟩
        go_wp2_with fail
        refine (rleft_any q r2 _ hq5).mono ?_
        rintro e w7 ⟨rfl, rfl⟩
        go_wp2_with fail
        refine (done_rd p r2 _ hp5).mono ?_
        rintro e w8 ⟨rfl, rfl⟩
        go_wp2_with fail
        refine (rdone_rd q r2 _ hq5).mono ?_
        rintro e w9 ⟨rfl, rfl⟩
        go_wp2
        go_roundw
        case rel => exact ⟨i + 1, r2, by go_num, by omega, hr2ok, hd.out, hp5, hq5, hw5⟩
        case measure => simp [intOf]; omega
    · go_wp2
      go_ret
      exact ⟨rfl, hbel⟩
end Go.Proofs.Ytckgnmloemnkcaa
