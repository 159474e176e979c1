/- The reference's List and Nums, walked. -/
import Derived.Test.YtckgnmloemnkcaaRef
namespace Go.Proofs.Ytckgnmloemnkcaa
open Go.ChangeShapes Go.WideShapes Go.ChangeAt Go.RowKit Go.Lib
set_option linter.unusedVariables false

theorem num_bad {r : Rd} (h : r.ok) (hb : r.num.2.bad = true) : r.num.1 = 0 := by
  unfold Rd.num at hb ⊢
  cases ht : takeNum 9 0 0 r.rest with
  | none => rfl
  | some q =>
    rw [ht] at hb
    simp only at hb
    rw [h hb] at ht
    simp [takeNum] at ht
/-- what count answers, and what the reader is then -/
def Rd.cnt (r : Rd) : Nat := if r.num.2.rest.length < r.num.1 then 0 else r.num.1
theorem count_any (p : Nat) (r : Rd) (w : World) (h : RdAt w p 59 r) (hl : r.rest.length ≤ 1000000000) : Calls Try.prog 54 #[.pointer (some ⟨p, 0, none⟩)] w (RdPost w p 59 (.int .i64 r.cnt) r.counted) := by
  have cn := rnum_rd p r w h hl
  have HC : Hid (r.cnt = if r.num.2.rest.length < r.num.1 then 0 else r.num.1) := rfl
  have HD : Hid (r.counted = if r.num.2.rest.length < r.num.1 then Rd.fail else r.num.2) := rfl
  generalize r.num.1 = z at *
  generalize r.num.2 = rn at *
  have hrs := bs_size rn.rest
  by_cases hlt : rn.rest.length < z
  · have hlb : decide ((rn.rest.length : Int) < (z : Int)) = true := decide_eq_true (by omega)
    have H1 : Hid (r.cnt = 0) := by unfold Hid; rw [HC.out, if_pos hlt]
    have H2 : Hid (r.counted = Rd.fail) := by unfold Hid; rw [HD.out, if_pos hlt]
    go_enter Try.func54, Try.ntmps54
    go_wp2_with (first | (go_at_call 27; refine (cn).mono ?_; rintro e w1 ⟨rfl, hr1, hch1⟩; have h10 := hr1.c0) | (go_at_call 51; refine (rfail_any p rn w1 hr1).mono ?_; rintro e w2 ⟨rfl, hr2, hch2⟩))
    go_ret
    unfold RdPost
    rw [H1.out, H2.out]
    exact ⟨rfl, hr2, hch1.trans hch2⟩
  · have H1 : Hid (r.cnt = z) := by unfold Hid; rw [HC.out, if_neg hlt]
    have H2 : Hid (r.counted = rn) := by unfold Hid; rw [HD.out, if_neg hlt]
    go_enter Try.func54, Try.ntmps54
    go_wp2_with (first | (go_at_call 27; refine (cn).mono ?_; rintro e w1 ⟨rfl, hr1, hch1⟩; have h10 := hr1.c0))
    go_ret
    unfold RdPost
    rw [H1.out, H2.out]
    exact ⟨rfl, hr1, hch1⟩
theorem many_cnt {α : Type} {f : Rd → α × Rd} (r : Rd) : r.many f = (if (readN f r.cnt r.counted).2.bad = true then [] else (readN f r.cnt r.counted).1, (readN f r.cnt r.counted).2) := by
  unfold Rd.many Rd.cnt
  by_cases h : r.num.2.rest.length < r.num.1
  · have hc : r.counted = Rd.fail := by unfold Rd.counted; rw [if_pos h]
    rw [if_pos h, hc, readN_bad _ _ _ rfl, readN_bad _ _ _ rfl]
  · rw [if_neg h]
theorem cnt_bad {r : Rd} (h : r.ok) (hb : r.counted.bad = true) : r.cnt = 0 := by
  unfold Rd.cnt
  by_cases hc : r.num.2.rest.length < r.num.1
  · rw [if_pos hc]
  · rw [if_neg hc]
    unfold Rd.counted at hb
    rw [if_neg hc] at hb
    exact num_bad h hb
theorem cnt_le {r : Rd} (h : r.rest.length ≤ 1000000000) : r.cnt ≤ 1000000000 := by
  have := r.num_len
  unfold Rd.cnt
  split
  · omega
  · omega

set_option maxRecDepth 100000 in
set_option maxHeartbeats 800000 in
theorem rlist_rd (p : Nat) (r : Rd) (w : World) (h : RdAt w p 59 r) (hl : r.rest.length ≤ 1000000000) (hrok : r.ok) : Calls Try.prog 34 #[.pointer (some ⟨p, 0, none⟩)] w (ListPost w p 59 (strs (r.list).1) (r.list).2) := by
  obtain ⟨i0, hi, hz0, hz1, hz2⟩ := info_parts info9
  have cn := count_any p r w h hl
  have hzl := cnt_le hl
  have HM : Hid (r.list = (if (readN Rd.text r.cnt r.counted).2.bad = true then [] else (readN Rd.text r.cnt r.counted).1, (readN Rd.text r.cnt r.counted).2)) := many_cnt r
  have hcb := Lib.hid (fun hb => cnt_bad hrok hb)
  have hr2l := Nat.le_trans r.counted_len hl
  generalize hz : r.cnt = z at *
  generalize hr2e : r.counted = r2 at *
  clear hz hr2e
  go_enter Try.func34, Try.ntmps34
  go_wp2_with (first | (go_at_call 54; refine (cn).mono ?_; rintro e w1 ⟨rfl, hr2, hch2⟩))
  go_loopw [4, 5] (fun v0 v1 wr => ∃ (xs : List (List UInt8)) (r1 : Rd), v1 = .int .i64 xs.length ∧ xs.length ≤ z ∧ r1.rest.length ≤ 1000000000 ∧ Hid (readN Rd.text z r2 = (xs ++ (readN Rd.text (z - xs.length) r1).1, (readN Rd.text (z - xs.length) r1).2)) ∧ Hid (r1.bad = true → z = 0) ∧ wr.ownsRow w.heap.size 9 1 v0 xs.length (strs xs) ∧ RdAt wr p 59 r1 ∧ Chg [p] w wr) (fun _ v1 _ => z - (intOf v1).toNat)
  case atStart => exact ⟨[], r2, rfl, by simp, by omega, by unfold Hid; simp, hcb, ⟨by simp [strs], .inl ⟨rfl, rfl⟩⟩, hr2, hch2⟩
  case round =>
    obtain ⟨xs, r1, rfl, hxz, hr1l, HR, HB, hown, hr1, hch⟩ := hrel
    have hpw : p < w.heap.size := h.lt
    obtain ⟨da, dc, rfl⟩ := own_form hown
    by_cases hlt : xs.length < z
    · have hbad : r1.bad = false := by
        cases hb : r1.bad
        · rfl
        · have := HB.out hb; omega
      have HBAD := Lib.hid hbad
      have ce := rtext_rd p r1 wr hr1 hr1l
      have hfl := Rd.text_len r1
      clear hbad
      have hchsz := hch.size
      have HSTEP : Hid (readN Rd.text z r2 = ((xs ++ [(Rd.text r1).1]) ++ (readN Rd.text (z - (xs.length + 1)) (Rd.text r1).2).1, (readN Rd.text (z - (xs.length + 1)) (Rd.text r1).2).2)) := by
        unfold Hid
        rw [HR.out, show z - xs.length = (z - (xs.length + 1)) + 1 by omega, readN_step _ _ _ HBAD.out]
        simp
      cases hb2 : (Rd.text r1).2.bad
      · have HB2 := Lib.hid hb2
        go_wp2_with fail
        refine (ce).mono ?_
        rintro e w3 ⟨rfl, hr3, hch3⟩
        have hc1 := hr3.c1
        rw [hb2] at hc1
        clear hb2
        go_wp2_with (first | (at_builtin; refine wpList_append_own _ rfl _ _ 22 rfl w.heap.size 9 i0 (.string ⟨#[]⟩) 1 16 Try.underlying22 hi hz0 hz1 hz2 rfl (by decide) _ _ _ rfl ((own_chg hown hpw hch3).alloc _) ⟨w3.heap.size, 0, none⟩ 1 1 [.string (bs (Rd.text r1).1)] rfl rfl ?c1 ?c2 ?c3 ?c4 ?c5 ?_))
        case c1 => exact cell_one_new _ _ _
        case c2 => intro u hu; simp at hu; subst hu; rfl
        case c3 => unfold maxLen; omega
        case c4 => omega
        case c5 => have := hch3.size; simp; omega
        intro v4 w4 hown4 hgr4 _
        have hch4 : Chg [p] w w4 := by
          have hA := (hch.trans hch3).alloc (Obj.cells #[.string (bs (Rd.text r1).1)] 9)
          refine hA.step (Chg.of_grown hgr4) ?_
          intro b hb
          exact .inr (((own_chg hown hpw hch3).lt b (Option.mem_toList.1 hb)).1)
        have hr4 : RdAt w4 p 59 (Rd.text r1).2 := by
          have hA : RdAt (w3.alloc (Obj.cells #[.string (bs (Rd.text r1).1)] 9)) p 59 (Rd.text r1).2 := hr3.below ((Below.refl _ _).alloc (Nat.le_refl _) _)
          refine (Chg.of_grown hgr4).heap_some ?_ hA
          intro hm
          have := ((own_chg hown hpw hch3).lt p (Option.mem_toList.1 hm)).1
          omega
        have hcs : strs xs ++ [.string (bs (Rd.text r1).1)] = strs (xs ++ [(Rd.text r1).1]) := by simp [strs]
        have hln : xs.length + 1 = (xs ++ [(Rd.text r1).1]).length := by simp
        rw [hcs, hln] at hown4
        obtain ⟨da4, dc4, rfl⟩ := own_form hown4
        rw [← hln] at hown4 ⊢
        clear hgr4 hcs
        go_wp2
        go_roundw
        case rel =>
          refine ⟨xs ++ [(Rd.text r1).1], (Rd.text r1).2, ?_, by rw [← hln]; omega, by omega, ?_, ?_, by rw [← hln]; exact hown4, hr4, hch4⟩
          · rw [← hln]; simp
          · rw [← hln]; exact HSTEP
          · intro hb; rw [HB2.out] at hb; cases hb
        case measure => simp [intOf]; omega
      · have HE : Hid (r.list = ([], (Rd.text r1).2)) := by
          unfold Hid
          rw [HM.out, HSTEP.out, readN_bad _ _ _ hb2]
          simp [hb2]
        go_wp2_with fail
        refine (ce).mono ?_
        rintro e w3 ⟨rfl, hr3, hch3⟩
        have hc1 := hr3.c1
        rw [hb2] at hc1
        clear hb2
        go_wp2
        go_ret
        unfold ListPost
        rw [HE.out]
        exact ⟨none, 0, rfl, (by intro a ha; cases ha), (by intro hp; simp [strs] at hp), hr3, hch.trans hch3⟩
    · have hz : z - xs.length = 0 := by omega
      have HE : Hid (readN Rd.text z r2 = (xs, r1)) := by unfold Hid; rw [HR.out, hz]; simp [readN]
      have hxz' : xs.length = z := by omega
      have HEQ : Hid (r.list = (xs, r1)) := by
        unfold Hid
        rw [HM.out, HE.out]
        by_cases hb : r1.bad = true
        · have hz0 := HB.out hb
          have hx0 : xs = [] := List.eq_nil_of_length_eq_zero (by omega)
          simp [hb, hx0]
        · simp [hb]
      clear hz hxz
      have hlt' : decide ((xs.length : Int) < z) = false := by simp; omega
      have HX := Lib.hid hxz'
      clear hxz'
      go_wp2
      go_ret
      unfold ListPost
      rw [HEQ.out]
      exact ⟨da, dc, by simp [strs], own_fresh hown, row_of_own hown, hr1, hch⟩

set_option maxRecDepth 100000 in
set_option maxHeartbeats 800000 in
theorem rnums_rd (p : Nat) (r : Rd) (w : World) (h : RdAt w p 59 r) (hl : r.rest.length ≤ 1000000000) (hrok : r.ok) : Calls Try.prog 37 #[.pointer (some ⟨p, 0, none⟩)] w (ListPost w p 59 (ints (r.nums).1) (r.nums).2) := by
  obtain ⟨i0, hi, hz0, hz1, hz2⟩ := info_parts info3
  have cn := count_any p r w h hl
  have hzl := cnt_le hl
  have HM : Hid (r.nums = (if (readN Rd.int r.cnt r.counted).2.bad = true then [] else (readN Rd.int r.cnt r.counted).1, (readN Rd.int r.cnt r.counted).2)) := many_cnt r
  have hcb := Lib.hid (fun hb => cnt_bad hrok hb)
  have hr2l := Nat.le_trans r.counted_len hl
  generalize hz : r.cnt = z at *
  generalize hr2e : r.counted = r2 at *
  clear hz hr2e
  go_enter Try.func37, Try.ntmps37
  go_wp2_with (first | (go_at_call 54; refine (cn).mono ?_; rintro e w1 ⟨rfl, hr2, hch2⟩))
  go_loopw [4, 5] (fun v0 v1 wr => ∃ (xs : List Int) (r1 : Rd), v1 = .int .i64 xs.length ∧ xs.length ≤ z ∧ r1.rest.length ≤ 1000000000 ∧ Hid (readN Rd.int z r2 = (xs ++ (readN Rd.int (z - xs.length) r1).1, (readN Rd.int (z - xs.length) r1).2)) ∧ Hid (r1.bad = true → z = 0) ∧ wr.ownsRow w.heap.size 3 1 v0 xs.length (ints xs) ∧ RdAt wr p 59 r1 ∧ Chg [p] w wr) (fun _ v1 _ => z - (intOf v1).toNat)
  case atStart => exact ⟨[], r2, rfl, by simp, by omega, by unfold Hid; simp, hcb, ⟨by simp [ints], .inl ⟨rfl, rfl⟩⟩, hr2, hch2⟩
  case round =>
    obtain ⟨xs, r1, rfl, hxz, hr1l, HR, HB, hown, hr1, hch⟩ := hrel
    have hpw : p < w.heap.size := h.lt
    obtain ⟨da, dc, rfl⟩ := own_form hown
    by_cases hlt : xs.length < z
    · have hbad : r1.bad = false := by
        cases hb : r1.bad
        · rfl
        · have := HB.out hb; omega
      have HBAD := Lib.hid hbad
      have ce := rint_rd p r1 wr hr1 hr1l
      have hfl := Rd.int_len r1
      clear hbad
      have hchsz := hch.size
      have HSTEP : Hid (readN Rd.int z r2 = ((xs ++ [(Rd.int r1).1]) ++ (readN Rd.int (z - (xs.length + 1)) (Rd.int r1).2).1, (readN Rd.int (z - (xs.length + 1)) (Rd.int r1).2).2)) := by
        unfold Hid
        rw [HR.out, show z - xs.length = (z - (xs.length + 1)) + 1 by omega, readN_step _ _ _ HBAD.out]
        simp
      cases hb2 : (Rd.int r1).2.bad
      · have HB2 := Lib.hid hb2
        go_wp2_with fail
        refine (ce).mono ?_
        rintro e w3 ⟨rfl, hr3, hch3⟩
        have hc1 := hr3.c1
        rw [hb2] at hc1
        clear hb2
        go_wp2_with (first | (at_builtin; refine wpList_append_own _ rfl _ _ 23 rfl w.heap.size 3 i0 (.int .i64 0) 1 8 Try.underlying23 hi hz0 hz1 hz2 rfl (by decide) _ _ _ rfl ((own_chg hown hpw hch3).alloc _) ⟨w3.heap.size, 0, none⟩ 1 1 [.int .i64 (Rd.int r1).1] rfl rfl ?c1 ?c2 ?c3 ?c4 ?c5 ?_))
        case c1 => exact cell_one_new _ _ _
        case c2 => intro u hu; simp at hu; subst hu; rfl
        case c3 => unfold maxLen; omega
        case c4 => omega
        case c5 => have := hch3.size; simp; omega
        intro v4 w4 hown4 hgr4 _
        have hch4 : Chg [p] w w4 := by
          have hA := (hch.trans hch3).alloc (Obj.cells #[.int .i64 (Rd.int r1).1] 3)
          refine hA.step (Chg.of_grown hgr4) ?_
          intro b hb
          exact .inr (((own_chg hown hpw hch3).lt b (Option.mem_toList.1 hb)).1)
        have hr4 : RdAt w4 p 59 (Rd.int r1).2 := by
          have hA : RdAt (w3.alloc (Obj.cells #[.int .i64 (Rd.int r1).1] 3)) p 59 (Rd.int r1).2 := hr3.below ((Below.refl _ _).alloc (Nat.le_refl _) _)
          refine (Chg.of_grown hgr4).heap_some ?_ hA
          intro hm
          have := ((own_chg hown hpw hch3).lt p (Option.mem_toList.1 hm)).1
          omega
        have hcs : ints xs ++ [.int .i64 (Rd.int r1).1] = ints (xs ++ [(Rd.int r1).1]) := by simp [ints]
        have hln : xs.length + 1 = (xs ++ [(Rd.int r1).1]).length := by simp
        rw [hcs, hln] at hown4
        obtain ⟨da4, dc4, rfl⟩ := own_form hown4
        rw [← hln] at hown4 ⊢
        clear hgr4 hcs
        go_wp2
        go_roundw
        case rel =>
          refine ⟨xs ++ [(Rd.int r1).1], (Rd.int r1).2, ?_, by rw [← hln]; omega, by omega, ?_, ?_, by rw [← hln]; exact hown4, hr4, hch4⟩
          · rw [← hln]; simp
          · rw [← hln]; exact HSTEP
          · intro hb; rw [HB2.out] at hb; cases hb
        case measure => simp [intOf]; omega
      · have HE : Hid (r.nums = ([], (Rd.int r1).2)) := by
          unfold Hid
          rw [HM.out, HSTEP.out, readN_bad _ _ _ hb2]
          simp [hb2]
        go_wp2_with fail
        refine (ce).mono ?_
        rintro e w3 ⟨rfl, hr3, hch3⟩
        have hc1 := hr3.c1
        rw [hb2] at hc1
        clear hb2
        go_wp2
        go_ret
        unfold ListPost
        rw [HE.out]
        exact ⟨none, 0, rfl, (by intro a ha; cases ha), (by intro hp; simp [ints] at hp), hr3, hch.trans hch3⟩
    · have hz : z - xs.length = 0 := by omega
      have HE : Hid (readN Rd.int z r2 = (xs, r1)) := by unfold Hid; rw [HR.out, hz]; simp [readN]
      have hxz' : xs.length = z := by omega
      have HEQ : Hid (r.nums = (xs, r1)) := by
        unfold Hid
        rw [HM.out, HE.out]
        by_cases hb : r1.bad = true
        · have hz0 := HB.out hb
          have hx0 : xs = [] := List.eq_nil_of_length_eq_zero (by omega)
          simp [hb, hx0]
        · simp [hb]
      clear hz hxz
      have hlt' : decide ((xs.length : Int) < z) = false := by simp; omega
      have HX := Lib.hid hxz'
      clear hxz'
      go_wp2
      go_ret
      unfold ListPost
      rw [HEQ.out]
      exact ⟨da, dc, by simp [ints], own_fresh hown, row_of_own hown, hr1, hch⟩
end Go.Proofs.Ytckgnmloemnkcaa
