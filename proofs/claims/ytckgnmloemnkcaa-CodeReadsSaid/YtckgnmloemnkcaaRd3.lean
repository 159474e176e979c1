/- The reader's List and Nums (readList at both types), walked. -/
import Derived.Test.YtckgnmloemnkcaaRd2
namespace Go.Proofs.Ytckgnmloemnkcaa
open Go.ChangeShapes Go.WideShapes Go.ChangeAt Go.RowKit Go.Lib
set_option linter.unusedVariables false

/-- a list handed out, and what the reader is then -/
def ListPost (w : World) (p t : Nat) (xs : List Value) (r : Rd) (e : Ending) (w' : World) : Prop := ∃ A C, e = .returned (.slice A xs.length C) ∧ (∀ a, A = some a → w.heap.size ≤ a.block) ∧ RowAt w' A xs ∧ RdAt w' p t r ∧ Chg [p] w w'
theorem add_zero_off (g i : Nat) : (⟨g, 0, none⟩ : Addr).add i = ⟨g, 0 + i, none⟩ := by unfold Addr.add; split <;> simp_all
theorem row_of_own {w : World} {base n : Nat} {e : TypeId} {A : Option Addr} {m C : Nat} {xs : List Value} (h : w.ownsRow base e 1 (.slice A m C) n xs) : RowAt w A xs := by
  rcases h.2 with ⟨hv, hn⟩ | ⟨g, cap, cur, hv, _⟩
  · have h1 := h.1
    intro hp
    subst hn
    simp at h1
    subst h1
    simp at hp
  · have hc := h.cells (g := g) (by rw [hv]; rfl)
    cases hv
    intro hp
    refine ⟨g, 0, rfl, fun i x hx => ?_⟩
    have := hc i x hx
    rw [add_zero_off] at this
    simpa using this
theorem own_fresh {w : World} {base n : Nat} {e : TypeId} {A : Option Addr} {m C : Nat} {xs : List Value} (h : w.ownsRow base e 1 (.slice A m C) n xs) : ∀ a, A = some a → base ≤ a.block := by
  rcases h.2 with ⟨hv, hn⟩ | ⟨g, cap, cur, hv, hb, _⟩
  · cases hv; intro a ha; cases ha
  · cases hv; intro a ha; cases ha; exact hb
theorem own_len {w : World} {base n : Nat} {e : TypeId} {A : Option Addr} {m C : Nat} {xs : List Value} (h : w.ownsRow base e 1 (.slice A m C) n xs) : m = n := by
  rcases h.2 with ⟨hv, hn⟩ | ⟨g, cap, cur, hv, _⟩
  · cases hv; exact hn.symm
  · cases hv; rfl
theorem info9 : (Try.prog.info? 9).map (fun i => (i.zero, i.size, i.bytes)) = some (some (.string ⟨#[]⟩), 1, 16) := by kernel_rfl
theorem info3 : (Try.prog.info? 3).map (fun i => (i.zero, i.size, i.bytes)) = some (some (.int .i64 0), 1, 8) := by kernel_rfl
theorem readN_bad {α : Type} (f : Rd → α × Rd) (k : Nat) (r : Rd) (h : r.bad = true) : readN f k r = ([], r) := by
  cases k with
  | zero => rfl
  | succ k => unfold readN; rw [if_pos h]
theorem readN_step {α : Type} (f : Rd → α × Rd) (k : Nat) (r : Rd) (h : r.bad = false) : readN f (k + 1) r = ((f r).1 :: (readN f k (f r).2).1, (readN f k (f r).2).2) := by
  rw [readN, if_neg (by rw [h]; simp)]
theorem many_bad {α : Type} {f : Rd → α × Rd} {r r2 r1 : Rd} {z : Nat} {xs : List α} (h1 : r.num.1 = z) (h2 : r.counted = r2) (h3 : readN f z r2 = (xs, r1)) (hb : r1.bad = true) : r.many f = ([], r1) := by
  unfold Rd.many; rw [h1, h2, h3]; simp [hb]
theorem many_ok {α : Type} {f : Rd → α × Rd} {r r2 r1 : Rd} {z : Nat} {xs : List α} (h1 : r.num.1 = z) (h2 : r.counted = r2) (h3 : readN f z r2 = (xs, r1)) (hb : r1.bad = false) : r.many f = (xs, r1) := by
  unfold Rd.many; rw [h1, h2, h3]; simp [hb]
theorem own_chg {w w' : World} {base n size : Nat} {e : TypeId} {v : Value} {xs : List Value} {p : Nat} (h : w.ownsRow base e size v n xs) (hp : p < base) (hc : Chg [p] w w') : w'.ownsRow base e size v n xs := by
  refine ⟨h.1, ?_⟩
  rcases h.2 with hn | ⟨g, cap, cur, hv, hb, hg, h1, h2, h3, h4⟩
  · exact .inl hn
  · exact .inr ⟨g, cap, cur, hv, hb, hc.heap_some (by simp; omega) hg, h1, h2, h3, h4⟩
theorem Chg.of_grown {w w' : World} {g : Option Nat} (h : w.grownBy w' g) : Chg g.toList w w' := by
  cases g with
  | none => exact Chg.of_grownBy_none h
  | some b => exact Chg.of_grownBy h

set_option maxRecDepth 100000 in
set_option maxHeartbeats 800000 in
theorem readTexts (p : Nat) (r : Rd) (w : World) (h : RdAt w p 57 r) (hl : r.rest.length ≤ 1000000000) : Calls Try.prog 53 #[.pointer (some ⟨p, 0, none⟩), .func (.func 30) #[.pointer (some ⟨p, 0, none⟩)] #[]] w (ListPost w p 57 (strs (r.many Rd.text).1) (r.many Rd.text).2) := by
  obtain ⟨i0, hi, hz0, hz1, hz2⟩ := info_parts info9
  have cn := num_rd p r w h hl
  have hlt := r.num_lt
  have hnl := r.num_len
  obtain ⟨z, hz⟩ : ∃ z, r.num.1 = z := ⟨_, rfl⟩
  obtain ⟨rn, hrn⟩ : ∃ rn, r.num.2 = rn := ⟨_, rfl⟩
  rw [hz, hrn] at cn
  rw [hz] at hlt
  rw [hrn] at hnl
  have HZ := Lib.hid hz
  have HRN := Lib.hid hrn
  clear hz hrn
  have hrs := bs_size rn.rest
  by_cases hcnt : rn.rest.length < z
  · have HC : Hid (r.counted = Rd.fail) := by unfold Hid Rd.counted; rw [HRN.out, HZ.out, if_pos hcnt]
    go_enter Try.func53, Try.ntmps53
    go_wp2_with (first | (go_at_call 26; refine (cn).mono ?_; rintro e w1 ⟨rfl, hr1, hch1⟩; have h10 := hr1.c0) | (go_at_call 49; refine (fail_any p rn w1 hr1).mono ?_; rintro e w2 ⟨rfl, hr2, hch2'⟩))
    have hch2 := hch1.trans hch2'
    obtain ⟨r2, hr2e⟩ : ∃ r2, r2 = Rd.fail := ⟨_, rfl⟩
    have HE : Hid (readN Rd.text z r2 = ([], r2)) := by unfold Hid; rw [readN_bad _ _ _ (by rw [hr2e]; rfl)]
    have HB2 : Hid (r2.bad = true) := by rw [hr2e]; rfl
    rw [← hr2e] at hr2 HC
    clear hr2e hch2' hr1 h10
    go_loopw [6, 7] (fun v0 v1 wr => v0 = .slice none 0 0 ∧ v1 = .int .i64 0 ∧ RdAt wr p 57 r2 ∧ Chg [p] w wr) (fun _ v1 _ => 0)
    case atStart => exact ⟨rfl, rfl, hr2, hch2⟩
    case round =>
      obtain ⟨rfl, rfl, hr1, hch⟩ := hrel
      have hc1 := hr1.c1
      rw [HB2.out] at hc1
      have hzp : (0 : Int) < z := by omega
      go_wp2
      go_ret
      refine ⟨none, 0, ?_, (by intro a ha; cases ha), ?_, ?_, hch⟩
      · rw [many_bad HZ.out HC.out HE.out HB2.out]; rfl
      · rw [many_bad HZ.out HC.out HE.out HB2.out]; intro hp; simp [strs] at hp
      · rw [many_bad HZ.out HC.out HE.out HB2.out]; exact hr1
  · have HC : Hid (r.counted = rn) := by unfold Hid Rd.counted; rw [HRN.out, HZ.out, if_neg hcnt]
    have hzl : z ≤ 1000000000 := by omega
    have hr2l : rn.rest.length ≤ 1000000000 := by omega
    clear hlt hnl hl
    go_enter Try.func53, Try.ntmps53
    go_wp2_with (first | (go_at_call 26; refine (cn).mono ?_; rintro e w1 ⟨rfl, hr1, hch1⟩; have h10 := hr1.c0))
    obtain ⟨r2, hr2e⟩ : ∃ r2, r2 = rn := ⟨_, rfl⟩
    rw [← hr2e] at HC
    have hr2 : RdAt w1 p 57 r2 := by rw [hr2e]; exact hr1
    have hch2 := hch1
    have hr2l' : r2.rest.length ≤ 1000000000 := by rw [hr2e]; exact hr2l
    clear h10 hr1 hr2l hcnt

    go_loopw [6, 7] (fun v0 v1 wr => ∃ (xs : List (List UInt8)) (r1 : Rd), v1 = .int .i64 xs.length ∧ xs.length ≤ z ∧ r1.rest.length ≤ 1000000000 ∧ Hid (readN Rd.text z r2 = (xs ++ (readN Rd.text (z - xs.length) r1).1, (readN Rd.text (z - xs.length) r1).2)) ∧ wr.ownsRow w.heap.size 9 1 v0 xs.length (strs xs) ∧ RdAt wr p 57 r1 ∧ Chg [p] w wr) (fun _ v1 _ => z - (intOf v1).toNat)
    case atStart => exact ⟨[], r2, rfl, by simp, by omega, by unfold Hid; simp, ⟨by simp [strs], .inl ⟨rfl, rfl⟩⟩, hr2, hch2⟩
    case round =>
      obtain ⟨xs, r1, rfl, hxz, hr1l, HR, hown, hr1, hch⟩ := hrel
      have hc0 := hr1.c0
      have hc1 := hr1.c1
      have hpw : p < w.heap.size := h.lt
      obtain ⟨da, dc, rfl⟩ := own_form hown
      by_cases hlt : xs.length < z
      · cases hbad : r1.bad
        · have ce := text_rd p r1 wr hr1 hr1l
          have hfl := Rd.text_len r1
          rw [hbad] at hc1
          have HBAD := Lib.hid hbad
          clear hbad
          have hchsz := hch.size
          go_wp2_with (first | (go_at_call 30; refine (ce).mono ?_; rintro e w3 ⟨rfl, hr3, hch3⟩) | (at_builtin; refine wpList_append_own _ rfl _ _ 22 rfl w.heap.size 9 i0 (.string ⟨#[]⟩) 1 16 Try.underlying22 hi hz0 hz1 hz2 rfl (by decide) _ _ _ rfl ((own_chg hown hpw hch3).alloc _) ⟨w3.heap.size, 0, none⟩ 1 1 [.string (bs (Rd.text r1).1)] rfl rfl ?c1 ?c2 ?c3 ?c4 ?c5 ?_))
          case c1 => exact cell_one_new _ _ _
          case c2 => intro u hu; simp at hu; subst hu; rfl
          case c3 => unfold maxLen; omega
          case c4 => omega
          case c5 => have := hch3.size; simp; omega
          intro v4 w4 hown4 hgr4 _
          have hch4 : Chg [p] w w4 := by
            have hA := (hch.trans hch3).alloc (Obj.cells #[.string (bs (Rd.text r1).1)] 9)
            refine hA.step (Chg.of_grown hgr4) ?_
            intro b hb
            exact .inr (((own_chg hown hpw hch3).lt b (Option.mem_toList.1 hb)).1)
          have hr4 : RdAt w4 p 57 (Rd.text r1).2 := by
            have hA : RdAt (w3.alloc (Obj.cells #[.string (bs (Rd.text r1).1)] 9)) p 57 (Rd.text r1).2 := hr3.below ((Below.refl _ _).alloc (Nat.le_refl _) _)
            refine (Chg.of_grown hgr4).heap_some ?_ hA
            intro hm
            have := ((own_chg hown hpw hch3).lt p (Option.mem_toList.1 hm)).1
            omega
          have hcs : strs xs ++ [.string (bs (Rd.text r1).1)] = strs (xs ++ [(Rd.text r1).1]) := by simp [strs]
          have hln : xs.length + 1 = (xs ++ [(Rd.text r1).1]).length := by simp
          rw [hcs, hln] at hown4
          obtain ⟨da4, dc4, rfl⟩ := own_form hown4
          rw [← hln] at hown4 ⊢
          clear hgr4 hcs
          go_wp2
          go_roundw
          case rel =>
            refine ⟨xs ++ [(Rd.text r1).1], (Rd.text r1).2, ?_, by rw [← hln]; omega, by omega, ?_, by rw [← hln]; exact hown4, hr4, hch4⟩
            · rw [← hln]; simp
            · unfold Hid
              rw [HR.out, ← hln, show z - xs.length = (z - (xs.length + 1)) + 1 by omega, readN_step _ _ _ HBAD.out]
              simp
          case measure => simp [intOf]; omega
        · have HE : Hid (readN Rd.text z r2 = (xs, r1)) := by unfold Hid; rw [HR.out, readN_bad _ _ _ hbad]; simp
          rw [hbad] at hc1
          have HBAD := Lib.hid hbad
          clear hbad
          go_wp2
          go_ret
          refine ⟨none, 0, ?_, (by intro a ha; cases ha), ?_, ?_, hch⟩
          · rw [many_bad HZ.out HC.out HE.out HBAD.out]; rfl
          · rw [many_bad HZ.out HC.out HE.out HBAD.out]; intro hp; simp [strs] at hp
          · rw [many_bad HZ.out HC.out HE.out HBAD.out]; exact hr1
      · have hz : z - xs.length = 0 := by omega
        have HE : Hid (readN Rd.text z r2 = (xs, r1)) := by unfold Hid; rw [HR.out, hz]; simp [readN]
        have hxz' : xs.length = z := by omega
        clear hz hxz
        have hlt' : decide ((xs.length : Int) < z) = false := by simp; omega
        have HX := Lib.hid hxz'
        clear hxz'
        cases hbad : r1.bad
        · rw [hbad] at hc1
          have HBAD := Lib.hid hbad
          clear hbad
          go_wp2
          go_ret
          refine ⟨da, dc, ?_, own_fresh hown, ?_, ?_, hch⟩
          · rw [many_ok HZ.out HC.out HE.out HBAD.out]; simp [strs]
          · rw [many_ok HZ.out HC.out HE.out HBAD.out]; exact row_of_own hown
          · rw [many_ok HZ.out HC.out HE.out HBAD.out]; exact hr1
        · rw [hbad] at hc1
          have HBAD := Lib.hid hbad
          clear hbad
          go_wp2
          go_ret
          refine ⟨none, 0, ?_, (by intro a ha; cases ha), ?_, ?_, hch⟩
          · rw [many_bad HZ.out HC.out HE.out HBAD.out]; rfl
          · rw [many_bad HZ.out HC.out HE.out HBAD.out]; intro hp; simp [strs] at hp
          · rw [many_bad HZ.out HC.out HE.out HBAD.out]; exact hr1

theorem list_rd (p : Nat) (r : Rd) (w : World) (h : RdAt w p 57 r) (hl : r.rest.length ≤ 1000000000) : Calls Try.prog 33 #[.pointer (some ⟨p, 0, none⟩)] w (ListPost w p 57 (strs (r.list).1) (r.list).2) := by
  have c := readTexts p r w h hl
  have hmf : ∀ (fn : Fn) (first cap : Array Value) (w : World), (Instr.makeFunc fn first cap).run Try.prog w = .ok (.func fn first cap) w := fun _ _ _ _ => rfl
  have HN : Hid (r.list = r.many Rd.text) := rfl
  have h0 := h.c0
  clear h
  go_enter Try.func33, Try.ntmps33
  go_wp2_with (first | (go_at_call 53; refine (c).mono ?_; rintro e w1 ⟨A, C, rfl, hp⟩))
  go_ret
  unfold ListPost
  rw [HN.out]
  exact ⟨A, C, rfl, hp⟩

set_option maxRecDepth 100000 in
set_option maxHeartbeats 800000 in
theorem readInts (p : Nat) (r : Rd) (w : World) (h : RdAt w p 57 r) (hl : r.rest.length ≤ 1000000000) : Calls Try.prog 55 #[.pointer (some ⟨p, 0, none⟩), .func (.func 28) #[.pointer (some ⟨p, 0, none⟩)] #[]] w (ListPost w p 57 (ints (r.many Rd.int).1) (r.many Rd.int).2) := by
  obtain ⟨i0, hi, hz0, hz1, hz2⟩ := info_parts info3
  have cn := num_rd p r w h hl
  have hlt := r.num_lt
  have hnl := r.num_len
  obtain ⟨z, hz⟩ : ∃ z, r.num.1 = z := ⟨_, rfl⟩
  obtain ⟨rn, hrn⟩ : ∃ rn, r.num.2 = rn := ⟨_, rfl⟩
  rw [hz, hrn] at cn
  rw [hz] at hlt
  rw [hrn] at hnl
  have HZ := Lib.hid hz
  have HRN := Lib.hid hrn
  clear hz hrn
  have hrs := bs_size rn.rest
  by_cases hcnt : rn.rest.length < z
  · have HC : Hid (r.counted = Rd.fail) := by unfold Hid Rd.counted; rw [HRN.out, HZ.out, if_pos hcnt]
    go_enter Try.func55, Try.ntmps55
    go_wp2_with (first | (go_at_call 26; refine (cn).mono ?_; rintro e w1 ⟨rfl, hr1, hch1⟩; have h10 := hr1.c0) | (go_at_call 49; refine (fail_any p rn w1 hr1).mono ?_; rintro e w2 ⟨rfl, hr2, hch2'⟩))
    have hch2 := hch1.trans hch2'
    obtain ⟨r2, hr2e⟩ : ∃ r2, r2 = Rd.fail := ⟨_, rfl⟩
    have HE : Hid (readN Rd.int z r2 = ([], r2)) := by unfold Hid; rw [readN_bad _ _ _ (by rw [hr2e]; rfl)]
    have HB2 : Hid (r2.bad = true) := by rw [hr2e]; rfl
    rw [← hr2e] at hr2 HC
    clear hr2e hch2' hr1 h10
    go_loopw [6, 7] (fun v0 v1 wr => v0 = .slice none 0 0 ∧ v1 = .int .i64 0 ∧ RdAt wr p 57 r2 ∧ Chg [p] w wr) (fun _ v1 _ => 0)
    case atStart => exact ⟨rfl, rfl, hr2, hch2⟩
    case round =>
      obtain ⟨rfl, rfl, hr1, hch⟩ := hrel
      have hc1 := hr1.c1
      rw [HB2.out] at hc1
      have hzp : (0 : Int) < z := by omega
      go_wp2
      go_ret
      refine ⟨none, 0, ?_, (by intro a ha; cases ha), ?_, ?_, hch⟩
      · rw [many_bad HZ.out HC.out HE.out HB2.out]; rfl
      · rw [many_bad HZ.out HC.out HE.out HB2.out]; intro hp; simp [ints] at hp
      · rw [many_bad HZ.out HC.out HE.out HB2.out]; exact hr1
  · have HC : Hid (r.counted = rn) := by unfold Hid Rd.counted; rw [HRN.out, HZ.out, if_neg hcnt]
    have hzl : z ≤ 1000000000 := by omega
    have hr2l : rn.rest.length ≤ 1000000000 := by omega
    clear hlt hnl hl
    go_enter Try.func55, Try.ntmps55
    go_wp2_with (first | (go_at_call 26; refine (cn).mono ?_; rintro e w1 ⟨rfl, hr1, hch1⟩; have h10 := hr1.c0))
    obtain ⟨r2, hr2e⟩ : ∃ r2, r2 = rn := ⟨_, rfl⟩
    rw [← hr2e] at HC
    have hr2 : RdAt w1 p 57 r2 := by rw [hr2e]; exact hr1
    have hch2 := hch1
    have hr2l' : r2.rest.length ≤ 1000000000 := by rw [hr2e]; exact hr2l
    clear h10 hr1 hr2l hcnt

    go_loopw [6, 7] (fun v0 v1 wr => ∃ (xs : List Int) (r1 : Rd), v1 = .int .i64 xs.length ∧ xs.length ≤ z ∧ r1.rest.length ≤ 1000000000 ∧ Hid (readN Rd.int z r2 = (xs ++ (readN Rd.int (z - xs.length) r1).1, (readN Rd.int (z - xs.length) r1).2)) ∧ wr.ownsRow w.heap.size 3 1 v0 xs.length (ints xs) ∧ RdAt wr p 57 r1 ∧ Chg [p] w wr) (fun _ v1 _ => z - (intOf v1).toNat)
    case atStart => exact ⟨[], r2, rfl, by simp, by omega, by unfold Hid; simp, ⟨by simp [ints], .inl ⟨rfl, rfl⟩⟩, hr2, hch2⟩
    case round =>
      obtain ⟨xs, r1, rfl, hxz, hr1l, HR, hown, hr1, hch⟩ := hrel
      have hc0 := hr1.c0
      have hc1 := hr1.c1
      have hpw : p < w.heap.size := h.lt
      obtain ⟨da, dc, rfl⟩ := own_form hown
      by_cases hlt : xs.length < z
      · cases hbad : r1.bad
        · have ce := int_rd p r1 wr hr1 hr1l
          have hfl := Rd.int_len r1
          rw [hbad] at hc1
          have HBAD := Lib.hid hbad
          clear hbad
          have hchsz := hch.size
          go_wp2_with (first | (go_at_call 28; refine (ce).mono ?_; rintro e w3 ⟨rfl, hr3, hch3⟩) | (at_builtin; refine wpList_append_own _ rfl _ _ 23 rfl w.heap.size 3 i0 (.int .i64 0) 1 8 Try.underlying23 hi hz0 hz1 hz2 rfl (by decide) _ _ _ rfl ((own_chg hown hpw hch3).alloc _) ⟨w3.heap.size, 0, none⟩ 1 1 [.int .i64 (Rd.int r1).1] rfl rfl ?c1 ?c2 ?c3 ?c4 ?c5 ?_))
          case c1 => exact cell_one_new _ _ _
          case c2 => intro u hu; simp at hu; subst hu; rfl
          case c3 => unfold maxLen; omega
          case c4 => omega
          case c5 => have := hch3.size; simp; omega
          intro v4 w4 hown4 hgr4 _
          have hch4 : Chg [p] w w4 := by
            have hA := (hch.trans hch3).alloc (Obj.cells #[.int .i64 (Rd.int r1).1] 3)
            refine hA.step (Chg.of_grown hgr4) ?_
            intro b hb
            exact .inr (((own_chg hown hpw hch3).lt b (Option.mem_toList.1 hb)).1)
          have hr4 : RdAt w4 p 57 (Rd.int r1).2 := by
            have hA : RdAt (w3.alloc (Obj.cells #[.int .i64 (Rd.int r1).1] 3)) p 57 (Rd.int r1).2 := hr3.below ((Below.refl _ _).alloc (Nat.le_refl _) _)
            refine (Chg.of_grown hgr4).heap_some ?_ hA
            intro hm
            have := ((own_chg hown hpw hch3).lt p (Option.mem_toList.1 hm)).1
            omega
          have hcs : ints xs ++ [.int .i64 (Rd.int r1).1] = ints (xs ++ [(Rd.int r1).1]) := by simp [ints]
          have hln : xs.length + 1 = (xs ++ [(Rd.int r1).1]).length := by simp
          rw [hcs, hln] at hown4
          obtain ⟨da4, dc4, rfl⟩ := own_form hown4
          rw [← hln] at hown4 ⊢
          clear hgr4 hcs
          go_wp2
          go_roundw
          case rel =>
            refine ⟨xs ++ [(Rd.int r1).1], (Rd.int r1).2, ?_, by rw [← hln]; omega, by omega, ?_, by rw [← hln]; exact hown4, hr4, hch4⟩
            · rw [← hln]; simp
            · unfold Hid
              rw [HR.out, ← hln, show z - xs.length = (z - (xs.length + 1)) + 1 by omega, readN_step _ _ _ HBAD.out]
              simp
          case measure => simp [intOf]; omega
        · have HE : Hid (readN Rd.int z r2 = (xs, r1)) := by unfold Hid; rw [HR.out, readN_bad _ _ _ hbad]; simp
          rw [hbad] at hc1
          have HBAD := Lib.hid hbad
          clear hbad
          go_wp2
          go_ret
          refine ⟨none, 0, ?_, (by intro a ha; cases ha), ?_, ?_, hch⟩
          · rw [many_bad HZ.out HC.out HE.out HBAD.out]; rfl
          · rw [many_bad HZ.out HC.out HE.out HBAD.out]; intro hp; simp [ints] at hp
          · rw [many_bad HZ.out HC.out HE.out HBAD.out]; exact hr1
      · have hz : z - xs.length = 0 := by omega
        have HE : Hid (readN Rd.int z r2 = (xs, r1)) := by unfold Hid; rw [HR.out, hz]; simp [readN]
        have hxz' : xs.length = z := by omega
        clear hz hxz
        have hlt' : decide ((xs.length : Int) < z) = false := by simp; omega
        have HX := Lib.hid hxz'
        clear hxz'
        cases hbad : r1.bad
        · rw [hbad] at hc1
          have HBAD := Lib.hid hbad
          clear hbad
          go_wp2
          go_ret
          refine ⟨da, dc, ?_, own_fresh hown, ?_, ?_, hch⟩
          · rw [many_ok HZ.out HC.out HE.out HBAD.out]; simp [ints]
          · rw [many_ok HZ.out HC.out HE.out HBAD.out]; exact row_of_own hown
          · rw [many_ok HZ.out HC.out HE.out HBAD.out]; exact hr1
        · rw [hbad] at hc1
          have HBAD := Lib.hid hbad
          clear hbad
          go_wp2
          go_ret
          refine ⟨none, 0, ?_, (by intro a ha; cases ha), ?_, ?_, hch⟩
          · rw [many_bad HZ.out HC.out HE.out HBAD.out]; rfl
          · rw [many_bad HZ.out HC.out HE.out HBAD.out]; intro hp; simp [ints] at hp
          · rw [many_bad HZ.out HC.out HE.out HBAD.out]; exact hr1

theorem nums_rd (p : Nat) (r : Rd) (w : World) (h : RdAt w p 57 r) (hl : r.rest.length ≤ 1000000000) : Calls Try.prog 36 #[.pointer (some ⟨p, 0, none⟩)] w (ListPost w p 57 (ints (r.nums).1) (r.nums).2) := by
  have c := readInts p r w h hl
  have hmf : ∀ (fn : Fn) (first cap : Array Value) (w : World), (Instr.makeFunc fn first cap).run Try.prog w = .ok (.func fn first cap) w := fun _ _ _ _ => rfl
  have HN : Hid (r.nums = r.many Rd.int) := rfl
  have h0 := h.c0
  clear h
  go_enter Try.func36, Try.ntmps36
  go_wp2_with (first | (go_at_call 55; refine (c).mono ?_; rintro e w1 ⟨A, C, rfl, hp⟩))
  go_ret
  unfold ListPost
  rw [HN.out]
  exact ⟨A, C, rfl, hp⟩
end Go.Proofs.Ytckgnmloemnkcaa
