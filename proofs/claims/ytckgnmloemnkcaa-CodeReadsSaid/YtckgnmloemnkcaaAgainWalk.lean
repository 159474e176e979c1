/- CodeAgain, walked: it answers true. -/
import Derived.Test.YtckgnmloemnkcaaCutWalk
namespace Go.Proofs.Ytckgnmloemnkcaa
open Go.ChangeShapes Go.WideShapes Go.ChangeAt Go.RowKit Go.Lib
set_option linter.unusedVariables false

theorem read_wf (r : Rd) {k : Int} (h : 0 ≤ k ∧ k ≤ 4) : (r.read k).1.wf := by
  have hd : k = 0 ∨ k = 1 ∨ k = 2 ∨ k = 3 ∨ k = 4 := by omega
  have h1 := r.num_lt
  have h2 := r.int_wf
  unfold lim at h2
  rcases hd with rfl | rfl | rfl | rfl | rfl
  · exact (show (V.mk 0 (r.num.1 : Int) [] [] []).wf from ⟨by simp, by simp, by simp only; omega, by simp only; omega, by simp⟩)
  · exact (show (V.mk 1 r.int.1 [] [] []).wf from ⟨by simp, by simp, by simp only; omega, by simp only; omega, by simp⟩)
  · exact (show (V.mk 2 0 r.text.1 [] []).wf from ⟨by simp, by simp, by simp, by simp, by simp⟩)
  · exact (show (V.mk 3 0 [] r.list.1 []).wf from ⟨by simp, by simp, by simp, by simp, by simp⟩)
  · refine (show (V.mk 4 0 [] [] r.nums.1).wf from ⟨by simp, by simp, by simp, by simp, fun x hx => ?_⟩)
    have key : ∀ (j : Nat) (q : Rd), ∀ x, x ∈ (readN Rd.int j q).1 → -lim ≤ x ∧ x ≤ lim := by
      intro j
      induction j with
      | zero => intro q x hx; simp [readN] at hx
      | succ j ih =>
        intro q x hx
        unfold readN at hx
        split at hx
        · simp at hx
        · rcases List.mem_cons.1 hx with rfl | hx
          · exact q.int_wf
          · exact ih _ x hx
    have hx' : x ∈ r.nums.1 := hx
    unfold Rd.nums Rd.many at hx'
    simp only at hx'
    split at hx'
    · simp at hx'
    · have := key _ _ x hx'
      unfold lim at this
      omega
theorem flatMap_len_mem {α : Type} (f : α → List UInt8) (l : List α) {x : α} (h : x ∈ l) : (f x).length ≤ (l.flatMap f).length := by
  induction l with
  | nil => cases h
  | cons a l ih =>
    simp only [List.flatMap_cons, List.length_append]
    rcases List.mem_cons.1 h with rfl | h
    · omega
    · have := ih h; omega
theorem read_mid {r : Rd} {k : Int} (h : 0 ≤ k ∧ k ≤ 4) (hc : (r.read k).1.codec) (hl : (r.read k).1.write.length ≤ 10000) : (r.read k).1.mid := by
  have hd : k = 0 ∨ k = 1 ∨ k = 2 ∨ k = 3 ∨ k = 4 := by omega
  rcases hd with rfl | rfl | rfl | rfl | rfl
  · exact ⟨Nat.zero_le _, Nat.zero_le _, Nat.zero_le _, fun s hs => by cases hs⟩
  · exact ⟨Nat.zero_le _, Nat.zero_le _, Nat.zero_le _, fun s hs => by cases hs⟩
  · refine ⟨Nat.zero_le _, ?_, Nat.zero_le _, fun s hs => by cases hs⟩
    have hl' : (textL r.text.1).length ≤ 10000 := hl
    unfold textL at hl'
    simp only [List.length_append] at hl'
    show r.text.1.length ≤ 10000
    omega
  · have hl' : (listL r.list.1).length ≤ 10000 := hl
    obtain ⟨h1, h2⟩ := hc.c3 rfl
    have h1' : ∀ s, s ∈ r.list.1 → s.length < 9223372036854775808 := h1
    have hf := flat_len textCodec r.list.1 h1'
    unfold listL at hl'
    simp only [List.length_append] at hl'
    refine ⟨Nat.zero_le _, Nat.zero_le _, ?_, fun s hs => ?_⟩
    · show r.list.1.length ≤ 10000
      omega
    · have hs' : s ∈ r.list.1 := hs
      have h3 := flatMap_len_mem textL r.list.1 hs'
      unfold textL at h3 hl'
      simp only [List.length_append] at h3
      omega
  · have hl' : (numsL r.nums.1).length ≤ 10000 := hl
    obtain ⟨h1, h2⟩ := hc.c4 rfl
    have h1' : ∀ s, s ∈ r.nums.1 → -lim ≤ s ∧ s ≤ lim := h1
    have hf := flat_len intCodec r.nums.1 h1'
    unfold numsL at hl'
    simp only [List.length_append] at hl'
    refine ⟨?_, Nat.zero_le _, Nat.zero_le _, fun s hs => by cases hs⟩
    show r.nums.1.length ≤ 10000
    omega
theorem Chg.to_below {w w1 w' : World} {p : Nat} (hb : Below w.heap.size w w1) (hc : Chg [p] w1 w') (hp : w.heap.size ≤ p) : Below w.heap.size w w' :=
  ((Chg.of_below hb []).step hc (by intro b hb; simp at hb; omega)).below
set_option maxRecDepth 100000 in
set_option maxHeartbeats 1600000 in
theorem again_any (s : List UInt8) (ks : List Int) (A : Option Addr) (C : Nat) (w : World) (hk : RowAt w A (ints ks)) :
    Calls Try.prog 6 #[.string (bs s), .slice A ks.length C] w (BoolPost w true) := by
  have cs := small_any w
  have hss := bs_size s
  by_cases hs5 : 5000 < s.length
  · have hq : decide (5000 < (s.length : Int)) = true := decide_eq_true (by omega)
    go_enter Try.func6, Try.ntmps6
    go_wp2_with (go_at_call 10; refine cs.mono ?_; rintro e w1 ⟨rfl, hb1⟩)
    go_ret
    exact ⟨rfl, hb1⟩
  have hq : decide (5000 < (s.length : Int)) = false := decide_eq_false (by omega)
  by_cases hk20 : 20 < ks.length
  · have hq2 : decide (20 < (ks.length : Int)) = true := decide_eq_true (by omega)
    go_enter Try.func6, Try.ntmps6
    go_wp2_with (go_at_call 10; refine cs.mono ?_; rintro e w1 ⟨rfl, hb1⟩)
    go_ret
    exact ⟨rfl, hb1⟩
  have hq2 : decide (20 < (ks.length : Int)) = false := decide_eq_false (by omega)
  go_enter Try.func6, Try.ntmps6
  go_wp2_with fail
  refine cs.mono ?_
  rintro e w1 ⟨rfl, hb1⟩
  go_wp2_with fail
  refine (open_rd s w1).mono ?_
  rintro e w2 ⟨rfl, hr2, hb2⟩
  have hw2 := hb1.trans (hb2.mono hb1.size)
  have hp1 : w.heap.size ≤ w1.heap.size := hb1.size
  obtain ⟨p, hp⟩ : ∃ p, p = w1.heap.size := ⟨_, rfl⟩
  rw [← hp] at hr2 hp1 ⊢
  clear hb1 hb2 hp cs
  go_wp2_with fail
  go_loopw [7, 8] (fun v0 v1 wr => ∃ (i : Nat) (r1 : Rd) (t : List UInt8), v0 = .string (bs t) ∧ v1 = .int .i64 i ∧ i ≤ ks.length ∧ s = t ++ r1.rest ∧ r1.bad = false ∧ RdAt wr p 57 r1 ∧ Below w.heap.size w wr) (fun _ v1 _ => ks.length - (intOf v1).toNat)
  case atStart => exact ⟨0, ⟨s, false⟩, [], rfl, rfl, by omega, by simp, rfl, hr2, hw2⟩
  case round =>
    obtain ⟨i, r1, t, rfl, rfl, hi, hst, hbad, hr1, hbel⟩ := hrel
    have HST := Lib.hid hst
    have HBAD := Lib.hid hbad
    have hr1l : r1.rest.length ≤ 5000 := by have := congrArg List.length hst; simp only [List.length_append] at this; omega
    have htl : t.length ≤ 5000 := by have := congrArg List.length hst; simp only [List.length_append] at this; omega
    clear hst hbad
    by_cases hlt : i < ks.length
    · obtain ⟨x, hx⟩ : ∃ x, ks[i]? = some x := ⟨_, List.getElem?_eq_getElem hlt⟩
      obtain ⟨bx, ox, rfl, hcx⟩ := (hk.below hbel).at (ints_get hx)
      have hk5 : 0 ≤ x % 5 ∧ x % 5 ≤ 4 := by omega
      clear hx
      go_wp2_with fail
      refine (kind_any x _ _ _ _ wr).mono ?_
      rintro e w3 ⟨rfl, hb3⟩
      have hr3 := hr1.below hb3
      have hw3 := hbel.trans (hb3.mono hbel.size)
      clear hb3 hr1 hbel hcx
      go_wp2_with fail
      refine (read_any p r1 (x % 5) w3 hr3 (by omega) hk5).mono ?_
      rintro e w4 ⟨⟨q, rfl, hv4, hqA, hqB⟩, hr4, hch4⟩
      have hw4 := Chg.to_below hw3 hch4 hp1
      have hok := read_ok (r := r1) hk5 (by intro h; rw [HBAD.out] at h; cases h)
      have hdec := read_dec (r := r1) hk5
      have hwf := read_wf r1 hk5
      have hmid := read_mid (r := r1) hk5
      have hlen := read_len (r := r1) hk5
      obtain ⟨v, hv⟩ : ∃ v, (r1.read (x % 5)).1 = v := ⟨_, rfl⟩
      obtain ⟨r2, hrr⟩ : ∃ r2, (r1.read (x % 5)).2 = r2 := ⟨_, rfl⟩
      rw [hv] at hv4 hdec hwf hmid ⊢
      rw [hrr] at hr4 hok hdec hlen
      clear hv hrr hr3 hw3 hch4
      go_wp2_with fail
      obtain ⟨w5, hw5e⟩ : ∃ w5, w5 = w4.alloc (.cells #[.int .i64 v.k, .int .i64 v.n, .string (bs v.s), .slice q.A v.l.length q.C, .slice q.B v.m.length q.D] 45) := ⟨_, rfl⟩
      have hb5 : Below w4.heap.size w4 w5 := by rw [hw5e]; exact (Below.refl _ _).alloc (Nat.le_refl _) _
      have hv5 : ValAt w5 w4.heap.size v q := by rw [hw5e]; exact ValAt.new w4 v q
      rw [← hw5e]
      have hr5 := hr4.below hb5
      have hw5 := hw4.trans (hb5.mono hw4.size)
      have hv5b : VAt w5 v q := hv4.below hb5
      obtain ⟨g, hg⟩ : ∃ g, g = w4.heap.size := ⟨_, rfl⟩
      rw [← hg] at hv5 ⊢
      clear hw5e hr4 hw4 hv4 hb5 hg hqA hqB
      have f0 := hv5.f0
      have f1 := hv5.f1
      have f2 := hv5.f2
      have f3 := hv5.f3
      have f4 := hv5.f4
      refine (left_any p r2 w5 hr5).mono ?_
      rintro e w5' ⟨rfl, rfl⟩
      cases hb : r2.bad
      · obtain ⟨d1, d2, d3⟩ := hdec hb
        have HB := Lib.hid hb
        have hwl : v.write.length ≤ 5000 := by have := congrArg List.length d1; simp only [List.length_append] at this; omega
        have hmid' := hmid d2 (by omega)
        have HS2 : Hid (s = (t ++ v.write) ++ r2.rest) := by unfold Hid; rw [HST.out, d1, List.append_assoc]
        have hN : (s.length : Int) - (r2.rest.length : Int) = ((t ++ v.write).length : Int) := by have := congrArg List.length HS2.out; rw [List.length_append] at this; omega
        have hNs : (t ++ v.write).length ≤ s.length := by have := congrArg List.length HS2.out; rw [List.length_append] at this; omega
        have hex : (bs s).extract 0 (t ++ v.write).length = bs (t ++ v.write) := by
          rw [bs_extract, HS2.out, List.drop_zero, Nat.sub_zero, List.take_left]
        have ha := bs_append t v.write
        have hno : ¬ (9223372036854775807 < (bs t).size + (bs v.write).size) := by rw [bs_size, bs_size]; omega
        have ht1 := bs_toList (t ++ v.write)
        have hlq : (t ++ v.write).length = t.length + v.write.length := List.length_append
        clear hb hdec hmid d1 d2 d3 hok hlq
        generalize hT : t ++ v.write = T at *
        by_cases hz : r2.rest.length = 0
        · have hzb : ((r2.rest.length : Int) == 0) = true := by rw [hz]; rfl
          have hd : r2.done = true := by unfold Rd.done; rw [HB.out]; simp; exact List.eq_nil_of_length_eq_zero hz
          clear hz
          go_wp2_with fail
          refine (done_rd p r2 w5' hr5).mono ?_
          rintro e w5'' ⟨rfl, rfl⟩
          go_wp2_with fail
          refine (write_any v q _ hv5b hwf hmid').mono ?_
          rintro e w6 ⟨rfl, hb6⟩
          have hr6 := hr5.below hb6
          have hw6 := hw5.trans (hb6.mono hw5.size)
          go_wp2
          go_roundw
          case rel => exact ⟨i + 1, r2, T, rfl, by go_num, by omega, HS2.out, HB.out, hr6, hw6⟩
          case measure => simp [intOf]; omega
        · have hzb : ((r2.rest.length : Int) == 0) = false := by simp; intro h; rw [h] at hz; simp at hz
          clear hz
          go_wp2_with fail
          refine (write_any v q _ hv5b hwf hmid').mono ?_
          rintro e w6 ⟨rfl, hb6⟩
          have hr6 := hr5.below hb6
          have hw6 := hw5.trans (hb6.mono hw5.size)
          go_wp2
          go_roundw
          case rel => exact ⟨i + 1, r2, T, rfl, by go_num, by omega, HS2.out, HB.out, hr6, hw6⟩
          case measure => simp [intOf]; omega
      · have hr0 : r2 = Rd.fail := by
          have h := hok hb
          obtain ⟨rest, bad⟩ := r2
          simp only at h hb
          rw [h, hb]; rfl
        subst hr0
        have d3 : Rd.fail.done = false := rfl
        have d4 : Rd.fail.rest = [] := rfl
        have x1 : Rd.fail.num = (0, Rd.fail) := rfl
        have x2 : Rd.fail.take 0 = ([], Rd.fail) := rfl
        have x3 : Rd.fail.list = ([], Rd.fail) := rfl
        have l0 : (strs []).length = 0 := rfl
        have tt : (bs []).toList = [] := bs_toList _
        clear hb hdec hmid hok hlen
        go_wp2_with fail
        refine (done_rd p _ w5' hr5).mono ?_
        rintro e w6 ⟨rfl, rfl⟩
        have c7 := num_rd p _ w6 hr5 (by decide)
        rw [x1] at c7
        go_wp2_with fail
        refine (Calls.mono c7 ?_)
        rintro e w7 ⟨rfl, hr7, hch7⟩
        have hw7 := Chg.to_below hw5 hch7 hp1
        have c8 := take_rd p _ 0 w7 hr7 (by decide)
        rw [x2] at c8
        clear c7
        go_wp2_with fail
        refine (Calls.mono c8 ?_)
        rintro e w8 ⟨rfl, hr8, hch8⟩
        have hw8 := Chg.to_below hw7 hch8 hp1
        have c9 := list_rd p _ w8 hr8 (by decide)
        rw [x3] at c9
        clear c8
        go_wp2_with fail
        refine (Calls.mono c9 ?_)
        rintro e w9 ⟨A9, C9, rfl, _, _, hr9, hch9⟩
        have hw9 := Chg.to_below hw8 hch9 hp1
        clear c9 x1 x2 x3
        go_wp2_with fail
        refine (done_rd p _ w9 hr9).mono ?_
        rintro e w10 ⟨rfl, rfl⟩
        go_wp2
        go_ret
        exact ⟨rfl, hw9⟩
    · go_wp2
      go_ret
      exact ⟨rfl, hbel⟩
end Go.Proofs.Ytckgnmloemnkcaa
