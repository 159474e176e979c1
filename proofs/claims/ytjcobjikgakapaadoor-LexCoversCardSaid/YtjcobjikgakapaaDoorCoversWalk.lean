/- LexCovers, walked: it answers true. -/
import Derived.Test.YtjcobjikgakapaaDoorWritesWalk
import Derived.Deep.DeepCutAuto
namespace Go.Proofs.YtjcobjikgakapaaDoor
open Go.ChangeShapes Go.WideShapes Go.ChangeAt Go.RowKit Go.Lib
set_option linter.unusedVariables false

set_option maxRecDepth 100000 in
set_option maxHeartbeats 1000000 in
theorem covers_long (l : List UInt8) (w : World) (h : 5000 < l.length) (hl : l.length ≤ 281474976710656) (cs : Calls Tryd.prog 9 #[] w (BoolPost w true)) : Calls Tryd.prog 4 #[.string (bs l)] w (BoolPost w true) := by
  have hs := bs_size l
  have d1 : decide (5000 < (l.length : Int)) = true := decide_eq_true (by omega)
  clear h
  go_enter Tryd.func4, Tryd.ntmps4
  go_wp2_with fail
  refine cs.mono ?_
  rintro e w1 ⟨rfl, hb1⟩
  go_wp2
  go_ret
  exact ⟨rfl, hb1⟩
set_option maxRecDepth 100000 in
set_option maxHeartbeats 1000000 in
theorem covers_err (l : List UInt8) (r k : Int) (b : Bool) (w : World) (h : l.length ≤ 5000) (hR : scanR l = ([], r, k)) (hr : (r = 7 ∧ k = 0 ∧ b = true) ∨ (r = 2 ∧ b = false)) (hb : decide (4096 < (l.length : Int)) = b) (hL : Laid w) : Calls Tryd.prog 4 #[.string (bs l)] w (BoolPost w true) := by
  have hs := bs_size l
  have d1 : decide (5000 < (l.length : Int)) = false := decide_eq_false (by omega)
  have cs := small_any w hL
  have c1 := fun W hW => scan_o l _ hR (by omega) W hW
  clear hR
  rcases hr with ⟨rfl, rfl, rfl⟩ | ⟨rfl, rfl⟩
  all_goals
    go_enter Tryd.func4, Tryd.ntmps4
    go_wp2_with fail
    refine cs.mono ?_
    rintro e w1 ⟨rfl, hb1⟩
    go_wp2_with fail
    refine (Calls.mono (c1 _ (hL.below hb1)) ?_)
    rintro e w2 ⟨a1, k1, rfl, hT1, hbx⟩
    have hb2 := hb1.trans (hbx.mono hb1.size)
    clear hbx hb1 hT1
    go_wp2
    go_ret
    exact ⟨rfl, hb2⟩
set_option maxRecDepth 100000 in
set_option maxHeartbeats 4000000 in
theorem covers_ok (l : List UInt8) (ts us : List Tok) (N : Nat) (w : World) (h : l.length ≤ 4096) (hR : scanR l = (ts, 0, 0)) (hts : ts = us ++ [⟨4, [], 0, (l.length : Nat)⟩]) (hN : us.length = N) (hN2 : N ≤ 5000) (hC : Cov l 0 ts) (hwf : ∀ t ∈ ts, wf64 t.n) (hL : Laid w) :
    Calls Tryd.prog 4 #[.string (bs l)] w (BoolPost w true) := by
  have hs := bs_size l
  have d1 : decide (5000 < (l.length : Int)) = false := decide_eq_false (by omega)
  have cs := small_any w hL
  have hTN : ts.length = N + 1 := by rw [hts, List.length_append, hN]; rfl
  have hlast : ts[N]? = some ⟨4, [], 0, (l.length : Nat)⟩ := by rw [hts, ← hN]; simp
  have c1 : ∀ W, Laid W → Calls Tryd.prog 10 #[.string (bs l)] W (fun e w' => ∃ a c, e = .returned (.tuple #[.slice a (N + 1) c, .int .i64 0, .int .i64 0]) ∧ TokR w' a ts ∧ Below W.heap.size W w') := fun W hW => by
    refine (scan_o l _ hR (by omega) W hW).mono ?_
    rintro e w' ⟨a, c, rfl, ht, hb⟩
    exact ⟨a, c, by rw [← hTN], ht, hb⟩
  have hN0 : ((N : Int) + 1 == 0) = false := beq_eq_false_iff_ne.2 (by omega)
  have HC := Lib.hid hC
  have HW := Lib.hid hwf
  have HT := Lib.hid hTN
  have HLA := Lib.hid hlast
  have HLw := Lib.hid hL
  clear hR hC hts hN hwf hTN hlast
  go_enter Tryd.func4, Tryd.ntmps4
  go_wp2_with fail
  refine cs.mono ?_
  rintro e w1 ⟨rfl, hb1⟩
  go_wp2_with fail
  refine (Calls.mono (c1 _ (hL.below hb1)) ?_)
  rintro e w2 ⟨a1, k1, rfl, hT1, hbx⟩
  have hb2 := hb1.trans (hbx.mono hb1.size)
  obtain ⟨g, p, rfl, hg, z0, z1, z2, z3⟩ := hT1 N _ HLA.out
  replace z1 : w2.cell? ⟨g, p + N * 4 + 1, none⟩ = some (.string ⟨#[]⟩) := z1
  have HT1 := Lib.hid hT1
  have HB2 := Lib.hid hb2
  clear hbx hb1 hT1 c1 cs hb2
  go_wp2_with fail
  go_loopw [7, 8] (fun v7 v8 wr => ∃ k e : Nat, k ≤ N ∧ v8 = .int .i64 k ∧ v7 = .int .i64 e ∧ e ≤ l.length ∧ Hid (Cov l e (ts.drop k)) ∧ Below w2.heap.size w2 wr) (fun _ v8 _ => N - (intOf v8).toNat)
  case atStart => exact ⟨0, 0, by omega, rfl, rfl, by omega, HC.out, Below.refl _ _⟩
  case round =>
    clear z0 z1 z2 z3
    obtain ⟨k, e, hk, rfl, rfl, hel, HCk, hbr⟩ := hrel
    by_cases hlt : k < N
    · obtain ⟨t, ht⟩ : ∃ t, ts[k]? = some t := ⟨_, List.getElem?_eq_getElem (by have := HT.out; omega)⟩
      have hdr : ts.drop k = t :: ts.drop (k + 1) := by
        have hlt' : k < ts.length := by have := HT.out; omega
        rw [List.drop_eq_getElem_cons hlt']
        congr 1
        rw [List.getElem?_eq_getElem hlt'] at ht
        exact Option.some.inj ht
      have hne : ts.drop (k + 1) ≠ [] := by
        intro hn
        have := congrArg List.length hn
        have h2 := HT.out
        simp at this
        omega
      have hcv := HCk.out
      rw [hdr, Cov.cons hne] at hcv
      obtain ⟨o, ho, heo, k0, k3, t24, n0, n1, x1, xl, xs, xb, hnext⟩ := hcv
      obtain ⟨g', p', e1, _, q0, q1, q2, q3⟩ := (HT1.out.below hbr) k t ht
      injection e1 with e1
      injection e1 with e1 e2 _
      subst e1; subst e2
      have wt := HW.out t (List.mem_of_getElem? ht)
      have hbw := HB2.out.trans (hbr.mono HB2.out.size)
      have hLr := HLw.out.below hbw
      clear hbw
      obtain ⟨tk, tt, tn, tf⟩ := t
      have ho' : tf = (o : Int) := ho
      subst ho'
      have HXX : ∃ x, Go.Proofs.YtjcobjikgakapaaDoor.wr (⟨tk, tt, tn, (o : Nat)⟩ : Tok) = x := ⟨_, rfl⟩
      obtain ⟨x, hx⟩ := HXX
      rw [hx] at x1 xl xs hnext
      have k0' : 0 ≤ tk := k0
      have k3' : tk ≤ 3 := k3
      have t24' : tt.length ≤ 24 := t24
      have n0' : 0 ≤ tn := n0
      have n1' : tn ≤ 1125899906842624 := n1
      have NX := Lib.hid hnext
      have htl := bs_size tt
      have hxs := bs_size x
      have hxt := bs_toList x
      have hsl := slice_any l o (o + x.length) (by omega) xl (o : Int) ((o : Int) + (x.length : Int)) rfl (by omega)
      rw [show o + x.length - o = x.length by omega, xs] at hsl
      have hsb := slice_any l e o heo (by omega) (e : Int) (o : Int) rfl rfl
      have hbl : blankB ((l.drop e).take (o - e)) = true := by
        unfold blankB
        rw [List.all_eq_true]
        exact xb
      have hbll : ((l.drop e).take (o - e)).length ≤ 281474976710656 := by simp; omega
      have cb := fun W => blank_any ((l.drop e).take (o - e)) W hbll
      rw [hbl] at cb
      have i0 : x.isEmpty = false := by
        cases x with
        | nil => simp at x1
        | cons a b => rfl
      have f1 : decide (tk < 0) = false := decide_eq_false (by omega)
      have f2 : decide (3 < tk) = false := decide_eq_false (by omega)
      have f3 : decide ((o : Int) < (e : Int)) = false := decide_eq_false (by omega)
      have f3' : decide (o < e) = false := decide_eq_false (by omega)
      have f4 : decide ((l.length : Int) < (o : Int) + (x.length : Int)) = false := decide_eq_false (by omega)
      have f4' : decide (l.length < o + x.length) = false := decide_eq_false (by omega)
      have f5 : decide (24 < (tt.length : Int)) = false := decide_eq_false (by omega)
      have f6 : decide (tn < 0) = false := decide_eq_false (by omega)
      have f7 : decide (1125899906842624 < tn) = false := decide_eq_false (by omega)
      generalize (l.drop e).take (o - e) = bl at *
      have hb3 := hbr.alloc hbr.size (.cells #[.int .i64 tk, .string (bs tt), .int .i64 tn, .int .i64 (o : Nat)] 25)
      have hxl' : x.length ≤ 5000 := by omega
      have hol : o ≤ 4096 := by omega
      have HBR := Lib.hid hbr
      have HX := Lib.hid hx
      clear ht hdr hne HCk ho k0 k3 t24 n0 n1 xs xb hnext hbl hbll hx hbr
      by_cases hk1 : tk = 1
      · subst hk1
        have hxi : itoa tn = x := by rw [← HX.out]; rfl
        have hL3 : Laid (wr.alloc (.cells #[.int .i64 1, .string (bs tt), .int .i64 tn, .int .i64 (o : Nat)] 25)) := hLr.below ((Below.refl _ _).alloc (Nat.le_refl _) _)
        have cT := text_any tn _ wt hL3
        rw [hxi] at cT
        clear hxi hL3 HX
        go_wp2_with fail
        refine (Calls.mono cT ?_)
        rintro e' w4 ⟨rfl, hbx⟩
        have y0 : w4.cell? ⟨wr.heap.size, 0, none⟩ = some (.int .i64 1) := by rw [hbx.cell (p := ⟨wr.heap.size, 0, none⟩) (by simp), cell_of_row _ _ _ _ _ (0, 0) (heap_alloc_new wr _)]; rfl
        have y1 : w4.cell? ⟨wr.heap.size, 1, none⟩ = some (.string (bs tt)) := by rw [hbx.cell (p := ⟨wr.heap.size, 1, none⟩) (by simp), cell_of_row _ _ _ _ _ (0, 0) (heap_alloc_new wr _)]; rfl
        have y2 : w4.cell? ⟨wr.heap.size, 2, none⟩ = some (.int .i64 tn) := by rw [hbx.cell (p := ⟨wr.heap.size, 2, none⟩) (by simp), cell_of_row _ _ _ _ _ (0, 0) (heap_alloc_new wr _)]; rfl
        have y3 : w4.cell? ⟨wr.heap.size, 3, none⟩ = some (.int .i64 (o : Nat)) := by rw [hbx.cell (p := ⟨wr.heap.size, 3, none⟩) (by simp), cell_of_row _ _ _ _ _ (0, 0) (heap_alloc_new wr _)]; rfl
        have hb5 := hb3.trans (hbx.mono hb3.size)
        clear hbx cT
        go_wp2_with fail
        refine (Calls.mono (cb _) ?_)
        rintro e' w5 ⟨rfl, rfl⟩
        go_wp2_with fail
        go_roundw
        case rel => exact ⟨k + 1, o + x.length, by omega, by go_num, by go_num, by omega, NX, hb5⟩
        case measure => simp [intOf]; omega
      have b1 : ((tk : Int) == 1) = false := beq_eq_false_iff_ne.2 hk1
      by_cases hk2 : tk = 2
      · subst hk2
        have hxi : 34 :: (tt ++ [34]) = x := by rw [← HX.out]; rfl
        have q1' : (⟨#[34]⟩ : ByteArray) ++ bs tt = bs (34 :: tt) := bs_append [34] tt
        have q2' : bs (34 :: tt) ++ (⟨#[34]⟩ : ByteArray) = bs x := by rw [← hxi]; exact bs_append (34 :: tt) [34]
        have q3' := bs_size (34 :: tt)
        rw [List.length_cons] at q3'
        clear hxi HX hk1
        go_wp2_with fail
        refine (Calls.mono (cb _) ?_)
        rintro e' w5 ⟨rfl, rfl⟩
        go_wp2_with fail
        go_roundw
        case rel => exact ⟨k + 1, o + x.length, by omega, by go_num, by go_num, by omega, NX, hb3⟩
        case measure => simp [intOf]; omega
      · have b2 : ((tk : Int) == 2) = false := beq_eq_false_iff_ne.2 hk2
        have hxi : tt = x := by rw [← HX.out]; simp [Go.Proofs.YtjcobjikgakapaaDoor.wr, hk1, hk2]
        subst hxi
        clear HX hk1 hk2
        go_wp2_with fail
        refine (Calls.mono (cb _) ?_)
        rintro e' w5 ⟨rfl, rfl⟩
        go_wp2_with fail
        go_roundw
        case rel => exact ⟨k + 1, o + tt.length, by omega, by go_num, by go_num, by omega, NX, hb3⟩
        case measure => simp [intOf]; omega
    · obtain rfl : k = N := by omega
      have hdr : ts.drop k = [⟨4, [], 0, (l.length : Nat)⟩] := by
        have hlt' : k < ts.length := by have := HT.out; omega
        have h1 := HLA.out
        rw [List.getElem?_eq_getElem hlt'] at h1
        rw [List.drop_eq_getElem_cons hlt', Option.some.inj h1, List.drop_eq_nil_of_le (by have := HT.out; omega)]
      have hcv := HCk.out
      rw [hdr] at hcv
      obtain ⟨_, hel2, hbl⟩ := hcv
      have hx3 : (bs l).extract e l.length = bs (l.drop e) := by rw [bs_extract, List.take_of_length_le (by simp)]
      have hbl' : blankB (l.drop e) = true := by
        unfold blankB
        rw [List.all_eq_true]
        exact hbl
      have hbll : (l.drop e).length ≤ 281474976710656 := by simp; omega
      have cb := fun W => blank_any (l.drop e) W hbll
      rw [hbl'] at cb
      have hbw := HB2.out.trans (hbr.mono HB2.out.size)
      generalize l.drop e = ld at *
      clear hdr HCk hbl hbl' hbll hbr
      go_wp2_with fail
      refine (Calls.mono (cb _) ?_)
      rintro e' w5 ⟨rfl, rfl⟩
      go_wp2
      go_ret
      exact ⟨rfl, hbw⟩
theorem covers_any (l : List UInt8) (w : World) (hl : l.length ≤ 281474976710656) (hL : Laid w) : Calls Tryd.prog 4 #[.string (bs l)] w (BoolPost w true) := by
  by_cases h : 5000 < l.length
  · exact covers_long l w h hl (small_any w hL)
  by_cases h2 : 4096 < l.length
  · exact covers_err l 7 0 true w (by omega) (scanR_full h2) (.inl ⟨rfl, rfl, rfl⟩) (decide_eq_true (by omega)) hL
  rcases scanR_of (l := l) (by omega) with ⟨ts, hts, hR⟩ | ⟨k, hk, hR⟩
  · obtain ⟨us, e1, e2, e3⟩ := sc_form _ _ _ hts
    have hlen := sc_len l 0 ts hts
    have hC := sc_cov l l 0 ts hts 0 (by simp) (Nat.le_refl _) (by omega) (by intro c hc; simp at hc)
    rw [Nat.zero_add] at e1
    have hul : us.length ≤ 5000 := by
      have := congrArg List.length e1
      rw [List.length_append] at this
      omega
    exact covers_ok l ts us us.length w (by omega) hR e1 rfl hul hC (fun t ht => (sc_wf hts t ht).1) hL
  · exact covers_err l 2 k false w (by omega) hR (.inr ⟨rfl, rfl⟩) (decide_eq_false (by omega)) hL
end Go.Proofs.YtjcobjikgakapaaDoor
