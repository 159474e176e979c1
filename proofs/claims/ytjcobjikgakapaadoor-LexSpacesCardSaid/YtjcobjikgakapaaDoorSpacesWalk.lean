/- LexSpaces, walked: it answers true. -/
import Derived.Test.YtjcobjikgakapaaDoorWritesWalk
import Derived.Deep.DeepCutAuto
import Derived.Deep.RegionWith
namespace Go.Proofs.YtjcobjikgakapaaDoor
open Go.ChangeShapes Go.WideShapes Go.ChangeAt Go.RowKit Go.Lib
set_option linter.unusedVariables false

theorem blank_iff (l : List UInt8) : blankB l = true ↔ blankL l := by simp [blankB, blankL]
/-- what the walk behind the tests needs -/
structure SpF (l sp x y : List UInt8) (ts us vs : List Tok) : Prop where
  r1 : scanR l = (ts, 0, 0)
  r2 : scanR x = (us, 0, 0)
  r3 : scanR y = (vs, 0, 0)
  e1 : ts.map er = us.map er
  e2 : ts.map er = vs.map er
set_option maxRecDepth 100000 in
set_option maxHeartbeats 1000000 in
theorem spaces_head1 (l sp : List UInt8) (n : Int) (w : World) (h : decide (2000 < (l.length : Int)) = true) (hl : l.length ≤ 281474976710656) (hsl : sp.length ≤ 281474976710656) (cs : Calls Tryd.prog 9 #[] w (BoolPost w true)) : Calls Tryd.prog 6 #[.string (bs l), .int .i64 n, .string (bs sp)] w (BoolPost w true) := by
  have hs := bs_size l
  have hs2 := bs_size sp
  go_enter Tryd.func6, Tryd.ntmps6
  go_wp2_with fail
  refine cs.mono ?_
  rintro e w1 ⟨rfl, hb1⟩
  go_wp2
  go_ret
  exact ⟨rfl, hb1⟩
set_option maxRecDepth 100000 in
set_option maxHeartbeats 1000000 in
theorem spaces_head2 (l sp : List UInt8) (n : Int) (w : World) (h : decide (2000 < (l.length : Int)) = false) (h2 : decide (20 < (sp.length : Int)) = true) (hl : l.length ≤ 281474976710656) (hsl : sp.length ≤ 281474976710656) (cs : Calls Tryd.prog 9 #[] w (BoolPost w true)) : Calls Tryd.prog 6 #[.string (bs l), .int .i64 n, .string (bs sp)] w (BoolPost w true) := by
  have hs := bs_size l
  have hs2 := bs_size sp
  go_enter Tryd.func6, Tryd.ntmps6
  go_wp2_with fail
  refine cs.mono ?_
  rintro e w1 ⟨rfl, hb1⟩
  go_wp2
  go_ret
  exact ⟨rfl, hb1⟩
set_option maxRecDepth 100000 in
set_option maxHeartbeats 1000000 in
theorem spaces_head3 (l sp : List UInt8) (n : Int) (w : World) (h : decide (2000 < (l.length : Int)) = false) (h2 : decide (20 < (sp.length : Int)) = false) (hb : blankB sp = false) (hl : l.length ≤ 281474976710656) (hsl : sp.length ≤ 281474976710656) (cs : Calls Tryd.prog 9 #[] w (BoolPost w true)) : Calls Tryd.prog 6 #[.string (bs l), .int .i64 n, .string (bs sp)] w (BoolPost w true) := by
  have hs := bs_size l
  have hs2 := bs_size sp
  have cb := fun W => blank_any sp W hsl
  rw [hb] at cb
  go_enter Tryd.func6, Tryd.ntmps6
  go_wp2_with fail
  refine cs.mono ?_
  rintro e w1 ⟨rfl, hb1⟩
  go_wp2_with fail
  refine (Calls.mono (cb _) ?_)
  rintro e w2 ⟨rfl, rfl⟩
  go_wp2
  go_ret
  exact ⟨rfl, hb1⟩
set_option maxRecDepth 100000 in
set_option maxHeartbeats 1000000 in
theorem spaces_err (l sp : List UInt8) (n k : Int) (w : World) (h : decide (2000 < (l.length : Int)) = false) (h2 : decide (20 < (sp.length : Int)) = false) (hb : blankB sp = true) (hl : l.length ≤ 2000) (hsl : sp.length ≤ 20) (hR : scanR l = ([], 2, k)) (hL : Laid w) : Calls Tryd.prog 6 #[.string (bs l), .int .i64 n, .string (bs sp)] w (BoolPost w true) := by
  have hs := bs_size l
  have hs2 := bs_size sp
  have cs := small_any w hL
  have cb := fun W => blank_any sp W (by omega)
  have c1 := fun W hW => scan_o l _ hR (by omega) W hW
  rw [hb] at cb
  clear hR
  go_enter Tryd.func6, Tryd.ntmps6
  go_wp2_with fail
  refine cs.mono ?_
  rintro e w1 ⟨rfl, hb1⟩
  go_wp2_with fail
  refine (Calls.mono (cb _) ?_)
  rintro e w2 ⟨rfl, rfl⟩
  go_wp2_with fail
  refine (Calls.mono (c1 _ (hL.below hb1)) ?_)
  rintro e w3 ⟨a1, k1, rfl, hT1, hbx⟩
  have hb3 := hb1.trans (hbx.mono hb1.size)
  clear hbx hb1 hT1
  go_wp2
  go_ret
  exact ⟨rfl, hb3⟩
/-- what the scan of the widened source leaves -/
def SpMid (W : World) (us : List Tok) (s12 s13 s14 : Value) (wx : World) : Prop := ∃ a c, s12 = .slice a us.length c ∧ s13 = .int .i64 0 ∧ s14 = .int .i64 0 ∧ TokR wx a us ∧ Below W.heap.size W wx
set_option maxRecDepth 100000 in
set_option maxHeartbeats 3000000 in
theorem spaces_go (l sp x y : List UInt8) (n r : Int) (ts us vs : List Tok) (m o : Nat) (t : Tok) (w : World) (h : decide (2000 < (l.length : Int)) = false) (h2 : decide (20 < (sp.length : Int)) = false) (hb : blankB sp = true) (hl : l.length ≤ 2000) (hsl : sp.length ≤ 20)
    (hF : SpF l sp x y ts us vs) (hx : x = l.take o ++ (sp ++ l.drop o)) (hy : y = sp ++ (l ++ sp)) (ht : ts[m]? = some t) (hto : t.off = (o : Nat)) (hol : o ≤ l.length) (hts : ts.length ≤ 10000) (hm : m < ts.length)
    (hr : n.tmod (ts.length : Int) = r) (hr1 : -10000 ≤ r) (hr2 : r ≤ 10000) (hrm : (decide (r < 0) = false ∧ r = (m : Int)) ∨ (decide (r < 0) = true ∧ r + (ts.length : Int) = (m : Int))) (hL : Laid w) :
    Calls Tryd.prog 6 #[.string (bs l), .int .i64 n, .string (bs sp)] w (BoolPost w true) := by
  have hs := bs_size l
  have hs2 := bs_size sp
  have hp : 0 < ts.length := by omega
  have hne : ((ts.length : Int) == 0) = false := beq_eq_false_iff_ne.2 (by omega)
  have cs := small_any w hL
  have cb := fun W => blank_any sp W (by omega)
  have c1 := fun W hW => scan_o l _ hF.r1 (by omega) W hW
  have hxl : x.length = l.length + sp.length := by rw [hx]; simp; omega
  have hyl : y.length = l.length + sp.length + sp.length := by rw [hy]; simp; omega
  have c2 := fun W hW => scan_o x _ hF.r2 (by omega) W hW
  have c3 := fun W hW => scan_o y _ hF.r3 (by omega) W hW
  have c4 := fun A B c d W (hA : TokR W A ts) (hB : TokR W B us) => same_two A B c d ts us W hA hB hF.e1 (by omega)
  have c5 := fun A B c d W (hA : TokR W A ts) (hB : TokR W B vs) => same_two A B c d ts vs W hA hB hF.e2 (by omega)
  have C4 := Lib.hid c4
  have C5 := Lib.hid c5
  rw [hb] at cb
  have hx1 : (bs l).extract 0 o = bs (l.take o) := by rw [bs_extract]; simp
  have hx2 : (bs l).extract o l.length = bs (l.drop o) := by rw [bs_extract, List.take_of_length_le (by simp)]
  have hx3 := bs_append (l.take o) sp
  have hx4 : bs (l.take o ++ sp) ++ bs (l.drop o) = bs x := by rw [bs_append, hx, List.append_assoc]
  have hy1 := bs_append sp l
  have hy2 : bs (sp ++ l) ++ bs sp = bs y := by rw [bs_append, hy, List.append_assoc]
  have z1 := bs_size (l.take o)
  have z2 := bs_size (l.drop o)
  have z3 := bs_size (l.take o ++ sp)
  have z4 := bs_size (sp ++ l)
  have y1 : (l.take o).length ≤ 2000 := by simp; omega
  have y2 : (l.drop o).length ≤ 2000 := by simp; omega
  have y3 : (l.take o ++ sp).length ≤ 3000 := by simp; omega
  have y4 : (sp ++ l).length ≤ 3000 := by simp; omega
  generalize l.take o = lt at *
  generalize l.drop o = ld at *
  generalize lt ++ sp = lts at *
  generalize sp ++ l = spl at *
  have HT := Lib.hid ht
  obtain ⟨tk, tt, tn, tf⟩ := t
  have hto' : tf = (o : Int) := hto
  subst hto'
  clear hF hx hy c4 c5 hto ht hxl hyl
  go_enter Tryd.func6, Tryd.ntmps6
  go_wp2_with fail
  refine cs.mono ?_
  rintro e w1 ⟨rfl, hb1⟩
  go_wp2_with fail
  refine (Calls.mono (cb _) ?_)
  rintro e w2 ⟨rfl, rfl⟩
  go_wp2_with fail
  refine (Calls.mono (c1 _ (hL.below hb1)) ?_)
  rintro e w3 ⟨a1, k1, rfl, hT1, hbx⟩
  have hb3 := hb1.trans (hbx.mono hb1.size)
  clear hbx hb1 c1
  obtain ⟨g, p, rfl, hg, q0, q1, q2, q3⟩ := hT1 m _ HT.out
  have HT1 := Lib.hid hT1
  clear hT1
  have hL3 := hL.below hb3
  rcases hrm with ⟨dr, hrm⟩ | ⟨dr, hrm⟩
  · subst hrm
    go_upto_region 11 with fail
    go_cut [12, 13, 14] (fun s12 s13 s14 wx => SpMid w3 us s12 s13 s14 wx)
    case first =>
      go_region_with (go_at_call 10; refine (Calls.mono (c2 _ (hL3.below (by first | exact Below.refl _ _ | exact below_drewN (Below.refl _ _) _ | exact (Below.refl _ _).drew))) ?_); rintro e w4 ⟨a2, k2, rfl, hT2, hbx⟩)
      all_goals
        go_wp2_with fail
        go_meet
        exact ⟨a2, k2, rfl, rfl, rfl, hT2, (by first | exact Below.refl _ _ | exact below_drewN (Below.refl _ _) _ | exact (Below.refl _ _).drew : Below _ w3 _).trans hbx⟩
    case rest =>
      obtain ⟨a2, k2, rfl, rfl, rfl, hT2, hbx⟩ := hcut
      have hb4 := hb3.trans (hbx.mono hb3.size)
      have hT1' := HT1.out.below hbx
      have HT2 := Lib.hid hT2
      have HT1' := Lib.hid hT1'
      clear hT1' hT2 HT1 hbx hb3 q0 q1 q2 q3 c2
      go_wp2_with fail
      refine (Calls.mono (c3 _ (hL.below hb4)) ?_)
      rintro e w5 ⟨a3, k3, rfl, hT3, hbx⟩
      have hb5 := hb4.trans (hbx.mono hb4.size)
      have hT1'' := HT1'.out.below hbx
      have c4 := C4.out (some ⟨g, p, none⟩) a2 k1 k2 w5 hT1'' (HT2.out.below hbx)
      have HT1'' := Lib.hid hT1''
      have HT3 := Lib.hid hT3
      clear hbx hb4 c3 hT1'' hT3 HT1' HT2
      go_wp2_with fail
      refine (Calls.mono c4 ?_)
      rintro e w6 ⟨rfl, hbx⟩
      have hb6 := hb5.trans (hbx.mono hb5.size)
      have c5 := C5.out (some ⟨g, p, none⟩) a3 k1 k3 w6 (HT1''.out.below hbx) (HT3.out.below hbx)
      clear hbx hb5 c4 HT1'' HT3
      go_wp2_with fail
      refine (Calls.mono c5 ?_)
      rintro e w7 ⟨rfl, hbx⟩
      have hb7 := hb6.trans (hbx.mono hb6.size)
      clear hbx hb6 c5
      go_wp2
      go_ret
      exact ⟨rfl, hb7⟩
  · go_upto_region 11 with fail
    go_cut [12, 13, 14] (fun s12 s13 s14 wx => SpMid w3 us s12 s13 s14 wx)
    case first =>
      go_region_with (go_at_call 10; refine (Calls.mono (c2 _ (hL3.below (by first | exact Below.refl _ _ | exact below_drewN (Below.refl _ _) _ | exact (Below.refl _ _).drew))) ?_); rintro e w4 ⟨a2, k2, rfl, hT2, hbx⟩)
      all_goals
        go_wp2_with fail
        go_meet
        exact ⟨a2, k2, rfl, rfl, rfl, hT2, (by first | exact Below.refl _ _ | exact below_drewN (Below.refl _ _) _ | exact (Below.refl _ _).drew : Below _ w3 _).trans hbx⟩
    case rest =>
      obtain ⟨a2, k2, rfl, rfl, rfl, hT2, hbx⟩ := hcut
      have hb4 := hb3.trans (hbx.mono hb3.size)
      have hT1' := HT1.out.below hbx
      have HT2 := Lib.hid hT2
      have HT1' := Lib.hid hT1'
      clear hT1' hT2 HT1 hbx hb3 q0 q1 q2 q3 c2
      go_wp2_with fail
      refine (Calls.mono (c3 _ (hL.below hb4)) ?_)
      rintro e w5 ⟨a3, k3, rfl, hT3, hbx⟩
      have hb5 := hb4.trans (hbx.mono hb4.size)
      have hT1'' := HT1'.out.below hbx
      have c4 := C4.out (some ⟨g, p, none⟩) a2 k1 k2 w5 hT1'' (HT2.out.below hbx)
      have HT1'' := Lib.hid hT1''
      have HT3 := Lib.hid hT3
      clear hbx hb4 c3 hT1'' hT3 HT1' HT2
      go_wp2_with fail
      refine (Calls.mono c4 ?_)
      rintro e w6 ⟨rfl, hbx⟩
      have hb6 := hb5.trans (hbx.mono hb5.size)
      have c5 := C5.out (some ⟨g, p, none⟩) a3 k1 k3 w6 (HT1''.out.below hbx) (HT3.out.below hbx)
      clear hbx hb5 c4 HT1'' HT3
      go_wp2_with fail
      refine (Calls.mono c5 ?_)
      rintro e w7 ⟨rfl, hbx⟩
      have hb7 := hb6.trans (hbx.mono hb6.size)
      clear hbx hb6 c5
      go_wp2
      go_ret
      exact ⟨rfl, hb7⟩
theorem spaces_any (l sp : List UInt8) (n : Int) (w : World) (hl : l.length ≤ 281474976710656) (wn : wf64 n) (hsl : sp.length ≤ 281474976710656) (hL : Laid w) : Calls Tryd.prog 6 #[.string (bs l), .int .i64 n, .string (bs sp)] w (BoolPost w true) := by
  by_cases h1 : 2000 < l.length
  · exact spaces_head1 l sp n w (decide_eq_true (by omega)) hl hsl (small_any w hL)
  have d1 : decide (2000 < (l.length : Int)) = false := decide_eq_false (by omega)
  by_cases h2 : 20 < sp.length
  · exact spaces_head2 l sp n w d1 (decide_eq_true (by omega)) hl hsl (small_any w hL)
  have d2 : decide (20 < (sp.length : Int)) = false := decide_eq_false (by omega)
  cases hb : blankB sp with
  | false => exact spaces_head3 l sp n w d1 d2 hb hl hsl (small_any w hL)
  | true =>
    rcases scanR_of (l := l) (by omega) with ⟨ts, hts, hR⟩ | ⟨k, hk, hR⟩
    · have hpos := ok_pos hts
      have hlen := sc_len l 0 ts hts
      obtain ⟨us0, e1, e2, e3⟩ := sc_form _ _ _ hts
      have hbl := (blank_iff sp).1 hb
      -- the index
      have htm := Int.natAbs_tmod n (ts.length : Int)
      have hlt : (n.tmod (ts.length : Int)).natAbs < ts.length := by
        have h : (n.tmod (ts.length : Int)).natAbs = n.natAbs % (ts.length : Int).natAbs := htm
        rw [h]
        exact Nat.mod_lt _ (by omega)
      obtain ⟨r, hr⟩ : ∃ r, n.tmod (ts.length : Int) = r := ⟨_, rfl⟩
      rw [hr] at hlt
      have hm : ∃ m : Nat, m < ts.length ∧ ((decide (r < 0) = false ∧ r = (m : Int)) ∨ (decide (r < 0) = true ∧ r + (ts.length : Int) = (m : Int))) := by
        by_cases h0 : r < 0
        · exact ⟨(r + (ts.length : Int)).toNat, by omega, .inr ⟨decide_eq_true h0, by omega⟩⟩
        · exact ⟨r.toNat, by omega, .inl ⟨decide_eq_false h0, by omega⟩⟩
      obtain ⟨m, hm, hrm⟩ := hm
      obtain ⟨t, ht⟩ : ∃ t, ts[m]? = some t := ⟨_, List.getElem?_eq_getElem hm⟩
      have htmem := List.mem_of_getElem? ht
      have hoff := e3 t htmem
      obtain ⟨o, ho⟩ : ∃ o : Nat, t.off = (o : Int) := ⟨t.off.toNat, by omega⟩
      obtain ⟨us, hus, heu⟩ := sc_space sp hbl l 0 ts hts t htmem o (by omega) 0
      -- before and after
      have hend : (⟨4, [], 0, ((0 + l.length : Nat) : Int)⟩ : Tok) ∈ ts := by rw [e1]; simp
      obtain ⟨vs, hvs, hev⟩ := sc_space sp hbl l 0 ts hts _ hend l.length rfl sp.length
      have hvs2 : sc 0 (sp ++ (l ++ sp)) = .ok vs := by
        rw [sc_blank 0 sp _ hbl, Nat.zero_add, ← hvs]
        congr 1
        simp
      exact spaces_go l sp _ _ n r ts us vs m o t w d1 d2 hb (by omega) (by omega)
        ⟨hR, scanR_ok (by simp; omega) hus, scanR_ok (by simp; omega) hvs2, heu.symm, hev.symm⟩ rfl rfl ht ho (by omega) (by omega) hm hr (by omega) (by omega) hrm hL
    · exact spaces_err l sp n k w d1 d2 hb (by omega) (by omega) hR hL
end Go.Proofs.YtjcobjikgakapaaDoor
