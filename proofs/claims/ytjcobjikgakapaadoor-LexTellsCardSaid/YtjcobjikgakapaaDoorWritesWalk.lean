/- LexWrites, walked: it answers true. -/
import Derived.Test.YtjcobjikgakapaaDoorFailsWalk
namespace Go.Proofs.YtjcobjikgakapaaDoor
open Go.ChangeShapes Go.WideShapes Go.ChangeAt Go.RowKit Go.Lib
set_option linter.unusedVariables false

/-! ### how long a text can be -/
theorem joinW_len (l : List (List UInt8)) : (joinW l).length ≤ (l.map (fun x => x.length + 1)).sum := by
  cases l with
  | nil => simp [joinW]
  | cons a r =>
    rw [joinW_tail]
    simp only [List.length_append, List.length_flatten, List.map_map, List.map_cons, List.sum_cons]
    have : (List.map (List.length ∘ fun x => ([32] : List UInt8) ++ x) r) = r.map (fun x => x.length + 1) := by
      apply List.map_congr_left
      intro x _
      simp
    rw [this]
    omega
theorem wrO_len {t : Tok} (h1 : wf64 t.n) (h2 : t.text.length ≤ 50) : ∀ x, wrO t = some x → x.length + 1 ≤ 60 := by
  intro x hx
  have := (itoa_length h1.1 h1.2).1
  unfold wrO at hx
  split at hx
  · cases hx
  · split at hx
    · injection hx with hx; subst hx; omega
    · split at hx
      · injection hx with hx; subst hx; omega
      · split at hx
        · injection hx with hx; subst hx; simp; omega
        · injection hx with hx; subst hx; simp
theorem writeL_len (ts : List Tok) (h : ∀ t ∈ ts, wf64 t.n ∧ t.text.length ≤ 50) : (writeL ts).length ≤ ts.length * 60 := by
  unfold writeL
  refine Nat.le_trans (joinW_len _) ?_
  induction ts with
  | nil => simp
  | cons t ts ih =>
    have ih := ih (fun t h' => h t (by simp [h']))
    have ht := h t (by simp)
    cases hw : wrO t with
    | none => rw [List.filterMap_cons_none hw]; simp only [List.length_cons]; omega
    | some x =>
      have := wrO_len ht.1 ht.2 x hw
      rw [List.filterMap_cons_some hw]
      simp only [List.map_cons, List.sum_cons, List.length_cons]
      omega
theorem sc_len : ∀ (l : List UInt8) (k : Nat) (ts : List Tok), sc k l = .ok ts → ts.length ≤ l.length + 1 := by
  refine scan_rec (P := fun k l => ∀ ts, sc k l = .ok ts → ts.length ≤ l.length + 1) ?_ ?_ ?_ ?_
  · intro k ts h
    rw [sc_nil] at h
    injection h with h
    subst h
    simp
  · intro k c r hs ih ts h
    rw [sc_sp k r hs] at h
    have := ih ts h
    simp; omega
  · intro k c r hs ht ts h
    rw [sc_none k r hs ht] at h
    cases h
  · intro k c r t n hs ht h1 hn ih ts h
    rw [sc_some k r hs ht] at h
    obtain ⟨rs, hr, rfl⟩ := push_ok h
    have := ih rs hr
    rw [List.length_drop] at this
    simp only [List.length_cons] at *
    omega
theorem sc_wf {l : List UInt8} {k : Nat} {ts : List Tok} (h : sc k l = .ok ts) : ∀ t ∈ ts, wf64 t.n ∧ t.text.length ≤ 24 := by
  obtain ⟨us, e, h1, _⟩ := sc_form _ _ _ h
  intro t ht
  rw [e, List.mem_append] at ht
  rcases ht with ht | ht
  · have := h1 t ht
    exact ⟨by unfold wf64; omega, by omega⟩
  · rw [List.mem_singleton] at ht
    subst ht
    exact ⟨⟨by show (-9223372036854775808 : Int) ≤ 0; decide, by show (0 : Int) ≤ 9223372036854775807; decide⟩, by simp⟩
theorem er_len {a b : List Tok} (h : a.map er = b.map er) : a.length = b.length := by
  have := congrArg List.length h
  simpa using this
theorem same_two (A B : Option Addr) (c d : Nat) (xs ys : List Tok) (w : World) (hA : TokR w A xs) (hB : TokR w B ys) (he : xs.map er = ys.map er) (hlim : xs.length ≤ 1000000) :
    Calls Tryd.prog 17 #[.slice A xs.length c, .slice B ys.length d] w (BoolPost w true) := by
  have e := er_len he
  generalize hn : xs.length = n at *
  generalize hm : ys.length = m at *
  subst e
  exact same_true A B n c d xs ys w hA hB hn hm he hlim
theorem er_write {a b : List Tok} (h : a.map er = b.map er) : writeL a = writeL b := by
  unfold writeL
  have hw : ∀ t, wrO (er t) = wrO t := fun t => rfl
  have h1 : a.filterMap wrO = (a.map er).filterMap wrO := by rw [List.filterMap_map]; rfl
  have h2 : b.filterMap wrO = (b.map er).filterMap wrO := by rw [List.filterMap_map]; rfl
  rw [h1, h2, h]
set_option maxRecDepth 100000 in
set_option maxHeartbeats 1000000 in
theorem writes_long (l : List UInt8) (w : World) (h : 5000 < l.length) (hl : l.length ≤ 281474976710656) (cs : Calls Tryd.prog 9 #[] w (BoolPost w true)) : Calls Tryd.prog 5 #[.string (bs l)] w (BoolPost w true) := by
  have hs := bs_size l
  have d1 : decide (5000 < (l.length : Int)) = true := decide_eq_true (by omega)
  clear h
  go_enter Tryd.func5, Tryd.ntmps5
  go_wp2_with fail
  refine cs.mono ?_
  rintro e w1 ⟨rfl, hb1⟩
  go_wp2
  go_ret
  exact ⟨rfl, hb1⟩
set_option maxRecDepth 100000 in
set_option maxHeartbeats 1000000 in
theorem writes_err (l : List UInt8) (r k : Int) (w : World) (h : l.length ≤ 5000) (hR : scanR l = ([], r, k)) (hr : (r == (0 : Int)) = false) (hL : Laid w) : Calls Tryd.prog 5 #[.string (bs l)] w (BoolPost w true) := by
  have hs := bs_size l
  have hr2 : (r != (0 : Int)) = true := by rw [bne, hr]; rfl
  have d1 : decide (5000 < (l.length : Int)) = false := decide_eq_false (by omega)
  have cs := small_any w hL
  have c1 := fun W hW => scan_o l _ hR (by omega) W hW
  clear hR
  go_enter Tryd.func5, Tryd.ntmps5
  go_wp2_with fail
  refine cs.mono ?_
  rintro e w1 ⟨rfl, hb1⟩
  go_wp2_with fail
  refine (Calls.mono (c1 _ (hL.below hb1)) ?_)
  rintro e w2 ⟨a1, k1, rfl, hT1, hbx⟩
  have hb2 := hb1.trans (hbx.mono hb1.size)
  clear hbx hb1 hT1
  go_wp2
  go_ret
  exact ⟨rfl, hb2⟩
set_option maxRecDepth 100000 in
set_option maxHeartbeats 2000000 in
theorem writes_full (l x : List UInt8) (ts : List Tok) (w : World) (h : l.length ≤ 5000) (hR : scanR l = (ts, 0, 0)) (hx : writeL ts = x) (hxl : 4096 < x.length) (hxm : x.length ≤ 1000000) (hts : ts.length ≤ 10000) (hwf : ∀ t ∈ ts, wf64 t.n ∧ t.text.length ≤ 1000000) (hL : Laid w) : Calls Tryd.prog 5 #[.string (bs l)] w (BoolPost w true) := by
  have hs := bs_size l
  have hsx := bs_size x
  have d1 : decide (5000 < (l.length : Int)) = false := decide_eq_false (by omega)
  have d2 : decide (4096 < (x.length : Int)) = true := decide_eq_true (by omega)
  have cs := small_any w hL
  have c1 := fun W hW => scan_o l _ hR (by omega) W hW
  have c2 := fun W hW => scan_o x _ (scanR_full hxl) (by omega) W hW
  have c3 := fun A c W (hA : TokR W A ts) hW => write_any A ts.length c ts W hA rfl (by omega) hwf hW (by rw [hx]; omega)
  rw [hx] at c3
  have C3 := Lib.hid c3
  clear hR hx hwf c3
  go_enter Tryd.func5, Tryd.ntmps5
  go_wp2_with fail
  refine cs.mono ?_
  rintro e w1 ⟨rfl, hb1⟩
  go_wp2_with fail
  refine (Calls.mono (c1 _ (hL.below hb1)) ?_)
  rintro e w2 ⟨a1, k1, rfl, hT1, hbx⟩
  have hb2 := hb1.trans (hbx.mono hb1.size)
  clear hbx hb1 c1
  have c3 := C3.out a1 k1 w2 hT1 (hL.below hb2)
  clear hT1 C3
  go_wp2_with fail
  refine (Calls.mono c3 ?_)
  rintro e w3 ⟨rfl, hbx⟩
  have hb3 := hb2.trans (hbx.mono hb2.size)
  clear hbx hb2 c3
  go_wp2_with fail
  refine (Calls.mono (c2 _ (hL.below hb3)) ?_)
  rintro e w4 ⟨a2, k2, rfl, hT2, hbx⟩
  have hb4 := hb3.trans (hbx.mono hb3.size)
  clear hbx hb3 c2
  go_wp2
  go_ret
  exact ⟨rfl, hb4⟩
set_option maxRecDepth 100000 in
set_option maxHeartbeats 2000000 in
theorem writes_ok (l x : List UInt8) (ts us : List Tok) (w : World) (h : l.length ≤ 5000) (hR : scanR l = (ts, 0, 0)) (hx : writeL ts = x) (hxl : x.length ≤ 4096) (hR2 : scanR x = (us, 0, 0)) (he : us.map er = ts.map er) (hts : ts.length ≤ 10000)
    (hwf : ∀ t ∈ ts, wf64 t.n ∧ t.text.length ≤ 1000000) (hwf2 : ∀ t ∈ us, wf64 t.n ∧ t.text.length ≤ 1000000) (hL : Laid w) : Calls Tryd.prog 5 #[.string (bs l)] w (BoolPost w true) := by
  have hs := bs_size l
  have hsx := bs_size x
  have htx := bs_toList x
  have d1 : decide (5000 < (l.length : Int)) = false := decide_eq_false (by omega)
  have d2 : decide (4096 < (x.length : Int)) = false := decide_eq_false (by omega)
  have cs := small_any w hL
  have c1 := fun W hW => scan_o l _ hR (by omega) W hW
  have c2 := fun W hW => scan_o x _ hR2 (by omega) W hW
  have c3 := fun A c W (hA : TokR W A ts) hW => write_any A ts.length c ts W hA rfl (by omega) hwf hW (by rw [hx]; omega)
  rw [hx] at c3
  have C3 := Lib.hid c3
  have hx2 : writeL us = x := by rw [er_write he, hx]
  have hul := er_len he
  have c4 := fun A c W (hA : TokR W A us) hW => write_any A us.length c us W hA rfl (by omega) hwf2 hW (by rw [hx2]; omega)
  rw [hx2] at c4
  have C4 := Lib.hid c4
  have c5 := fun A B c d W (hA : TokR W A ts) (hB : TokR W B us) => same_two A B c d ts us W hA hB he.symm (by omega)
  have C5 := Lib.hid c5
  have HUL := Lib.hid hul
  clear hR hR2 hx hx2 hwf hwf2 c3 c4 c5 he hul
  go_enter Tryd.func5, Tryd.ntmps5
  go_wp2_with fail
  refine cs.mono ?_
  rintro e w1 ⟨rfl, hb1⟩
  go_wp2_with fail
  refine (Calls.mono (c1 _ (hL.below hb1)) ?_)
  rintro e w2 ⟨a1, k1, rfl, hT1, hbx⟩
  have hb2 := hb1.trans (hbx.mono hb1.size)
  clear hbx hb1 c1
  have c3 := C3.out a1 k1 w2 hT1 (hL.below hb2)
  have HT1 := Lib.hid hT1
  clear hT1 C3
  go_wp2_with fail
  refine (Calls.mono c3 ?_)
  rintro e w3 ⟨rfl, hbx⟩
  have hb3 := hb2.trans (hbx.mono hb2.size)
  have HT3 := Lib.hid (HT1.out.below hbx)
  clear hbx hb2 c3 HT1
  go_wp2_with fail
  refine (Calls.mono (c2 _ (hL.below hb3)) ?_)
  rintro e w4 ⟨a2, k2, rfl, hT2, hbx⟩
  have hb4 := hb3.trans (hbx.mono hb3.size)
  have hT1 := HT3.out.below hbx
  have c5 := C5.out a1 a2 k1 k2 w4 hT1 hT2
  have HT2 := Lib.hid hT2
  clear hbx hb3 c2 hT1 hT2 HT3 C5
  go_wp2_with fail
  refine (Calls.mono c5 ?_)
  rintro e w5 ⟨rfl, hbx⟩
  have hb5 := hb4.trans (hbx.mono hb4.size)
  have c4 := C4.out a2 k2 w5 (HT2.out.below hbx) (hL.below hb5)
  clear hbx hb4 c5 HT2 C4
  go_wp2_with fail
  refine (Calls.mono c4 ?_)
  rintro e w6 ⟨rfl, hbx⟩
  have hb6 := hb5.trans (hbx.mono hb5.size)
  clear hbx hb5 c4
  go_wp2
  go_ret
  exact ⟨rfl, hb6⟩
theorem writes_any (l : List UInt8) (w : World) (hl : l.length ≤ 281474976710656) (hL : Laid w) : Calls Tryd.prog 5 #[.string (bs l)] w (BoolPost w true) := by
  by_cases h : 5000 < l.length
  · exact writes_long l w h hl (small_any w hL)
  by_cases h2 : 4096 < l.length
  · exact writes_err l 7 0 w (by omega) (scanR_full h2) (by decide) hL
  rcases scanR_of (l := l) (by omega) with ⟨ts, hts, hR⟩ | ⟨k, hk, hR⟩
  · have hlen := sc_len l 0 ts hts
    have hwf := sc_wf hts
    have hwl := writeL_len ts (fun t ht => ⟨(hwf t ht).1, by have := (hwf t ht).2; omega⟩)
    by_cases h3 : 4096 < (writeL ts).length
    · exact writes_full l _ ts w (by omega) hR rfl h3 (by omega) (by omega) (fun t ht => ⟨(hwf t ht).1, by have := (hwf t ht).2; omega⟩) hL
    · obtain ⟨us, h4, h5⟩ := sc_write l 0 ts hts 0
      have hwf2 := sc_wf h4
      exact writes_ok l _ ts us w (by omega) hR rfl (by omega) (scanR_ok (by omega) h4) h5 (by omega) (fun t ht => ⟨(hwf t ht).1, by have := (hwf t ht).2; omega⟩) (fun t ht => ⟨(hwf2 t ht).1, by have := (hwf2 t ht).2; omega⟩) hL
  · exact writes_err l 2 k w (by omega) hR (by decide) hL
end Go.Proofs.YtjcobjikgakapaaDoor
