/- PageChanges, walked: it answers true. -/
import Derived.Test.YtemdecaiadkchaaPgCMem
import Derived.Deep.DeepCutAuto
namespace Go.Proofs.Ytemdecaiadkchaa
open Go.ChangeShapes Go.WideShapes Go.ChangeAt Go.RowKit Go.Lib
set_option linter.unusedVariables false
set_option linter.unusedSimpArgs false

set_option maxRecDepth 100000 in
theorem changes_l0 (l o : List Card) (a : List Int) (A0 A1 A2 : Option Addr) (C0 C1 C2 : Nat) (w : World) (h0 : ¬ l.length ≤ 30) : Calls Try.prog 5 #[.slice A0 l.length C0, .slice A1 o.length C1, .slice A2 a.length C2] w (BoolPost w true) := by
  have cs := fun W => small_any W
  have d0 : decide (30 < (l.length : Int)) = true := decide_eq_true (by omega)
  have d0N : decide (30 < l.length) = true := decide_eq_true (by omega)
  clear h0
  go_enter Try.func5, Try.ntmps5
  go_wp2_with fail
  refine (cs _).mono ?_
  rintro e w1 ⟨rfl, hbx⟩
  go_wp2
  go_ret
  exact ⟨rfl, hbx⟩
set_option maxRecDepth 100000 in
theorem changes_l1 (l o : List Card) (a : List Int) (A0 A1 A2 : Option Addr) (C0 C1 C2 : Nat) (w : World) (h0 : l.length ≤ 30) (h1 : ¬ o.length ≤ 10) : Calls Try.prog 5 #[.slice A0 l.length C0, .slice A1 o.length C1, .slice A2 a.length C2] w (BoolPost w true) := by
  have cs := fun W => small_any W
  have d0 : decide (30 < (l.length : Int)) = false := decide_eq_false (by omega)
  have d0N : decide (30 < l.length) = false := decide_eq_false (by omega)
  have d1 : decide (10 < (o.length : Int)) = true := decide_eq_true (by omega)
  have d1N : decide (10 < o.length) = true := decide_eq_true (by omega)
  clear h0 h1
  go_enter Try.func5, Try.ntmps5
  go_wp2_with fail
  refine (cs _).mono ?_
  rintro e w1 ⟨rfl, hbx⟩
  go_wp2
  go_ret
  exact ⟨rfl, hbx⟩
set_option maxRecDepth 100000 in
set_option maxHeartbeats 40000000 in
theorem changes_main (l o : List Card) (a : List Int) (A0 A1 A2 : Option Addr) (C0 C1 C2 : Nat) (w : World) (h0 : l.length ≤ 30) (h1 : o.length ≤ 10) (hl : CRow w A0 l) (hC0 : A0 = none → C0 = 0) (ho : CRow w A1 o) (hC1 : A1 = none → C1 = 0) (ha : RowAt w A2 (ints a)) :
    Calls Try.prog 5 #[.slice A0 l.length C0, .slice A1 o.length C1, .slice A2 a.length C2] w (BoolPost w true) := by
  obtain ⟨n, hn⟩ : ∃ n, l.length = n := ⟨_, rfl⟩
  obtain ⟨on, hon⟩ : ∃ n, o.length = n := ⟨_, rfl⟩
  obtain ⟨tn, htn⟩ : ∃ n, (l ++ o).length = n := ⟨_, rfl⟩
  have htn2 : n + on = tn := by rw [← htn, List.length_append, hn, hon]
  have cs := fun W => small_any W
  have cb := fun W => begin_any 0 W
  have cz := fun i W hi h => size_any a A2 C2 i W hi h
  have cd : ∀ A C W, CRow W A (l ++ o) → Calls Try.prog 11 #[.slice A tn C] W (DifP W (l ++ o)) := fun A C W h => by
    have := differ_c (l ++ o) A C W (by omega) h
    rwa [htn] at this
  have HL := Lib.hid hl
  have HO := Lib.hid ho
  have HA := Lib.hid ha
  have SL : ∀ W, Below w.heap.size w W → SIn W A0 C0 l := fun W hb => SIn.of (HL.out.below hb) hC0
  have SO : ∀ W, Below w.heap.size w W → SIn W A1 C1 o := fun W hb => SIn.of (HO.out.below hb) hC1
  have HN := Lib.hid hn
  have HON := Lib.hid hon
  have HTN := Lib.hid htn2
  have HN30 : Hid (n ≤ 30 ∧ on ≤ 10) := ⟨by omega, by omega⟩
  have HSL := Lib.hid SL
  have HSO := Lib.hid SO
  rw [hn] at h0
  rw [hon] at h1
  rw [hn, hon]
  have d0 : decide (30 < (n : Int)) = false := decide_eq_false (by omega)
  have d0N : decide (30 < n) = false := decide_eq_false (by omega)
  have d1 : decide (10 < (on : Int)) = false := decide_eq_false (by omega)
  have d1N : decide (10 < on) = false := decide_eq_false (by omega)
  clear hl ho ha SL SO hn hon htn htn2 h0 h1 hC0 hC1
  go_enter Try.func5, Try.ntmps5
  go_wp2_with fail
  refine (cs _).mono ?_
  rintro e w1 ⟨rfl, hbx⟩
  have HB := Lib.hid hbx
  have HOW := Lib.hid (own_new w1)
  have HB1 := Lib.hid (hbx.alloc hbx.size (.cells #[] 39))
  clear cs hbx
  go_wp2_with (at_builtin; go_loud (refine wpList_append_cards rfl _ _ rfl w1.heap.size _ 0 [] rfl HOW.out A0 C0 n l HN.out (HSL.out _ HB1.out) rfl ?e1 ?e2 ?_))
  case e1 => have := HN30.out.1; omega
  case e2 => simp
  intro v2 w2 hown2 hb2
  (try simp only [Nat.zero_add, List.nil_append] at hown2)
  obtain ⟨va, vc, hva⟩ := own_form hown2
  subst hva
  have HB2 := Lib.hid (HB1.out.trans (hb2.mono HB.out.size))
  have HSZ2 : Hid (w1.heap.size ≤ w2.heap.size) := by have := hb2.size; simp at this; exact Nat.le_trans (Nat.le_succ _) this
  have HOW2 := Lib.hid hown2
  clear hown2 hb2 HOW HB1
  go_wp2_with (at_builtin; go_loud (refine wpList_append_cards rfl _ _ rfl w1.heap.size _ n (cardCells l) rfl HOW2.out A1 C1 on o HON.out (HSO.out _ HB2.out) rfl ?e3 ?e4 ?_))
  case e3 => have := HN30.out; omega
  case e4 => exact HSZ2.out
  intro v3 w3 hown3 hb3
  rw [HTN.out, ← cardCells_app] at hown3
  have hb3' := HB2.out.trans (hb3.mono HB.out.size)
  have HB3 := Lib.hid hb3'
  obtain ⟨A3, C3, rfl, hc3, _⟩ := cin_own (n := tn) (by rw [List.length_append, HN.out, HON.out, HTN.out]) (show w3.ownsRow w1.heap.size 39 6 v3 (l ++ o).length (cardCells (l ++ o)) by rw [List.length_append, HN.out, HON.out, HTN.out]; exact hown3)
  have HC3 := Lib.hid hc3
  clear hown3 hb3 hb3' hc3 HOW2 HB2 HSZ2
  go_wp2_with fail
  refine (cd _ _ _ HC3.out.crow).mono ?_
  rintro e w4 ⟨bd, rfl, hd, hbx⟩
  have HB4 := Lib.hid (HB3.out.trans (hbx.mono HB3.out.size))
  clear hbx HC3 HB3 HB cd
  cases bd with
  | false =>
    go_wp2
    go_ret
    exact ⟨rfl, HB4.out⟩
  | true =>
  have HD := Lib.hid (hd rfl)
  clear hd
  go_wp2_with fail
  refine (cb _).mono ?_
  rintro e w5 ⟨rfl, hbx⟩
  have HB5 := Lib.hid (HB4.out.trans (hbx.mono HB4.out.size))
  have HP : Hid (LS w l o w5.heap.size 0 true (.slice none 0 0) (w5.alloc (.cells (cellsM (beginM 0)) 23))) :=
    ⟨by omega, [], beginM 0, walk_start l o, heap_alloc_new _ _, HB5.out.alloc HB5.out.size _, HB5.out.size, ⟨by simp [cardCells], .inl ⟨rfl, rfl⟩⟩, crow_nil _ _, crow_nil _ _, apart_nil _ _, apart_nil _ _⟩
  clear hbx cb HB4 HB5
  unfold cellsM at HP ⊢
  simp only at HP ⊢
  go_wp2
  go_loopw [9, 10, 11] (fun v9 v10 v11 wr => ∃ (more : Bool) (i : Nat), v10 = .bool more ∧ v11 = .int .i64 i ∧ Hid (LS w l o w5.heap.size i more v9 wr)) (fun _ _ v _ => 60 - (intOf v).toNat)
  case atStart => exact ⟨true, 0, rfl, rfl, HP⟩
  case round =>
  clear HP
  obtain ⟨more, i, rfl, rfl, hz⟩ := hrel
  obtain ⟨wo, rfl⟩ : ∃ wo : World, wo = wr := ⟨_, rfl⟩
  obtain ⟨hi60, seen, k, hW, hT⟩ := hz.out
  clear hz
  generalize w5.heap.size = Bm at *
  cases more with
  | false =>
    have HFIN := Lib.hid (hW.fin rfl)
    have hse := hW.len
    have HT := Lib.hid hT
    have HSE : Hid (seen.length ≤ 1000000) := by have := HN.out; have := HON.out; have := HN30.out; unfold Hid; omega
    clear hW hT hse hi60
    obtain ⟨A9, C9, hv9, hc9, _⟩ := cin_own (n := seen.length) rfl HT.out.own
    subst hv9
    have HC9 := Lib.hid hc9.crow
    have HBL := Lib.hid HT.out.bel
    have ch : ∀ (c : Card) (W : World), c ∈ l → CRow W A9 seen → Calls Try.prog 16 #[.slice A9 seen.length C9, .agg (cellsC c)] W (BoolPost W true) := fun c W hm hr => by
      have := has_any seen seen.length A9 C9 c W rfl HSE.out hr
      rwa [decide_eq_true (HFIN.out c hm)] at this
    have HCH := Lib.hid ch
    clear hc9 HT ch HD
    go_wp2
    go_loopw [16] (fun v16 wq => ∃ q : Nat, v16 = .int .i64 q ∧ q ≤ n ∧ Below wo.heap.size wo wq) (fun v _ => n - (intOf v).toNat)
    case atStart => exact ⟨0, rfl, Nat.zero_le _, Below.refl _ _⟩
    obtain ⟨q, rfl, hq, hbq⟩ := hrel
    obtain ⟨wq, rfl⟩ : ∃ wq : World, wq = wr := ⟨_, rfl⟩
    by_cases hqn : q < n
    · have dq : decide ((q : Int) < (n : Int)) = true := decide_eq_true (by omega)
      have dqN : decide (q < n) = true := decide_eq_true hqn
      have bq : (q : Int) < (n : Int) := by omega
      have wq' : IntKind.i64.wrap ((q : Int) + 1) = (q : Int) + 1 := IntWalk.i64_in _ (by have := HN30.out; omega)
      obtain ⟨⟨xi, xb, xs, xt, xa, xr⟩, hx⟩ : ∃ c, l[q]? = some c := ⟨_, List.getElem?_eq_getElem (by have := HN.out; omega)⟩
      have hbw := HBL.out.trans (hbq.mono HBL.out.size)
      obtain ⟨b, o', rfl, _⟩ := HL.out (by have := HN.out; omega)
      obtain ⟨p0, p1, p2, p3, p4, p5⟩ := (HL.out.below hbw).sixA hx
      have chx := fun W hr => HCH.out ⟨xi, xb, xs, xt, xa, xr⟩ W (List.mem_of_getElem? hx) hr
      unfold cellsC at chx
      simp only at chx p0 p1 p2 p3 p4 p5
      have HBQ := Lib.hid hbq
      clear hx hbw hbq
      go_wp2_with fail
      refine (chx _ (HC9.out.below HBQ.out)).mono ?_
      rintro e w6 ⟨rfl, hbx⟩
      have HB6 := Lib.hid (HBQ.out.trans (hbx.mono HBQ.out.size))
      clear hbx chx p0 p1 p2 p3 p4 p5
      go_wp2
      go_roundw
      case rel => exact ⟨q + 1, by go_num, hqn, HB6.out⟩
      case measure => simp [intOf]; omega
    have dq : decide ((q : Int) < (n : Int)) = false := decide_eq_false (by omega)
    have dqN : decide (q < n) = false := decide_eq_false hqn
    have HB6 := Lib.hid (HBL.out.trans (hbq.mono HBL.out.size))
    clear hbq
    go_wp2
    go_ret
    exact ⟨rfl, HB6.out⟩
  | true =>
  have hi : i < 60 := by have := hW.len; have := (hW.go rfl).1; have := HN.out; have := HON.out; have := HN30.out; omega
  have di : decide ((i : Int) < 60) = true := decide_eq_true (by omega)
  have diN : decide (i < 60) = true := decide_eq_true hi
  have wi : IntKind.i64.wrap ((i : Int) + 1) = (i : Int) + 1 := IntWalk.i64_in _ (by omega)
  have HW := Lib.hid hW
  have HT := Lib.hid hT
  have HI := Lib.hid hi
  have HBR := Lib.hid (hT.bel.alloc hT.bel.size (.cells #[] 39))
  have HOW := Lib.hid (own_new wo)
  clear hW hT hi60 hi
  go_wp2_with (at_builtin; go_loud (refine wpList_append_cards rfl _ _ rfl wo.heap.size _ 0 [] rfl HOW.out A0 C0 n l HN.out (HSL.out _ HBR.out) rfl ?f1 ?f2 ?_))
  case f1 => have := HN30.out.1; omega
  case f2 => simp
  intro v12 w12 hown12 hb12
  (try simp only [Nat.zero_add, List.nil_append] at hown12)
  have HNB : Hid (NB wo l o i 0 v12 w12) := by
    refine ⟨?_, ((Below.refl _ wo).alloc (Nat.le_refl _) _).trans hb12⟩
    have : l ++ pickO i o 0 = l := by simp [pickO]
    rw [this, HN.out]
    exact hown12
  clear hown12 hb12 HOW HBR
  go_wp2
  go_loopw [12, 13] (fun v12 v13 wq => ∃ j : Nat, v13 = .int .i64 j ∧ j ≤ on ∧ Hid (NB wo l o i j v12 wq)) (fun _ v _ => on - (intOf v).toNat)
  case atStart => exact ⟨0, rfl, Nat.zero_le _, HNB⟩
  clear HNB
  obtain ⟨j, rfl, hj, hz⟩ := hrel
  obtain ⟨wq, rfl⟩ : ∃ wq : World, wq = wr := ⟨_, rfl⟩
  by_cases hjn : j < on
  · have dj : decide ((j : Int) < (on : Int)) = true := decide_eq_true (by omega)
    have djN : decide (j < on) = true := decide_eq_true hjn
    have bj : (j : Int) < (on : Int) := by omega
    have hj10 : j ≤ 10 := by have := HN30.out.2; omega
    have wj : IntKind.i64.wrap ((j : Int) + 1) = (j : Int) + 1 := IntWalk.i64_in _ (by omega)
    obtain ⟨ij, hij⟩ : ∃ ij, i + j = ij := ⟨_, rfl⟩
    have hij70 : ij ≤ 100 := by have := HI.out; omega
    have wij : IntKind.i64.wrap ((i : Int) + (j : Int)) = (ij : Int) := by rw [IntWalk.i64_in _ (by have := HI.out; omega)]; omega
    obtain ⟨mm, hmm⟩ : ∃ mm, ij % 3 = mm := ⟨_, rfl⟩
    have wm : Int.tmod (ij : Int) 3 = (mm : Int) := by rw [Int.tmod_eq_emod_of_nonneg (by omega)]; omega
    have hm3 : mm < 3 := by omega
    have wmw : IntKind.i64.wrap (mm : Int) = (mm : Int) := IntWalk.i64_in _ (by omega)
    obtain ⟨⟨xi, xb, xs, xt, xa, xr⟩, hx⟩ : ∃ c, o[j]? = some c := ⟨_, List.getElem?_eq_getElem (by have := HON.out; omega)⟩
    have HX := Lib.hid hx
    have HMM : Hid ((i + j) % 3 = mm) := by rw [Hid, hij]; exact hmm
    clear hx hij hmm hij70 hj10
    by_cases hm0 : mm = 0
    · have e0 : ((mm : Int) == 0) = true := beq_iff_eq.2 (by omega)
      have e0N : (mm == 0) = true := beq_iff_eq.2 hm0
      have HN2 : Hid (NB wo l o i (j + 1) u12 wq) := by
        unfold Hid NB
        rw [pick_no (by rw [HMM.out]; omega)]
        exact hz.out
      clear hm0 hz hm3
      go_wp2
      go_roundw
      case rel => exact ⟨j + 1, by go_num, hjn, HN2⟩
      case measure => simp [intOf]; omega
    · have e0 : ((mm : Int) == 0) = false := beq_eq_false_iff_ne.2 (by omega)
      have e0N : (mm == 0) = false := beq_eq_false_iff_ne.2 hm0
      have hpk := pick_yes HX.out (by rw [HMM.out]; exact hm0)
      have hbw := HT.out.bel.trans (hz.out.2.mono HT.out.bel.size)
      obtain ⟨b, o', rfl, _⟩ := HO.out (by have := HON.out; omega)
      obtain ⟨p0, p1, p2, p3, p4, p5⟩ := (HO.out.below hbw).sixA HX.out
      obtain ⟨ll, hll⟩ : ∃ ll, l ++ pickO i o j = ll := ⟨_, rfl⟩
      have hzz := hz.out
      unfold NB at hzz
      rw [hll] at hzz
      obtain ⟨va, vc, hva⟩ := own_form hzz.1
      rw [hva] at hzz
      have hlen : ll.length ≤ 1000 := by
        rw [← hll]
        have h1 := (pick_sub i o j).length_le
        rw [List.length_take] at h1
        rw [List.length_append]
        have := HN.out
        have := HN30.out
        omega
      have hown := Lib.hid (own_below hzz.1 ((Below.refl _ _).alloc (Nat.le_refl _) (.cells (cellsC ⟨xi, xb, xs, xt, xa, xr⟩) 39)))
      have hsz := Lib.hid hzz.2.size
      have HS1 : Hid (∀ W : World, SIn (W.alloc (.cells (cellsC ⟨xi, xb, xs, xt, xa, xr⟩) 39)) (some ⟨W.heap.size, 0, none⟩) 1 [⟨xi, xb, xs, xt, xa, xr⟩]) := fun W => .inr ⟨_, rfl, fun j u hu => new_cells W _ j u (by simpa [cardCells] using hu)⟩
      have HZ := Lib.hid hzz.2
      have HPK := Lib.hid hpk
      subst hva
      have HM0 := Lib.hid hm0
      clear hz hzz hbw hpk hm0 hm3
      unfold cellsC at hown HS1
      simp only at hown HS1 p0 p1 p2 p3 p4 p5
      go_wp2_with (at_builtin; go_loud (refine wpList_append_cards rfl _ _ rfl wo.heap.size _ ll.length (cardCells ll) rfl hown.out _ 1 1 _ rfl (HS1.out _) rfl ?c3 ?c4 ?_))
      case c3 => omega
      case c4 => have := hsz.out; simp; omega
      intro v' w' hown' hb'
      have HN2 : Hid (NB wo l o i (j + 1) v' w') := by
        refine ⟨?_, (HZ.out.alloc HZ.out.size _).trans hb'⟩
        rw [HPK.out, ← List.append_assoc, hll, List.length_append, cardCells_app]
        exact hown'
      clear hown' hb' hown HS1 HZ HPK p0 p1 p2 p3 p4 p5
      go_wp2
      go_roundw
      case rel => exact ⟨j + 1, by go_num, hjn, HN2⟩
      case measure => simp [intOf]; omega
  have dj : decide ((j : Int) < (on : Int)) = false := decide_eq_false (by omega)
  have djN : decide (j < on) = false := decide_eq_false hjn
  obtain rfl : j = on := by omega
  obtain ⟨now, hnow⟩ : ∃ now, nowC i l o = now := ⟨_, rfl⟩
  have hnow2 : l ++ pickO i o j = now := by rw [← hnow]; unfold nowC; rw [HON.out]
  have hNB := hz.out
  unfold NB at hNB
  rw [hnow2] at hNB
  obtain ⟨A12, C12, hv12, hc12, _⟩ := cin_own (n := now.length) rfl hNB.1
  have hap : Apart u9 A12 now := fun h0 g b o f hv e => by
    have h1 := (own_lt HT.out.own hv).1
    have h2 := own_from (by rw [← e, ← hv12]; exact hNB.1)
    omega
  have hT2 := (HT.out.below hNB.2).list hc12.crow hap
  have HT2 := Lib.hid (hT2.below (Below.refl _ _).drew)
  subst hv12
  obtain ⟨m2, hm2⟩ : ∃ m, now.length = m := ⟨_, rfl⟩
  have hm50 : m2 ≤ 1000 := by
    have h1 := (now_sub i l o).length_le
    rw [hnow, hm2, List.length_append] at h1
    have := HN.out
    have := HON.out
    have := HN30.out
    omega
  obtain ⟨X, hX⟩ : ∃ X, sortS now = X := ⟨_, rfl⟩
  have HXl : Hid (X.length = m2) := by rw [Hid, ← hX, sortS_length, hm2]
  have cS : ∀ W, CRow W A12 now → Calls Try.prog 12 #[.slice A12 m2 C12] W (SortedP W X) := fun W h => by
    have := sort_c now A12 C12 W (by omega) h
    rw [hm2, hX] at this
    exact this
  have cN := fun A C z W hz hr => next_g k X m2 HXl.out A C z W hz (by omega) hr
  have cHn : ∀ (c : Card) (W : World), c ∈ now → CRow W A12 now → Calls Try.prog 16 #[.slice A12 m2 C12, .agg (cellsC c)] W (BoolPost W true) := fun c W hm hr => by
    have := has_any now m2 A12 C12 c W hm2 (by omega) hr
    rwa [decide_eq_true hm] at this
  have HWP : Hid (∀ q, 1 ≤ q → (seen ++ pageL k X q).Pairwise (fun x y => lessC x y = true) ∧ (∀ c ∈ pageL k X q, c ∈ now) ∧ Walk l o (i + 1) (seen ++ pageL k X q) (nextM k (pageL k X q)) (moreB k X q)) := fun q hq => by
    have := walk_page HD.out HW.out hq
    rw [hnow, hX] at this
    exact this
  have HCN := Lib.hid cHn
  have HI60 := Lib.hid HI.out
  rw [hm2]
  clear hz hNB hc12 hap hT2 hnow hnow2 hX HT HW cHn
  go_upto_region 17 with fail
  go_cut [14, 10] (fun v14 v10 wx => Hid (F17 w Bm k u9 seen A12 now X v14 v10 wx))
  case first =>
    have HT := HT2
    clear HT2 HWP HCN HSL HSO
    have hi1000 : i ≤ 1000 := by have := HI60.out; omega
    refine wp_region_held_drew (S := fun _ => True) (by kernel_rfl) (trivial) (fun hHeld => ?_)
    refine wpAnyH_take (i := 0) (oi := { dst := some 66, op := Go.Op.move (Go.Operand.tmp 12), type := 30, pos := "law.go:150", after := #[], guard := none }) (v := ?vT1_0) rfl (by kernel_rfl) (by kernel_rfl) (by kernel_rfl) (fun _ _ _ h => h) (Or.inl ⟨by rfl, ?yT1_0⟩) (by assumption) ?_
    case yT1_0 => (intro wX hSw; (try dsimp only at hSw); go_simp <;> with_reducible rfl)
    try simp only [Act.put, List.setIfInBounds_toArray, List.set_cons_zero, List.set_cons_succ]
    refine wpAnyH_take (i := 3) (oi := { dst := some 69, op := Go.Op.move (Go.Operand.tmp 2), type := 31, pos := "law.go:150", after := #[], guard := none }) (v := ?vT1_3) rfl (by kernel_rfl) (by kernel_rfl) (by kernel_rfl) (fun _ _ _ h => h) (Or.inl ⟨by rfl, ?yT1_3⟩) (by assumption) ?_
    case yT1_3 => (intro wX hSw; (try dsimp only at hSw); go_simp <;> with_reducible rfl)
    try simp only [Act.put, List.setIfInBounds_toArray, List.set_cons_zero, List.set_cons_succ]
    refine wpAnyH_take (i := 4) (oi := { dst := some 70, op := Go.Op.move (Go.Operand.tmp 11), type := 3, pos := "law.go:150", after := #[], guard := none }) (v := ?vT1_4) rfl (by kernel_rfl) (by kernel_rfl) (by kernel_rfl) (fun _ _ _ h => h) (Or.inl ⟨by rfl, ?yT1_4⟩) (by assumption) ?_
    case yT1_4 => (intro wX hSw; (try dsimp only at hSw); go_simp <;> with_reducible rfl)
    try simp only [Act.put, List.setIfInBounds_toArray, List.set_cons_zero, List.set_cons_succ]
    refine wpAnyH_ready (rs := [1, 2]) (by kernel_rfl) (by simp) (AllReadyH.cons (o := { dst := some 67, op := Go.Op.call { callee := Go.Callee.value (Go.Operand.func 12), args := #[Go.Operand.tmp 66], argTypes := #[30] }, type := 30, pos := "law.go:150", after := #[{ on := 0, ground := Go.Ground.data }], guard := none }) rfl (fun K hK => ?_) (AllReadyH.cons (o := { dst := some 68, op := Go.Op.load 23 (Go.Operand.tmp 8), type := 23, pos := "law.go:150", after := #[], guard := none }) rfl (fun K hK => ?_) AllReadyH.nil))
    · (go_simp; go_at_call 12; refine (cS _ HT.out.rn).mono ?_; rintro e ws ⟨AS, CS, rfl, hrS, hbx⟩)
      replace HT := Lib.hid (HT.out.below hbx)
      have HS := Lib.hid hrS
      clear hbx hrS
      rw [HXl.out]
      refine hK.out _ _ trivial (fun hHeld => ?_)
      clear hK K
      try simp only [Act.put, List.setIfInBounds_toArray, List.set_cons_zero, List.set_cons_succ]
      refine wpAnyH_ready (rs := [2, 5]) (by kernel_rfl) (by simp) (AllReadyH.cons (o := { dst := some 68, op := Go.Op.load 23 (Go.Operand.tmp 8), type := 23, pos := "law.go:150", after := #[], guard := none }) rfl (fun K hK => ?_) (AllReadyH.cons (o := { dst := some 71, op := Go.Op.call { callee := Go.Callee.value (Go.Operand.func 14), args := #[Go.Operand.tmp 69, Go.Operand.tmp 70], argTypes := #[31, 3] }, type := 3, pos := "law.go:150", after := #[{ on := 3, ground := Go.Ground.data }, { on := 4, ground := Go.Ground.data }, { on := 1, ground := Go.Ground.chain }], guard := none }) rfl (fun K hK => ?_) AllReadyH.nil))
      · obtain ⟨m0, m1, m2, m3, m4⟩ := fiveM HT.out.m
        go_simp
        clear m0 m1 m2 m3 m4
        refine hK.out _ _ trivial (fun hHeld => ?_)
        clear hK K
        try simp only [Act.put, List.setIfInBounds_toArray, List.set_cons_zero, List.set_cons_succ]
        refine wpAnyH_ready (rs := [5]) (by kernel_rfl) (by simp) (AllReadyH.cons (o := { dst := some 71, op := Go.Op.call { callee := Go.Callee.value (Go.Operand.func 14), args := #[Go.Operand.tmp 69, Go.Operand.tmp 70], argTypes := #[31, 3] }, type := 3, pos := "law.go:150", after := #[{ on := 3, ground := Go.Ground.data }, { on := 4, ground := Go.Ground.data }, { on := 1, ground := Go.Ground.chain }], guard := none }) rfl (fun K hK => ?_) AllReadyH.nil)
        (go_simp; go_at_call 14; refine (cz _ _ (by omega) (HA.out.below HT.out.bel)).mono ?_; rintro e wz ⟨z, hz1, hz2, rfl, rfl⟩)
        have HZ1 := Lib.hid hz1
        clear hz1 hz2
        refine hK.out _ _ trivial (fun hHeld => ?_)
        clear hK K
        try simp only [Act.put, List.setIfInBounds_toArray, List.set_cons_zero, List.set_cons_succ]
        refine wpAnyH_ready (rs := [6]) (by kernel_rfl) (by simp) (AllReadyH.cons (o := { dst := some 72, op := Go.Op.call { callee := Go.Callee.value (Go.Operand.func 15), args := #[Go.Operand.tmp 67, Go.Operand.tmp 68, Go.Operand.tmp 71], argTypes := #[30, 23, 3] }, type := 36, pos := "law.go:150", after := #[{ on := 1, ground := Go.Ground.data }, { on := 2, ground := Go.Ground.data }, { on := 5, ground := Go.Ground.data }, { on := 5, ground := Go.Ground.chain }], guard := none }) rfl (fun K hK => ?_) AllReadyH.nil)
        (go_simp; go_at_call 15; refine (cN _ _ _ _ HZ1.out HS.out).mono ?_; rintro e wn ⟨q, pg, k', mo, A14, C14, HQ, rfl, hc, hf, hbx⟩)
        have HFIN := Lib.hid (HT.out.next (C := C14) HQ hbx hc hf)
        replace HT := Lib.hid (HT.out.below hbx)
        clear hbx hc hf HS HZ1 HQ
        refine hK.out _ _ trivial (fun hHeld => ?_)
        clear hK K
        try simp only [Act.put, List.setIfInBounds_toArray, List.set_cons_zero, List.set_cons_succ]
        refine wpAnyH_take (i := 7) (oi := { dst := some 65, op := Go.Op.move (Go.Operand.tmp 72), type := 36, pos := "law.go:150", after := #[{ on := 6, ground := Go.Ground.data }], guard := none }) (v := ?vT5_7) rfl (by kernel_rfl) (by kernel_rfl) (by kernel_rfl) (fun _ _ _ h => h) (Or.inl ⟨by rfl, ?yT5_7⟩) (by assumption) ?_
        case yT5_7 => (intro wX hSw; (try dsimp only at hSw); go_simp <;> with_reducible rfl)
        try simp only [Act.put, List.setIfInBounds_toArray, List.set_cons_zero, List.set_cons_succ]
        refine wpAnyH_take (i := 8) (oi := { dst := some 73, op := Go.Op.extract (Go.Operand.tmp 65) 0, type := 30, pos := "law.go:150", after := #[{ on := 7, ground := Go.Ground.data }], guard := none }) (v := ?vT5_8) rfl (by kernel_rfl) (by kernel_rfl) (by kernel_rfl) (fun _ _ _ h => h) (Or.inl ⟨by rfl, ?yT5_8⟩) (by assumption) ?_
        case yT5_8 => (intro wX hSw; (try dsimp only at hSw); go_simp <;> with_reducible rfl)
        try simp only [Act.put, List.setIfInBounds_toArray, List.set_cons_zero, List.set_cons_succ]
        refine wpAnyH_take (i := 9) (oi := { dst := some 74, op := Go.Op.extract (Go.Operand.tmp 65) 1, type := 23, pos := "law.go:150", after := #[{ on := 7, ground := Go.Ground.data }, { on := 11, ground := Go.Ground.gcOnly Go.Departure.lateStores }], guard := none }) (v := ?vT5_9) rfl (by kernel_rfl) (by kernel_rfl) (by kernel_rfl) (fun _ _ _ h => h) (Or.inl ⟨by rfl, ?yT5_9⟩) (by assumption) ?_
        case yT5_9 => (intro wX hSw; (try dsimp only at hSw); go_simp <;> with_reducible rfl)
        try simp only [Act.put, List.setIfInBounds_toArray, List.set_cons_zero, List.set_cons_succ]
        refine wpAnyH_take (i := 10) (oi := { dst := some 75, op := Go.Op.extract (Go.Operand.tmp 65) 2, type := 4, pos := "law.go:150", after := #[{ on := 7, ground := Go.Ground.data }, { on := 12, ground := Go.Ground.gcOnly Go.Departure.lateStores }], guard := none }) (v := ?vT5_10) rfl (by kernel_rfl) (by kernel_rfl) (by kernel_rfl) (fun _ _ _ h => h) (Or.inl ⟨by rfl, ?yT5_10⟩) (by assumption) ?_
        case yT5_10 => (intro wX hSw; (try dsimp only at hSw); go_simp <;> with_reducible rfl)
        try simp only [Act.put, List.setIfInBounds_toArray, List.set_cons_zero, List.set_cons_succ]
        refine wpAnyH_take (i := 11) (oi := { dst := some 14, op := Go.Op.assign (Go.Operand.tmp 73), type := 30, pos := "law.go:150", after := #[{ on := 8, ground := Go.Ground.data }, { on := 6, ground := Go.Ground.chain }, { on := 0, ground := Go.Ground.phase }, { on := 1, ground := Go.Ground.phase }, { on := 2, ground := Go.Ground.phase }, { on := 3, ground := Go.Ground.phase }, { on := 4, ground := Go.Ground.phase }, { on := 5, ground := Go.Ground.phase }, { on := 6, ground := Go.Ground.phase }, { on := 7, ground := Go.Ground.phase }, { on := 8, ground := Go.Ground.phase }, { on := 9, ground := Go.Ground.textOnly Go.Departure.lateStores }, { on := 10, ground := Go.Ground.textOnly Go.Departure.lateStores }], guard := none }) (v := ?vT5_11) rfl (by kernel_rfl) (by kernel_rfl) (by kernel_rfl) (fun _ _ _ h => h) (Or.inl ⟨by rfl, ?yT5_11⟩) (by assumption) ?_
        case yT5_11 => (intro wX hSw; (try dsimp only at hSw); go_simp <;> with_reducible rfl)
        try simp only [Act.put, List.setIfInBounds_toArray, List.set_cons_zero, List.set_cons_succ]
        refine wpAnyH_ready (rs := [12]) (by kernel_rfl) (by simp) (AllReadyH.cons (o := { dst := none, op := Go.Op.store 23 (Go.Operand.tmp 8) (Go.Operand.tmp 74), type := 0, pos := "law.go:150", after := #[{ on := 9, ground := Go.Ground.data }, { on := 11, ground := Go.Ground.chain }, { on := 0, ground := Go.Ground.phase }, { on := 1, ground := Go.Ground.phase }, { on := 2, ground := Go.Ground.phase }, { on := 3, ground := Go.Ground.phase }, { on := 4, ground := Go.Ground.phase }, { on := 5, ground := Go.Ground.phase }, { on := 6, ground := Go.Ground.phase }, { on := 7, ground := Go.Ground.phase }, { on := 8, ground := Go.Ground.phase }, { on := 9, ground := Go.Ground.phase }, { on := 10, ground := Go.Ground.textOnly Go.Departure.lateStores }, { on := 11, ground := Go.Ground.phase }], guard := none }) rfl (fun K hK => ?_) AllReadyH.nil)
        obtain ⟨m0, m1, m2, m3, m4⟩ := fiveM HT.out.m
        have hfz := fun j => frozen_row HT.out.m j
        have f0 := hfz 0
        have f1 := hfz 1
        have f2 := hfz 2
        have f3 := hfz 3
        have f4 := hfz 4
        clear hfz
        go_simp
        clear m0 m1 m2 m3 m4 f0 f1 f2 f3 f4
        refine hK.out _ _ trivial (fun hHeld => ?_)
        clear hK K
        try simp only [Act.put, List.setIfInBounds_toArray, List.set_cons_zero, List.set_cons_succ]
        refine wpAnyH_take (i := 13) (oi := { dst := some 10, op := Go.Op.assign (Go.Operand.tmp 75), type := 4, pos := "law.go:150", after := #[{ on := 10, ground := Go.Ground.data }, { on := 12, ground := Go.Ground.chain }, { on := 0, ground := Go.Ground.phase }, { on := 1, ground := Go.Ground.phase }, { on := 2, ground := Go.Ground.phase }, { on := 3, ground := Go.Ground.phase }, { on := 4, ground := Go.Ground.phase }, { on := 5, ground := Go.Ground.phase }, { on := 6, ground := Go.Ground.phase }, { on := 7, ground := Go.Ground.phase }, { on := 8, ground := Go.Ground.phase }, { on := 9, ground := Go.Ground.phase }, { on := 10, ground := Go.Ground.phase }, { on := 11, ground := Go.Ground.phase }, { on := 12, ground := Go.Ground.phase }], guard := none }) (v := ?vT6_13) rfl (by kernel_rfl) (by kernel_rfl) (by kernel_rfl) (fun _ _ _ h => h) (Or.inl ⟨by rfl, ?yT6_13⟩) (by assumption) ?_
        case yT6_13 => (intro wX hSw; (try dsimp only at hSw); go_simp <;> with_reducible rfl)
        try simp only [Act.put, List.setIfInBounds_toArray, List.set_cons_zero, List.set_cons_succ]
        refine wpAnyH_done (by kernel_rfl) ?_ _
        go_wp2
        go_meet
        exact HFIN.out
      · (go_simp; go_at_call 14; refine (cz _ _ (by omega) (HA.out.below HT.out.bel)).mono ?_; rintro e wz ⟨z, hz1, hz2, rfl, rfl⟩)
        have HZ1 := Lib.hid hz1
        clear hz1 hz2
        refine hK.out _ _ trivial (fun hHeld => ?_)
        clear hK K
        try simp only [Act.put, List.setIfInBounds_toArray, List.set_cons_zero, List.set_cons_succ]
        refine wpAnyH_ready (rs := [2]) (by kernel_rfl) (by simp) (AllReadyH.cons (o := { dst := some 68, op := Go.Op.load 23 (Go.Operand.tmp 8), type := 23, pos := "law.go:150", after := #[], guard := none }) rfl (fun K hK => ?_) AllReadyH.nil)
        obtain ⟨m0, m1, m2, m3, m4⟩ := fiveM HT.out.m
        go_simp
        clear m0 m1 m2 m3 m4
        refine hK.out _ _ trivial (fun hHeld => ?_)
        clear hK K
        try simp only [Act.put, List.setIfInBounds_toArray, List.set_cons_zero, List.set_cons_succ]
        refine wpAnyH_ready (rs := [6]) (by kernel_rfl) (by simp) (AllReadyH.cons (o := { dst := some 72, op := Go.Op.call { callee := Go.Callee.value (Go.Operand.func 15), args := #[Go.Operand.tmp 67, Go.Operand.tmp 68, Go.Operand.tmp 71], argTypes := #[30, 23, 3] }, type := 36, pos := "law.go:150", after := #[{ on := 1, ground := Go.Ground.data }, { on := 2, ground := Go.Ground.data }, { on := 5, ground := Go.Ground.data }, { on := 5, ground := Go.Ground.chain }], guard := none }) rfl (fun K hK => ?_) AllReadyH.nil)
        (go_simp; go_at_call 15; refine (cN _ _ _ _ HZ1.out HS.out).mono ?_; rintro e wn ⟨q, pg, k', mo, A14, C14, HQ, rfl, hc, hf, hbx⟩)
        have HFIN := Lib.hid (HT.out.next (C := C14) HQ hbx hc hf)
        replace HT := Lib.hid (HT.out.below hbx)
        clear hbx hc hf HS HZ1 HQ
        refine hK.out _ _ trivial (fun hHeld => ?_)
        clear hK K
        try simp only [Act.put, List.setIfInBounds_toArray, List.set_cons_zero, List.set_cons_succ]
        refine wpAnyH_take (i := 7) (oi := { dst := some 65, op := Go.Op.move (Go.Operand.tmp 72), type := 36, pos := "law.go:150", after := #[{ on := 6, ground := Go.Ground.data }], guard := none }) (v := ?vT9_7) rfl (by kernel_rfl) (by kernel_rfl) (by kernel_rfl) (fun _ _ _ h => h) (Or.inl ⟨by rfl, ?yT9_7⟩) (by assumption) ?_
        case yT9_7 => (intro wX hSw; (try dsimp only at hSw); go_simp <;> with_reducible rfl)
        try simp only [Act.put, List.setIfInBounds_toArray, List.set_cons_zero, List.set_cons_succ]
        refine wpAnyH_take (i := 8) (oi := { dst := some 73, op := Go.Op.extract (Go.Operand.tmp 65) 0, type := 30, pos := "law.go:150", after := #[{ on := 7, ground := Go.Ground.data }], guard := none }) (v := ?vT9_8) rfl (by kernel_rfl) (by kernel_rfl) (by kernel_rfl) (fun _ _ _ h => h) (Or.inl ⟨by rfl, ?yT9_8⟩) (by assumption) ?_
        case yT9_8 => (intro wX hSw; (try dsimp only at hSw); go_simp <;> with_reducible rfl)
        try simp only [Act.put, List.setIfInBounds_toArray, List.set_cons_zero, List.set_cons_succ]
        refine wpAnyH_take (i := 9) (oi := { dst := some 74, op := Go.Op.extract (Go.Operand.tmp 65) 1, type := 23, pos := "law.go:150", after := #[{ on := 7, ground := Go.Ground.data }, { on := 11, ground := Go.Ground.gcOnly Go.Departure.lateStores }], guard := none }) (v := ?vT9_9) rfl (by kernel_rfl) (by kernel_rfl) (by kernel_rfl) (fun _ _ _ h => h) (Or.inl ⟨by rfl, ?yT9_9⟩) (by assumption) ?_
        case yT9_9 => (intro wX hSw; (try dsimp only at hSw); go_simp <;> with_reducible rfl)
        try simp only [Act.put, List.setIfInBounds_toArray, List.set_cons_zero, List.set_cons_succ]
        refine wpAnyH_take (i := 10) (oi := { dst := some 75, op := Go.Op.extract (Go.Operand.tmp 65) 2, type := 4, pos := "law.go:150", after := #[{ on := 7, ground := Go.Ground.data }, { on := 12, ground := Go.Ground.gcOnly Go.Departure.lateStores }], guard := none }) (v := ?vT9_10) rfl (by kernel_rfl) (by kernel_rfl) (by kernel_rfl) (fun _ _ _ h => h) (Or.inl ⟨by rfl, ?yT9_10⟩) (by assumption) ?_
        case yT9_10 => (intro wX hSw; (try dsimp only at hSw); go_simp <;> with_reducible rfl)
        try simp only [Act.put, List.setIfInBounds_toArray, List.set_cons_zero, List.set_cons_succ]
        refine wpAnyH_take (i := 11) (oi := { dst := some 14, op := Go.Op.assign (Go.Operand.tmp 73), type := 30, pos := "law.go:150", after := #[{ on := 8, ground := Go.Ground.data }, { on := 6, ground := Go.Ground.chain }, { on := 0, ground := Go.Ground.phase }, { on := 1, ground := Go.Ground.phase }, { on := 2, ground := Go.Ground.phase }, { on := 3, ground := Go.Ground.phase }, { on := 4, ground := Go.Ground.phase }, { on := 5, ground := Go.Ground.phase }, { on := 6, ground := Go.Ground.phase }, { on := 7, ground := Go.Ground.phase }, { on := 8, ground := Go.Ground.phase }, { on := 9, ground := Go.Ground.textOnly Go.Departure.lateStores }, { on := 10, ground := Go.Ground.textOnly Go.Departure.lateStores }], guard := none }) (v := ?vT9_11) rfl (by kernel_rfl) (by kernel_rfl) (by kernel_rfl) (fun _ _ _ h => h) (Or.inl ⟨by rfl, ?yT9_11⟩) (by assumption) ?_
        case yT9_11 => (intro wX hSw; (try dsimp only at hSw); go_simp <;> with_reducible rfl)
        try simp only [Act.put, List.setIfInBounds_toArray, List.set_cons_zero, List.set_cons_succ]
        refine wpAnyH_ready (rs := [12]) (by kernel_rfl) (by simp) (AllReadyH.cons (o := { dst := none, op := Go.Op.store 23 (Go.Operand.tmp 8) (Go.Operand.tmp 74), type := 0, pos := "law.go:150", after := #[{ on := 9, ground := Go.Ground.data }, { on := 11, ground := Go.Ground.chain }, { on := 0, ground := Go.Ground.phase }, { on := 1, ground := Go.Ground.phase }, { on := 2, ground := Go.Ground.phase }, { on := 3, ground := Go.Ground.phase }, { on := 4, ground := Go.Ground.phase }, { on := 5, ground := Go.Ground.phase }, { on := 6, ground := Go.Ground.phase }, { on := 7, ground := Go.Ground.phase }, { on := 8, ground := Go.Ground.phase }, { on := 9, ground := Go.Ground.phase }, { on := 10, ground := Go.Ground.textOnly Go.Departure.lateStores }, { on := 11, ground := Go.Ground.phase }], guard := none }) rfl (fun K hK => ?_) AllReadyH.nil)
        obtain ⟨m0, m1, m2, m3, m4⟩ := fiveM HT.out.m
        have hfz := fun j => frozen_row HT.out.m j
        have f0 := hfz 0
        have f1 := hfz 1
        have f2 := hfz 2
        have f3 := hfz 3
        have f4 := hfz 4
        clear hfz
        go_simp
        clear m0 m1 m2 m3 m4 f0 f1 f2 f3 f4
        refine hK.out _ _ trivial (fun hHeld => ?_)
        clear hK K
        try simp only [Act.put, List.setIfInBounds_toArray, List.set_cons_zero, List.set_cons_succ]
        refine wpAnyH_take (i := 13) (oi := { dst := some 10, op := Go.Op.assign (Go.Operand.tmp 75), type := 4, pos := "law.go:150", after := #[{ on := 10, ground := Go.Ground.data }, { on := 12, ground := Go.Ground.chain }, { on := 0, ground := Go.Ground.phase }, { on := 1, ground := Go.Ground.phase }, { on := 2, ground := Go.Ground.phase }, { on := 3, ground := Go.Ground.phase }, { on := 4, ground := Go.Ground.phase }, { on := 5, ground := Go.Ground.phase }, { on := 6, ground := Go.Ground.phase }, { on := 7, ground := Go.Ground.phase }, { on := 8, ground := Go.Ground.phase }, { on := 9, ground := Go.Ground.phase }, { on := 10, ground := Go.Ground.phase }, { on := 11, ground := Go.Ground.phase }, { on := 12, ground := Go.Ground.phase }], guard := none }) (v := ?vT10_13) rfl (by kernel_rfl) (by kernel_rfl) (by kernel_rfl) (fun _ _ _ h => h) (Or.inl ⟨by rfl, ?yT10_13⟩) (by assumption) ?_
        case yT10_13 => (intro wX hSw; (try dsimp only at hSw); go_simp <;> with_reducible rfl)
        try simp only [Act.put, List.setIfInBounds_toArray, List.set_cons_zero, List.set_cons_succ]
        refine wpAnyH_done (by kernel_rfl) ?_ _
        go_wp2
        go_meet
        exact HFIN.out
    · obtain ⟨m0, m1, m2, m3, m4⟩ := fiveM HT.out.m
      go_simp
      clear m0 m1 m2 m3 m4
      refine hK.out _ _ trivial (fun hHeld => ?_)
      clear hK K
      try simp only [Act.put, List.setIfInBounds_toArray, List.set_cons_zero, List.set_cons_succ]
      refine wpAnyH_ready (rs := [1]) (by kernel_rfl) (by simp) (AllReadyH.cons (o := { dst := some 67, op := Go.Op.call { callee := Go.Callee.value (Go.Operand.func 12), args := #[Go.Operand.tmp 66], argTypes := #[30] }, type := 30, pos := "law.go:150", after := #[{ on := 0, ground := Go.Ground.data }], guard := none }) rfl (fun K hK => ?_) AllReadyH.nil)
      (go_simp; go_at_call 12; refine (cS _ HT.out.rn).mono ?_; rintro e ws ⟨AS, CS, rfl, hrS, hbx⟩)
      replace HT := Lib.hid (HT.out.below hbx)
      have HS := Lib.hid hrS
      clear hbx hrS
      rw [HXl.out]
      refine hK.out _ _ trivial (fun hHeld => ?_)
      clear hK K
      try simp only [Act.put, List.setIfInBounds_toArray, List.set_cons_zero, List.set_cons_succ]
      refine wpAnyH_ready (rs := [5]) (by kernel_rfl) (by simp) (AllReadyH.cons (o := { dst := some 71, op := Go.Op.call { callee := Go.Callee.value (Go.Operand.func 14), args := #[Go.Operand.tmp 69, Go.Operand.tmp 70], argTypes := #[31, 3] }, type := 3, pos := "law.go:150", after := #[{ on := 3, ground := Go.Ground.data }, { on := 4, ground := Go.Ground.data }, { on := 1, ground := Go.Ground.chain }], guard := none }) rfl (fun K hK => ?_) AllReadyH.nil)
      (go_simp; go_at_call 14; refine (cz _ _ (by omega) (HA.out.below HT.out.bel)).mono ?_; rintro e wz ⟨z, hz1, hz2, rfl, rfl⟩)
      have HZ1 := Lib.hid hz1
      clear hz1 hz2
      refine hK.out _ _ trivial (fun hHeld => ?_)
      clear hK K
      try simp only [Act.put, List.setIfInBounds_toArray, List.set_cons_zero, List.set_cons_succ]
      refine wpAnyH_ready (rs := [6]) (by kernel_rfl) (by simp) (AllReadyH.cons (o := { dst := some 72, op := Go.Op.call { callee := Go.Callee.value (Go.Operand.func 15), args := #[Go.Operand.tmp 67, Go.Operand.tmp 68, Go.Operand.tmp 71], argTypes := #[30, 23, 3] }, type := 36, pos := "law.go:150", after := #[{ on := 1, ground := Go.Ground.data }, { on := 2, ground := Go.Ground.data }, { on := 5, ground := Go.Ground.data }, { on := 5, ground := Go.Ground.chain }], guard := none }) rfl (fun K hK => ?_) AllReadyH.nil)
      (go_simp; go_at_call 15; refine (cN _ _ _ _ HZ1.out HS.out).mono ?_; rintro e wn ⟨q, pg, k', mo, A14, C14, HQ, rfl, hc, hf, hbx⟩)
      have HFIN := Lib.hid (HT.out.next (C := C14) HQ hbx hc hf)
      replace HT := Lib.hid (HT.out.below hbx)
      clear hbx hc hf HS HZ1 HQ
      refine hK.out _ _ trivial (fun hHeld => ?_)
      clear hK K
      try simp only [Act.put, List.setIfInBounds_toArray, List.set_cons_zero, List.set_cons_succ]
      refine wpAnyH_take (i := 7) (oi := { dst := some 65, op := Go.Op.move (Go.Operand.tmp 72), type := 36, pos := "law.go:150", after := #[{ on := 6, ground := Go.Ground.data }], guard := none }) (v := ?vT14_7) rfl (by kernel_rfl) (by kernel_rfl) (by kernel_rfl) (fun _ _ _ h => h) (Or.inl ⟨by rfl, ?yT14_7⟩) (by assumption) ?_
      case yT14_7 => (intro wX hSw; (try dsimp only at hSw); go_simp <;> with_reducible rfl)
      try simp only [Act.put, List.setIfInBounds_toArray, List.set_cons_zero, List.set_cons_succ]
      refine wpAnyH_take (i := 8) (oi := { dst := some 73, op := Go.Op.extract (Go.Operand.tmp 65) 0, type := 30, pos := "law.go:150", after := #[{ on := 7, ground := Go.Ground.data }], guard := none }) (v := ?vT14_8) rfl (by kernel_rfl) (by kernel_rfl) (by kernel_rfl) (fun _ _ _ h => h) (Or.inl ⟨by rfl, ?yT14_8⟩) (by assumption) ?_
      case yT14_8 => (intro wX hSw; (try dsimp only at hSw); go_simp <;> with_reducible rfl)
      try simp only [Act.put, List.setIfInBounds_toArray, List.set_cons_zero, List.set_cons_succ]
      refine wpAnyH_take (i := 9) (oi := { dst := some 74, op := Go.Op.extract (Go.Operand.tmp 65) 1, type := 23, pos := "law.go:150", after := #[{ on := 7, ground := Go.Ground.data }, { on := 11, ground := Go.Ground.gcOnly Go.Departure.lateStores }], guard := none }) (v := ?vT14_9) rfl (by kernel_rfl) (by kernel_rfl) (by kernel_rfl) (fun _ _ _ h => h) (Or.inl ⟨by rfl, ?yT14_9⟩) (by assumption) ?_
      case yT14_9 => (intro wX hSw; (try dsimp only at hSw); go_simp <;> with_reducible rfl)
      try simp only [Act.put, List.setIfInBounds_toArray, List.set_cons_zero, List.set_cons_succ]
      refine wpAnyH_take (i := 10) (oi := { dst := some 75, op := Go.Op.extract (Go.Operand.tmp 65) 2, type := 4, pos := "law.go:150", after := #[{ on := 7, ground := Go.Ground.data }, { on := 12, ground := Go.Ground.gcOnly Go.Departure.lateStores }], guard := none }) (v := ?vT14_10) rfl (by kernel_rfl) (by kernel_rfl) (by kernel_rfl) (fun _ _ _ h => h) (Or.inl ⟨by rfl, ?yT14_10⟩) (by assumption) ?_
      case yT14_10 => (intro wX hSw; (try dsimp only at hSw); go_simp <;> with_reducible rfl)
      try simp only [Act.put, List.setIfInBounds_toArray, List.set_cons_zero, List.set_cons_succ]
      refine wpAnyH_take (i := 11) (oi := { dst := some 14, op := Go.Op.assign (Go.Operand.tmp 73), type := 30, pos := "law.go:150", after := #[{ on := 8, ground := Go.Ground.data }, { on := 6, ground := Go.Ground.chain }, { on := 0, ground := Go.Ground.phase }, { on := 1, ground := Go.Ground.phase }, { on := 2, ground := Go.Ground.phase }, { on := 3, ground := Go.Ground.phase }, { on := 4, ground := Go.Ground.phase }, { on := 5, ground := Go.Ground.phase }, { on := 6, ground := Go.Ground.phase }, { on := 7, ground := Go.Ground.phase }, { on := 8, ground := Go.Ground.phase }, { on := 9, ground := Go.Ground.textOnly Go.Departure.lateStores }, { on := 10, ground := Go.Ground.textOnly Go.Departure.lateStores }], guard := none }) (v := ?vT14_11) rfl (by kernel_rfl) (by kernel_rfl) (by kernel_rfl) (fun _ _ _ h => h) (Or.inl ⟨by rfl, ?yT14_11⟩) (by assumption) ?_
      case yT14_11 => (intro wX hSw; (try dsimp only at hSw); go_simp <;> with_reducible rfl)
      try simp only [Act.put, List.setIfInBounds_toArray, List.set_cons_zero, List.set_cons_succ]
      refine wpAnyH_ready (rs := [12]) (by kernel_rfl) (by simp) (AllReadyH.cons (o := { dst := none, op := Go.Op.store 23 (Go.Operand.tmp 8) (Go.Operand.tmp 74), type := 0, pos := "law.go:150", after := #[{ on := 9, ground := Go.Ground.data }, { on := 11, ground := Go.Ground.chain }, { on := 0, ground := Go.Ground.phase }, { on := 1, ground := Go.Ground.phase }, { on := 2, ground := Go.Ground.phase }, { on := 3, ground := Go.Ground.phase }, { on := 4, ground := Go.Ground.phase }, { on := 5, ground := Go.Ground.phase }, { on := 6, ground := Go.Ground.phase }, { on := 7, ground := Go.Ground.phase }, { on := 8, ground := Go.Ground.phase }, { on := 9, ground := Go.Ground.phase }, { on := 10, ground := Go.Ground.textOnly Go.Departure.lateStores }, { on := 11, ground := Go.Ground.phase }], guard := none }) rfl (fun K hK => ?_) AllReadyH.nil)
      obtain ⟨m0, m1, m2, m3, m4⟩ := fiveM HT.out.m
      have hfz := fun j => frozen_row HT.out.m j
      have f0 := hfz 0
      have f1 := hfz 1
      have f2 := hfz 2
      have f3 := hfz 3
      have f4 := hfz 4
      clear hfz
      go_simp
      clear m0 m1 m2 m3 m4 f0 f1 f2 f3 f4
      refine hK.out _ _ trivial (fun hHeld => ?_)
      clear hK K
      try simp only [Act.put, List.setIfInBounds_toArray, List.set_cons_zero, List.set_cons_succ]
      refine wpAnyH_take (i := 13) (oi := { dst := some 10, op := Go.Op.assign (Go.Operand.tmp 75), type := 4, pos := "law.go:150", after := #[{ on := 10, ground := Go.Ground.data }, { on := 12, ground := Go.Ground.chain }, { on := 0, ground := Go.Ground.phase }, { on := 1, ground := Go.Ground.phase }, { on := 2, ground := Go.Ground.phase }, { on := 3, ground := Go.Ground.phase }, { on := 4, ground := Go.Ground.phase }, { on := 5, ground := Go.Ground.phase }, { on := 6, ground := Go.Ground.phase }, { on := 7, ground := Go.Ground.phase }, { on := 8, ground := Go.Ground.phase }, { on := 9, ground := Go.Ground.phase }, { on := 10, ground := Go.Ground.phase }, { on := 11, ground := Go.Ground.phase }, { on := 12, ground := Go.Ground.phase }], guard := none }) (v := ?vT15_13) rfl (by kernel_rfl) (by kernel_rfl) (by kernel_rfl) (fun _ _ _ h => h) (Or.inl ⟨by rfl, ?yT15_13⟩) (by assumption) ?_
      case yT15_13 => (intro wX hSw; (try dsimp only at hSw); go_simp <;> with_reducible rfl)
      try simp only [Act.put, List.setIfInBounds_toArray, List.set_cons_zero, List.set_cons_succ]
      refine wpAnyH_done (by kernel_rfl) ?_ _
      go_wp2
      go_meet
      exact HFIN.out
  case rest =>
  obtain ⟨q, pg, k', mo, A14, C14, ⟨hq1, hq2, hq3, hq4⟩, rfl, rfl, hT3⟩ := hcut.out
  have HT3 := Lib.hid hT3
  obtain ⟨hw1, hw2, hw3⟩ := HWP.out q hq1
  rw [hq2] at hw1 hw2 hw3
  rw [hq3, hq4] at hw3
  have HW1 := Lib.hid hw1
  have HW2 := Lib.hid hw2
  have HW3 := Lib.hid hw3
  obtain ⟨pl, hpl⟩ : ∃ pl, pg.length = pl := ⟨_, rfl⟩
  have hl50 : seen.length + pl ≤ 1000 := by
    have := hw3.len
    rw [List.length_append, hpl] at this
    have := HN.out
    have := HON.out
    have := HN30.out
    omega
  have HPL := Lib.hid hpl
  have HL50 := Lib.hid hl50
  rw [hpl]
  clear hcut hT3 hw1 hw2 hw3 hq1 hq2 hq3 hq4 HWP cS cN hpl hl50 HT2
  go_wp2
  go_loopw [9, 15] (fun v9 v15 wq => ∃ j : Nat, v15 = .int .i64 j ∧ j ≤ pl ∧ Hid (PT w Bm k' v9 (seen ++ pg.take j) A12 now A14 pg wq)) (fun _ v _ => pl - (intOf v).toNat)
  case atStart => exact ⟨0, rfl, Nat.zero_le _, by rw [List.take_zero, List.append_nil]; exact HT3⟩
  clear HT3
  obtain ⟨j, rfl, hj, hz⟩ := hrel
  obtain ⟨wq, rfl⟩ : ∃ wq : World, wq = wr := ⟨_, rfl⟩
  by_cases hjn : j < pl
  · have dj : decide ((j : Int) < (pl : Int)) = true := decide_eq_true (by omega)
    have djN : decide (j < pl) = true := decide_eq_true hjn
    have bj : (j : Int) < (pl : Int) := by omega
    have wj : IntKind.i64.wrap ((j : Int) + 1) = (j : Int) + 1 := IntWalk.i64_in _ (by have := HL50.out; omega)
    obtain ⟨⟨xi, xb, xs, xt, xa, xr⟩, hx⟩ : ∃ c, pg[j]? = some c := ⟨_, List.getElem?_eq_getElem (by have := HPL.out; omega)⟩
    obtain ⟨hpc1, hpc2⟩ := page_card HW1.out hx
    obtain ⟨sj, hsj⟩ : ∃ sj, seen ++ pg.take j = sj := ⟨_, rfl⟩
    have hsn : seen ++ pg.take (j + 1) = sj ++ [⟨xi, xb, xs, xt, xa, xr⟩] := by rw [List.take_add_one, hx, ← List.append_assoc, hsj]; rfl
    obtain ⟨sl, hsl⟩ : ∃ sl, sj.length = sl := ⟨_, rfl⟩
    have hsl2 : sl ≤ 1000 := by
      rw [← hsl, ← hsj, List.length_append, List.length_take]
      have := HPL.out
      have := HL50.out
      omega
    rw [hsj] at hz hpc1 hpc2
    have HT := Lib.hid hz.out
    obtain ⟨A9, C9, hv9, hc9, _⟩ := cin_own (n := sl) hsl HT.out.own
    obtain ⟨bp, o', rfl, _⟩ := HT.out.rp (by have := HPL.out; omega)
    subst hv9
    have HC9 := Lib.hid hc9
    have cH1 : ∀ W, Below wq.heap.size wq W → Calls Try.prog 16 #[.slice A9 sl C9, .agg #[.string (bs xi), .string (bs xb), .int .i64 xs, .int .i64 xt, .int .i64 xa, .string (bs xr)]] W (BoolPost W false) := fun W hb => by
      have := has_any sj sl A9 C9 ⟨xi, xb, xs, xt, xa, xr⟩ W hsl (by omega) (HC9.out.crow.below hb)
      rwa [hpc1] at this
    have cH2 : ∀ W, Below wq.heap.size wq W → Calls Try.prog 16 #[.slice A12 m2 C12, .agg #[.string (bs xi), .string (bs xb), .int .i64 xs, .int .i64 xt, .int .i64 xa, .string (bs xr)]] W (BoolPost W true) := fun W hb =>
      HCN.out ⟨xi, xb, xs, xt, xa, xr⟩ W (HW2.out _ (List.mem_of_getElem? hx)) (HT.out.rn.below hb)
    have HX6 : Hid (∀ W, Below wq.heap.size wq W → (W.cell? ⟨bp, o' + j * 6, none⟩ = some (.string (bs xi)) ∧ W.cell? ⟨bp, o' + j * 6 + 1, none⟩ = some (.string (bs xb)) ∧ W.cell? ⟨bp, o' + j * 6 + 2, none⟩ = some (.int .i64 xs) ∧ W.cell? ⟨bp, o' + j * 6 + 3, none⟩ = some (.int .i64 xt) ∧ W.cell? ⟨bp, o' + j * 6 + 4, none⟩ = some (.int .i64 xa) ∧ W.cell? ⟨bp, o' + j * 6 + 5, none⟩ = some (.string (bs xr)))) := fun W hb => (HT.out.rp.below hb).sixA hx
    have HPC := Lib.hid hpc2
    have HSN := Lib.hid hsn
    have HSL2 := Lib.hid hsl2
    have HSLL := Lib.hid hsl
    clear hx hpc1 hpc2 hsn hz hc9 hsj hsl hsl2
    go_upto_region 21 with fail
    go_cut [115] (fun v wx => v = .bool false ∧ Below wq.heap.size wq wx)
    case first =>
      by_cases hs0 : sl = 0
      · subst hs0
        have FF := HX6
        clear HSN
        refine wp_region_held_drew (S := (fun W => Below wq.heap.size wq W ∧ (W.cell? ⟨bp, o' + j * 6, none⟩ = some (.string (bs xi)) ∧ W.cell? ⟨bp, o' + j * 6 + 1, none⟩ = some (.string (bs xb)) ∧ W.cell? ⟨bp, o' + j * 6 + 2, none⟩ = some (.int .i64 xs) ∧ W.cell? ⟨bp, o' + j * 6 + 3, none⟩ = some (.int .i64 xt) ∧ W.cell? ⟨bp, o' + j * 6 + 4, none⟩ = some (.int .i64 xa) ∧ W.cell? ⟨bp, o' + j * 6 + 5, none⟩ = some (.string (bs xr))))) (by kernel_rfl) (⟨(Below.refl wq.heap.size wq).drew, FF.out _ (Below.refl wq.heap.size wq).drew⟩) (fun hHeld => ?_)
        refine wpAnyH_take (i := 0) (oi := { dst := some 82, op := Go.Op.move (Go.Operand.tmp 9), type := 30, pos := "law.go:152", after := #[], guard := none }) (v := ?vA0) rfl (by kernel_rfl) (by kernel_rfl) (by kernel_rfl) (fun _ _ _ h => h) (Or.inl ⟨by rfl, ?yA0⟩) (by assumption) ?_
        case yA0 => (intro wX hSw; (try dsimp only at hSw); go_simp <;> with_reducible rfl)
        try simp only [Act.put, List.setIfInBounds_toArray, List.set_cons_zero, List.set_cons_succ]
        refine wpAnyH_take (i := 1) (oi := { dst := some 83, op := Go.Op.move (Go.Operand.tmp 14), type := 30, pos := "law.go:152", after := #[], guard := none }) (v := ?vA1) rfl (by kernel_rfl) (by kernel_rfl) (by kernel_rfl) (fun _ _ _ h => h) (Or.inl ⟨by rfl, ?yA1⟩) (by assumption) ?_
        case yA1 => (intro wX hSw; (try dsimp only at hSw); go_simp <;> with_reducible rfl)
        try simp only [Act.put, List.setIfInBounds_toArray, List.set_cons_zero, List.set_cons_succ]
        refine wpAnyH_take (i := 2) (oi := { dst := some 84, op := Go.Op.move (Go.Operand.tmp 15), type := 3, pos := "law.go:152", after := #[], guard := none }) (v := ?vA2) rfl (by kernel_rfl) (by kernel_rfl) (by kernel_rfl) (fun _ _ _ h => h) (Or.inl ⟨by rfl, ?yA2⟩) (by assumption) ?_
        case yA2 => (intro wX hSw; (try dsimp only at hSw); go_simp <;> with_reducible rfl)
        try simp only [Act.put, List.setIfInBounds_toArray, List.set_cons_zero, List.set_cons_succ]
        refine wpAnyH_take (i := 3) (oi := { dst := some 85, op := Go.Op.indexAddr 30 (Go.Operand.tmp 83) (Go.Operand.tmp 84), type := 0, pos := "law.go:152", after := #[{ on := 1, ground := Go.Ground.data }, { on := 2, ground := Go.Ground.data }], guard := none }) (v := ?vA3) rfl (by kernel_rfl) (by kernel_rfl) (by kernel_rfl) (fun _ _ _ h => h) (Or.inl ⟨by rfl, ?yA3⟩) (by assumption) ?_
        case yA3 => (intro wX hSw; (try dsimp only at hSw); go_simp <;> with_reducible rfl)
        try simp only [Act.put, List.setIfInBounds_toArray, List.set_cons_zero, List.set_cons_succ]
        refine wpAnyH_take (i := 4) (oi := { dst := some 86, op := Go.Op.load 39 (Go.Operand.tmp 85), type := 39, pos := "law.go:152", after := #[{ on := 3, ground := Go.Ground.data }], guard := none }) (v := ?vA4) rfl (by kernel_rfl) (by kernel_rfl) (by kernel_rfl) (fun _ _ _ h => h) (Or.inl ⟨by rfl, ?yA4⟩) (by assumption) ?_
        case yA4 => (intro wX hSw; (try dsimp only at hSw); go_simp <;> with_reducible rfl)
        try simp only [Act.put, List.setIfInBounds_toArray, List.set_cons_zero, List.set_cons_succ]
        refine wpAnyH_ready (rs := [5]) (by kernel_rfl) (by simp) (AllReadyH.cons (o := { dst := some 87, op := Go.Op.call { callee := Go.Callee.value (Go.Operand.func 16), args := #[Go.Operand.tmp 82, Go.Operand.tmp 86], argTypes := #[30, 39] }, type := 4, pos := "law.go:152", after := #[{ on := 0, ground := Go.Ground.data }, { on := 4, ground := Go.Ground.data }], guard := none }) rfl (fun K hK => ?_) AllReadyH.nil)
        (go_simp; go_at_call 16; refine (cH1 _ ((Below.refl wq.heap.size wq).drew)).mono ?_; rintro e wc0 ⟨rfl, hbc0⟩)
        refine hK.out _ _ (⟨((Below.refl wq.heap.size wq).drew).trans (hbc0.mono ((Below.refl wq.heap.size wq).drew).size), FF.out _ (((Below.refl wq.heap.size wq).drew).trans (hbc0.mono ((Below.refl wq.heap.size wq).drew).size))⟩) (fun hHeld => ?_)
        clear hK K
        try simp only [Act.put, List.setIfInBounds_toArray, List.set_cons_zero, List.set_cons_succ]
        refine wpAnyH_take (i := 6) (oi := { dst := some 88, op := Go.Op.move (Go.Operand.tmp 87), type := 4, pos := "law.go:152", after := #[{ on := 5, ground := Go.Ground.data }, { on := 5, ground := Go.Ground.chain }], guard := none }) (v := ?vA6) rfl (by kernel_rfl) (by kernel_rfl) (by kernel_rfl) (fun _ _ _ h => h) (Or.inl ⟨by rfl, ?yA6⟩) (by assumption) ?_
        case yA6 => (intro wX hSw; (try dsimp only at hSw); go_simp <;> with_reducible rfl)
        try simp only [Act.put, List.setIfInBounds_toArray, List.set_cons_zero, List.set_cons_succ]
        refine wpAnyH_take (i := 7) (oi := { dst := some 89, op := Go.Op.move (Go.Operand.tmp 12), type := 30, pos := "law.go:152", after := #[{ on := 6, ground := Go.Ground.guard }], guard := some (6, false) }) (v := ?vA7) rfl (by kernel_rfl) (by kernel_rfl) (by kernel_rfl) (fun _ _ _ h => h) (Or.inl ⟨by rfl, ?yA7⟩) (by assumption) ?_
        case yA7 => (intro wX hSw; (try dsimp only at hSw); go_simp <;> with_reducible rfl)
        try simp only [Act.put, List.setIfInBounds_toArray, List.set_cons_zero, List.set_cons_succ]
        refine wpAnyH_take (i := 8) (oi := { dst := some 90, op := Go.Op.move (Go.Operand.tmp 14), type := 30, pos := "law.go:152", after := #[{ on := 6, ground := Go.Ground.guard }], guard := some (6, false) }) (v := ?vA8) rfl (by kernel_rfl) (by kernel_rfl) (by kernel_rfl) (fun _ _ _ h => h) (Or.inl ⟨by rfl, ?yA8⟩) (by assumption) ?_
        case yA8 => (intro wX hSw; (try dsimp only at hSw); go_simp <;> with_reducible rfl)
        try simp only [Act.put, List.setIfInBounds_toArray, List.set_cons_zero, List.set_cons_succ]
        refine wpAnyH_take (i := 9) (oi := { dst := some 91, op := Go.Op.move (Go.Operand.tmp 15), type := 3, pos := "law.go:152", after := #[{ on := 6, ground := Go.Ground.guard }], guard := some (6, false) }) (v := ?vA9) rfl (by kernel_rfl) (by kernel_rfl) (by kernel_rfl) (fun _ _ _ h => h) (Or.inl ⟨by rfl, ?yA9⟩) (by assumption) ?_
        case yA9 => (intro wX hSw; (try dsimp only at hSw); go_simp <;> with_reducible rfl)
        try simp only [Act.put, List.setIfInBounds_toArray, List.set_cons_zero, List.set_cons_succ]
        refine wpAnyH_take (i := 10) (oi := { dst := some 92, op := Go.Op.indexAddr 30 (Go.Operand.tmp 90) (Go.Operand.tmp 91), type := 0, pos := "law.go:152", after := #[{ on := 8, ground := Go.Ground.data }, { on := 9, ground := Go.Ground.data }, { on := 6, ground := Go.Ground.guard }], guard := some (6, false) }) (v := ?vA10) rfl (by kernel_rfl) (by kernel_rfl) (by kernel_rfl) (fun _ _ _ h => h) (Or.inl ⟨by rfl, ?yA10⟩) (by assumption) ?_
        case yA10 => (intro wX hSw; (try dsimp only at hSw); go_simp <;> with_reducible rfl)
        try simp only [Act.put, List.setIfInBounds_toArray, List.set_cons_zero, List.set_cons_succ]
        refine wpAnyH_take (i := 11) (oi := { dst := some 93, op := Go.Op.load 39 (Go.Operand.tmp 92), type := 39, pos := "law.go:152", after := #[{ on := 10, ground := Go.Ground.data }, { on := 6, ground := Go.Ground.guard }], guard := some (6, false) }) (v := ?vA11) rfl (by kernel_rfl) (by kernel_rfl) (by kernel_rfl) (fun _ _ _ h => h) (Or.inl ⟨by rfl, ?yA11⟩) (by assumption) ?_
        case yA11 => (intro wX hSw; (try dsimp only at hSw); go_simp <;> with_reducible rfl)
        try simp only [Act.put, List.setIfInBounds_toArray, List.set_cons_zero, List.set_cons_succ]
        refine wpAnyH_ready (rs := [12]) (by kernel_rfl) (by simp) (AllReadyH.cons (o := { dst := some 94, op := Go.Op.call { callee := Go.Callee.value (Go.Operand.func 16), args := #[Go.Operand.tmp 89, Go.Operand.tmp 93], argTypes := #[30, 39] }, type := 4, pos := "law.go:152", after := #[{ on := 7, ground := Go.Ground.data }, { on := 11, ground := Go.Ground.data }, { on := 6, ground := Go.Ground.chain }, { on := 6, ground := Go.Ground.guard }], guard := some (6, false) }) rfl (fun K hK => ?_) AllReadyH.nil)
        (go_simp; go_at_call 16; refine (cH2 _ (hHeld.1)).mono ?_; rintro e wc1 ⟨rfl, hbc1⟩)
        refine hK.out _ _ (⟨(hHeld.1).trans (hbc1.mono (hHeld.1).size), FF.out _ ((hHeld.1).trans (hbc1.mono (hHeld.1).size))⟩) (fun hHeld => ?_)
        clear hK K
        try simp only [Act.put, List.setIfInBounds_toArray, List.set_cons_zero, List.set_cons_succ]
        refine wpAnyH_take (i := 13) (oi := { dst := some 95, op := Go.Op.unOp Go.UnOp.not 4 (Go.Operand.tmp 94), type := 4, pos := "law.go:152", after := #[{ on := 12, ground := Go.Ground.data }, { on := 6, ground := Go.Ground.guard }], guard := some (6, false) }) (v := ?vA13) rfl (by kernel_rfl) (by kernel_rfl) (by kernel_rfl) (fun _ _ _ h => h) (Or.inl ⟨by rfl, ?yA13⟩) (by assumption) ?_
        case yA13 => (intro wX hSw; (try dsimp only at hSw); go_simp <;> with_reducible rfl)
        try simp only [Act.put, List.setIfInBounds_toArray, List.set_cons_zero, List.set_cons_succ]
        refine wpAnyH_take (i := 14) (oi := { dst := some 96, op := Go.Op.pick (Go.Operand.tmp 88) (Go.Operand.const (Go.Value.bool true)) (Go.Operand.tmp 95), type := 4, pos := "law.go:152", after := #[{ on := 6, ground := Go.Ground.data }, { on := 13, ground := Go.Ground.data }], guard := none }) (v := ?vA14) rfl (by kernel_rfl) (by kernel_rfl) (by kernel_rfl) (fun _ _ _ h => h) (Or.inl ⟨by rfl, ?yA14⟩) (by assumption) ?_
        case yA14 => (intro wX hSw; (try dsimp only at hSw); go_simp <;> with_reducible rfl)
        try simp only [Act.put, List.setIfInBounds_toArray, List.set_cons_zero, List.set_cons_succ]
        refine wpAnyH_take (i := 15) (oi := { dst := some 97, op := Go.Op.move (Go.Operand.tmp 96), type := 4, pos := "law.go:152", after := #[{ on := 14, ground := Go.Ground.data }, { on := 12, ground := Go.Ground.chain }], guard := none }) (v := ?vA15) rfl (by kernel_rfl) (by kernel_rfl) (by kernel_rfl) (fun _ _ _ h => h) (Or.inl ⟨by rfl, ?yA15⟩) (by assumption) ?_
        case yA15 => (intro wX hSw; (try dsimp only at hSw); go_simp <;> with_reducible rfl)
        try simp only [Act.put, List.setIfInBounds_toArray, List.set_cons_zero, List.set_cons_succ]
        refine wpAnyH_take (i := 16) (oi := { dst := some 98, op := Go.Op.move (Go.Operand.tmp 9), type := 30, pos := "law.go:152", after := #[{ on := 15, ground := Go.Ground.guard }], guard := some (15, false) }) (v := ?vA16) rfl (by kernel_rfl) (by kernel_rfl) (by kernel_rfl) (fun _ _ _ h => h) (Or.inl ⟨by rfl, ?yA16⟩) (by assumption) ?_
        case yA16 => (intro wX hSw; (try dsimp only at hSw); go_simp <;> with_reducible rfl)
        try simp only [Act.put, List.setIfInBounds_toArray, List.set_cons_zero, List.set_cons_succ]
        refine wpAnyH_take (i := 17) (oi := { dst := some 99, op := Go.Op.call { callee := Go.Callee.builtin Go.Builtin.len, args := #[Go.Operand.tmp 98], argTypes := #[30] }, type := 3, pos := "law.go:152", after := #[{ on := 16, ground := Go.Ground.data }, { on := 15, ground := Go.Ground.guard }], guard := some (15, false) }) (v := ?vA17) rfl (by kernel_rfl) (by kernel_rfl) (by kernel_rfl) (fun _ _ _ h => h) (Or.inl ⟨by rfl, ?yA17⟩) (by assumption) ?_
        case yA17 => (intro wX hSw; (try dsimp only at hSw); go_simp <;> with_reducible rfl)
        try simp only [Act.put, List.setIfInBounds_toArray, List.set_cons_zero, List.set_cons_succ]
        refine wpAnyH_take (i := 18) (oi := { dst := some 100, op := Go.Op.binOp Go.BinOp.gtr 3 (Go.Operand.tmp 99) (Go.Operand.const (Go.Value.int Go.IntKind.i64 0)) 3, type := 4, pos := "law.go:152", after := #[{ on := 17, ground := Go.Ground.data }, { on := 15, ground := Go.Ground.guard }], guard := some (15, false) }) (v := ?vA18) rfl (by kernel_rfl) (by kernel_rfl) (by kernel_rfl) (fun _ _ _ h => h) (Or.inl ⟨by rfl, ?yA18⟩) (by assumption) ?_
        case yA18 => (intro wX hSw; (try dsimp only at hSw); go_simp <;> with_reducible rfl)
        try simp only [Act.put, List.setIfInBounds_toArray, List.set_cons_zero, List.set_cons_succ]
        refine wpAnyH_take (i := 19) (oi := { dst := some 101, op := Go.Op.move (Go.Operand.tmp 100), type := 4, pos := "law.go:152", after := #[{ on := 18, ground := Go.Ground.data }, { on := 15, ground := Go.Ground.chain }, { on := 15, ground := Go.Ground.guard }], guard := some (15, false) }) (v := ?vA19) rfl (by kernel_rfl) (by kernel_rfl) (by kernel_rfl) (fun _ _ _ h => h) (Or.inl ⟨by rfl, ?yA19⟩) (by assumption) ?_
        case yA19 => (intro wX hSw; (try dsimp only at hSw); go_simp <;> with_reducible rfl)
        try simp only [Act.put, List.setIfInBounds_toArray, List.set_cons_zero, List.set_cons_succ]
        refine wpAnyH_take (i := 20) (oi := { dst := some 102, op := Go.Op.move (Go.Operand.tmp 9), type := 30, pos := "law.go:152", after := #[{ on := 19, ground := Go.Ground.guard }], guard := some (19, true) }) (v := undef) rfl (by kernel_rfl) (by kernel_rfl) (by kernel_rfl) (fun _ _ _ h => h) (Or.inr ⟨by rfl, rfl⟩) (by assumption) ?_
        try simp only [Act.put, List.setIfInBounds_toArray, List.set_cons_zero, List.set_cons_succ]
        refine wpAnyH_take (i := 21) (oi := { dst := some 103, op := Go.Op.move (Go.Operand.tmp 9), type := 30, pos := "law.go:152", after := #[{ on := 19, ground := Go.Ground.guard }], guard := some (19, true) }) (v := undef) rfl (by kernel_rfl) (by kernel_rfl) (by kernel_rfl) (fun _ _ _ h => h) (Or.inr ⟨by rfl, rfl⟩) (by assumption) ?_
        try simp only [Act.put, List.setIfInBounds_toArray, List.set_cons_zero, List.set_cons_succ]
        refine wpAnyH_take (i := 22) (oi := { dst := some 104, op := Go.Op.call { callee := Go.Callee.builtin Go.Builtin.len, args := #[Go.Operand.tmp 103], argTypes := #[30] }, type := 3, pos := "law.go:152", after := #[{ on := 21, ground := Go.Ground.data }, { on := 19, ground := Go.Ground.guard }], guard := some (19, true) }) (v := undef) rfl (by kernel_rfl) (by kernel_rfl) (by kernel_rfl) (fun _ _ _ h => h) (Or.inr ⟨by rfl, rfl⟩) (by assumption) ?_
        try simp only [Act.put, List.setIfInBounds_toArray, List.set_cons_zero, List.set_cons_succ]
        refine wpAnyH_take (i := 23) (oi := { dst := some 105, op := Go.Op.binOp Go.BinOp.sub 3 (Go.Operand.tmp 104) (Go.Operand.const (Go.Value.int Go.IntKind.i64 1)) 3, type := 3, pos := "law.go:152", after := #[{ on := 22, ground := Go.Ground.data }, { on := 19, ground := Go.Ground.guard }], guard := some (19, true) }) (v := undef) rfl (by kernel_rfl) (by kernel_rfl) (by kernel_rfl) (fun _ _ _ h => h) (Or.inr ⟨by rfl, rfl⟩) (by assumption) ?_
        try simp only [Act.put, List.setIfInBounds_toArray, List.set_cons_zero, List.set_cons_succ]
        refine wpAnyH_take (i := 24) (oi := { dst := some 106, op := Go.Op.indexAddr 30 (Go.Operand.tmp 102) (Go.Operand.tmp 105), type := 0, pos := "law.go:152", after := #[{ on := 20, ground := Go.Ground.data }, { on := 23, ground := Go.Ground.data }, { on := 19, ground := Go.Ground.guard }], guard := some (19, true) }) (v := undef) rfl (by kernel_rfl) (by kernel_rfl) (by kernel_rfl) (fun _ _ _ h => h) (Or.inr ⟨by rfl, rfl⟩) (by assumption) ?_
        try simp only [Act.put, List.setIfInBounds_toArray, List.set_cons_zero, List.set_cons_succ]
        refine wpAnyH_take (i := 25) (oi := { dst := some 107, op := Go.Op.load 39 (Go.Operand.tmp 106), type := 39, pos := "law.go:152", after := #[{ on := 24, ground := Go.Ground.data }, { on := 19, ground := Go.Ground.guard }], guard := some (19, true) }) (v := undef) rfl (by kernel_rfl) (by kernel_rfl) (by kernel_rfl) (fun _ _ _ h => h) (Or.inr ⟨by rfl, rfl⟩) (by assumption) ?_
        try simp only [Act.put, List.setIfInBounds_toArray, List.set_cons_zero, List.set_cons_succ]
        refine wpAnyH_take (i := 26) (oi := { dst := some 108, op := Go.Op.move (Go.Operand.tmp 14), type := 30, pos := "law.go:152", after := #[{ on := 19, ground := Go.Ground.guard }], guard := some (19, true) }) (v := undef) rfl (by kernel_rfl) (by kernel_rfl) (by kernel_rfl) (fun _ _ _ h => h) (Or.inr ⟨by rfl, rfl⟩) (by assumption) ?_
        try simp only [Act.put, List.setIfInBounds_toArray, List.set_cons_zero, List.set_cons_succ]
        refine wpAnyH_take (i := 27) (oi := { dst := some 109, op := Go.Op.move (Go.Operand.tmp 15), type := 3, pos := "law.go:152", after := #[{ on := 19, ground := Go.Ground.guard }], guard := some (19, true) }) (v := undef) rfl (by kernel_rfl) (by kernel_rfl) (by kernel_rfl) (fun _ _ _ h => h) (Or.inr ⟨by rfl, rfl⟩) (by assumption) ?_
        try simp only [Act.put, List.setIfInBounds_toArray, List.set_cons_zero, List.set_cons_succ]
        refine wpAnyH_take (i := 28) (oi := { dst := some 110, op := Go.Op.indexAddr 30 (Go.Operand.tmp 108) (Go.Operand.tmp 109), type := 0, pos := "law.go:152", after := #[{ on := 26, ground := Go.Ground.data }, { on := 27, ground := Go.Ground.data }, { on := 19, ground := Go.Ground.guard }], guard := some (19, true) }) (v := undef) rfl (by kernel_rfl) (by kernel_rfl) (by kernel_rfl) (fun _ _ _ h => h) (Or.inr ⟨by rfl, rfl⟩) (by assumption) ?_
        try simp only [Act.put, List.setIfInBounds_toArray, List.set_cons_zero, List.set_cons_succ]
        refine wpAnyH_take (i := 29) (oi := { dst := some 111, op := Go.Op.load 39 (Go.Operand.tmp 110), type := 39, pos := "law.go:152", after := #[{ on := 28, ground := Go.Ground.data }, { on := 19, ground := Go.Ground.guard }], guard := some (19, true) }) (v := undef) rfl (by kernel_rfl) (by kernel_rfl) (by kernel_rfl) (fun _ _ _ h => h) (Or.inr ⟨by rfl, rfl⟩) (by assumption) ?_
        try simp only [Act.put, List.setIfInBounds_toArray, List.set_cons_zero, List.set_cons_succ]
        refine wpAnyH_take (i := 30) (oi := { dst := some 112, op := Go.Op.call { callee := Go.Callee.value (Go.Operand.func 17), args := #[Go.Operand.tmp 107, Go.Operand.tmp 111], argTypes := #[39, 39] }, type := 4, pos := "law.go:152", after := #[{ on := 25, ground := Go.Ground.data }, { on := 29, ground := Go.Ground.data }, { on := 19, ground := Go.Ground.chain }, { on := 19, ground := Go.Ground.guard }], guard := some (19, true) }) (v := undef) rfl (by kernel_rfl) (by kernel_rfl) (by kernel_rfl) (fun _ _ _ h => h) (Or.inr ⟨by rfl, rfl⟩) (by assumption) ?_
        try simp only [Act.put, List.setIfInBounds_toArray, List.set_cons_zero, List.set_cons_succ]
        refine wpAnyH_take (i := 31) (oi := { dst := some 113, op := Go.Op.unOp Go.UnOp.not 4 (Go.Operand.tmp 112), type := 4, pos := "law.go:152", after := #[{ on := 30, ground := Go.Ground.data }, { on := 19, ground := Go.Ground.guard }], guard := some (19, true) }) (v := undef) rfl (by kernel_rfl) (by kernel_rfl) (by kernel_rfl) (fun _ _ _ h => h) (Or.inr ⟨by rfl, rfl⟩) (by assumption) ?_
        try simp only [Act.put, List.setIfInBounds_toArray, List.set_cons_zero, List.set_cons_succ]
        refine wpAnyH_take (i := 32) (oi := { dst := some 114, op := Go.Op.pick (Go.Operand.tmp 101) (Go.Operand.tmp 113) (Go.Operand.const (Go.Value.bool false)), type := 4, pos := "law.go:152", after := #[{ on := 19, ground := Go.Ground.data }, { on := 31, ground := Go.Ground.data }, { on := 15, ground := Go.Ground.guard }], guard := some (15, false) }) (v := ?vA32) rfl (by kernel_rfl) (by kernel_rfl) (by kernel_rfl) (fun _ _ _ h => h) (Or.inl ⟨by rfl, ?yA32⟩) (by assumption) ?_
        case yA32 => (intro wX hSw; (try dsimp only at hSw); go_simp <;> with_reducible rfl)
        try simp only [Act.put, List.setIfInBounds_toArray, List.set_cons_zero, List.set_cons_succ]
        refine wpAnyH_take (i := 33) (oi := { dst := some 115, op := Go.Op.pick (Go.Operand.tmp 97) (Go.Operand.const (Go.Value.bool true)) (Go.Operand.tmp 114), type := 4, pos := "law.go:152", after := #[{ on := 15, ground := Go.Ground.data }, { on := 32, ground := Go.Ground.data }], guard := none }) (v := ?vA33) rfl (by kernel_rfl) (by kernel_rfl) (by kernel_rfl) (fun _ _ _ h => h) (Or.inl ⟨by rfl, ?yA33⟩) (by assumption) ?_
        case yA33 => (intro wX hSw; (try dsimp only at hSw); go_simp <;> with_reducible rfl)
        try simp only [Act.put, List.setIfInBounds_toArray, List.set_cons_zero, List.set_cons_succ]
        refine wpAnyH_done (by kernel_rfl) ?_ _
        go_wp2
        go_meet
        exact ⟨rfl, hHeld.1⟩
      · have ds : decide (0 < (sl : Int)) = true := decide_eq_true (by omega)
        have dsN : decide (0 < sl) = true := decide_eq_true (by omega)
        obtain ⟨s1, hs1⟩ : ∃ s1, sl - 1 = s1 := ⟨_, rfl⟩
        have ws : IntKind.i64.wrap ((sl : Int) - 1) = (s1 : Int) := by rw [IntWalk.i64_in _ (by have := HSL2.out; omega)]; omega
        have bs1 : (s1 : Int) < (sl : Int) := by omega
        obtain ⟨⟨ui, ub, us, ut, ua, ur⟩, hu⟩ : ∃ c, sj[s1]? = some c := ⟨_, List.getElem?_eq_getElem (by have := HSLL.out; omega)⟩
        obtain ⟨bsn, rfl, hsr⟩ := HC9.out.row (by have := HSLL.out; omega)
        have hlt : lessC ⟨ui, ub, us, ut, ua, ur⟩ ⟨xi, xb, xs, xt, xa, xr⟩ = true := HPC.out _ (by rw [List.getLast?_eq_getElem?, HSLL.out, hs1]; exact hu)
        have cL : ∀ W, Below wq.heap.size wq W → Calls Try.prog 17 #[.agg #[.string (bs ui), .string (bs ub), .int .i64 us, .int .i64 ut, .int .i64 ua, .string (bs ur)], .agg #[.string (bs xi), .string (bs xb), .int .i64 xs, .int .i64 xt, .int .i64 xa, .string (bs xr)]] W (BoolPost W true) := fun W _ => by
          have := less_any ⟨ui, ub, us, ut, ua, ur⟩ ⟨xi, xb, xs, xt, xa, xr⟩ W
          rwa [hlt] at this
        have FF : Hid (∀ W, Below wq.heap.size wq W → (W.cell? ⟨bp, o' + j * 6, none⟩ = some (.string (bs xi)) ∧ W.cell? ⟨bp, o' + j * 6 + 1, none⟩ = some (.string (bs xb)) ∧ W.cell? ⟨bp, o' + j * 6 + 2, none⟩ = some (.int .i64 xs) ∧ W.cell? ⟨bp, o' + j * 6 + 3, none⟩ = some (.int .i64 xt) ∧ W.cell? ⟨bp, o' + j * 6 + 4, none⟩ = some (.int .i64 xa) ∧ W.cell? ⟨bp, o' + j * 6 + 5, none⟩ = some (.string (bs xr))) ∧ (W.cell? ⟨bsn, s1 * 6, none⟩ = some (.string (bs ui)) ∧ W.cell? ⟨bsn, s1 * 6 + 1, none⟩ = some (.string (bs ub)) ∧ W.cell? ⟨bsn, s1 * 6 + 2, none⟩ = some (.int .i64 us) ∧ W.cell? ⟨bsn, s1 * 6 + 3, none⟩ = some (.int .i64 ut) ∧ W.cell? ⟨bsn, s1 * 6 + 4, none⟩ = some (.int .i64 ua) ∧ W.cell? ⟨bsn, s1 * 6 + 5, none⟩ = some (.string (bs ur)))) := fun W hb => ⟨HX6.out W hb, by
          have := (hsr.below hb).sixA hu
          simpa using this⟩
        clear HSN hu hsr hlt hs0 HX6
        refine wp_region_held_drew (S := (fun W => Below wq.heap.size wq W ∧ (W.cell? ⟨bp, o' + j * 6, none⟩ = some (.string (bs xi)) ∧ W.cell? ⟨bp, o' + j * 6 + 1, none⟩ = some (.string (bs xb)) ∧ W.cell? ⟨bp, o' + j * 6 + 2, none⟩ = some (.int .i64 xs) ∧ W.cell? ⟨bp, o' + j * 6 + 3, none⟩ = some (.int .i64 xt) ∧ W.cell? ⟨bp, o' + j * 6 + 4, none⟩ = some (.int .i64 xa) ∧ W.cell? ⟨bp, o' + j * 6 + 5, none⟩ = some (.string (bs xr))) ∧ (W.cell? ⟨bsn, s1 * 6, none⟩ = some (.string (bs ui)) ∧ W.cell? ⟨bsn, s1 * 6 + 1, none⟩ = some (.string (bs ub)) ∧ W.cell? ⟨bsn, s1 * 6 + 2, none⟩ = some (.int .i64 us) ∧ W.cell? ⟨bsn, s1 * 6 + 3, none⟩ = some (.int .i64 ut) ∧ W.cell? ⟨bsn, s1 * 6 + 4, none⟩ = some (.int .i64 ua) ∧ W.cell? ⟨bsn, s1 * 6 + 5, none⟩ = some (.string (bs ur))))) (by kernel_rfl) (⟨(Below.refl wq.heap.size wq).drew, FF.out _ (Below.refl wq.heap.size wq).drew⟩) (fun hHeld => ?_)
        refine wpAnyH_take (i := 0) (oi := { dst := some 82, op := Go.Op.move (Go.Operand.tmp 9), type := 30, pos := "law.go:152", after := #[], guard := none }) (v := ?vB0) rfl (by kernel_rfl) (by kernel_rfl) (by kernel_rfl) (fun _ _ _ h => h) (Or.inl ⟨by rfl, ?yB0⟩) (by assumption) ?_
        case yB0 => (intro wX hSw; (try dsimp only at hSw); go_simp <;> with_reducible rfl)
        try simp only [Act.put, List.setIfInBounds_toArray, List.set_cons_zero, List.set_cons_succ]
        refine wpAnyH_take (i := 1) (oi := { dst := some 83, op := Go.Op.move (Go.Operand.tmp 14), type := 30, pos := "law.go:152", after := #[], guard := none }) (v := ?vB1) rfl (by kernel_rfl) (by kernel_rfl) (by kernel_rfl) (fun _ _ _ h => h) (Or.inl ⟨by rfl, ?yB1⟩) (by assumption) ?_
        case yB1 => (intro wX hSw; (try dsimp only at hSw); go_simp <;> with_reducible rfl)
        try simp only [Act.put, List.setIfInBounds_toArray, List.set_cons_zero, List.set_cons_succ]
        refine wpAnyH_take (i := 2) (oi := { dst := some 84, op := Go.Op.move (Go.Operand.tmp 15), type := 3, pos := "law.go:152", after := #[], guard := none }) (v := ?vB2) rfl (by kernel_rfl) (by kernel_rfl) (by kernel_rfl) (fun _ _ _ h => h) (Or.inl ⟨by rfl, ?yB2⟩) (by assumption) ?_
        case yB2 => (intro wX hSw; (try dsimp only at hSw); go_simp <;> with_reducible rfl)
        try simp only [Act.put, List.setIfInBounds_toArray, List.set_cons_zero, List.set_cons_succ]
        refine wpAnyH_take (i := 3) (oi := { dst := some 85, op := Go.Op.indexAddr 30 (Go.Operand.tmp 83) (Go.Operand.tmp 84), type := 0, pos := "law.go:152", after := #[{ on := 1, ground := Go.Ground.data }, { on := 2, ground := Go.Ground.data }], guard := none }) (v := ?vB3) rfl (by kernel_rfl) (by kernel_rfl) (by kernel_rfl) (fun _ _ _ h => h) (Or.inl ⟨by rfl, ?yB3⟩) (by assumption) ?_
        case yB3 => (intro wX hSw; (try dsimp only at hSw); go_simp <;> with_reducible rfl)
        try simp only [Act.put, List.setIfInBounds_toArray, List.set_cons_zero, List.set_cons_succ]
        refine wpAnyH_take (i := 4) (oi := { dst := some 86, op := Go.Op.load 39 (Go.Operand.tmp 85), type := 39, pos := "law.go:152", after := #[{ on := 3, ground := Go.Ground.data }], guard := none }) (v := ?vB4) rfl (by kernel_rfl) (by kernel_rfl) (by kernel_rfl) (fun _ _ _ h => h) (Or.inl ⟨by rfl, ?yB4⟩) (by assumption) ?_
        case yB4 => (intro wX hSw; (try dsimp only at hSw); go_simp <;> with_reducible rfl)
        try simp only [Act.put, List.setIfInBounds_toArray, List.set_cons_zero, List.set_cons_succ]
        refine wpAnyH_ready (rs := [5]) (by kernel_rfl) (by simp) (AllReadyH.cons (o := { dst := some 87, op := Go.Op.call { callee := Go.Callee.value (Go.Operand.func 16), args := #[Go.Operand.tmp 82, Go.Operand.tmp 86], argTypes := #[30, 39] }, type := 4, pos := "law.go:152", after := #[{ on := 0, ground := Go.Ground.data }, { on := 4, ground := Go.Ground.data }], guard := none }) rfl (fun K hK => ?_) AllReadyH.nil)
        (go_simp; go_at_call 16; refine (cH1 _ ((Below.refl wq.heap.size wq).drew)).mono ?_; rintro e wc0 ⟨rfl, hbc0⟩)
        refine hK.out _ _ (⟨((Below.refl wq.heap.size wq).drew).trans (hbc0.mono ((Below.refl wq.heap.size wq).drew).size), FF.out _ (((Below.refl wq.heap.size wq).drew).trans (hbc0.mono ((Below.refl wq.heap.size wq).drew).size))⟩) (fun hHeld => ?_)
        clear hK K
        try simp only [Act.put, List.setIfInBounds_toArray, List.set_cons_zero, List.set_cons_succ]
        refine wpAnyH_take (i := 6) (oi := { dst := some 88, op := Go.Op.move (Go.Operand.tmp 87), type := 4, pos := "law.go:152", after := #[{ on := 5, ground := Go.Ground.data }, { on := 5, ground := Go.Ground.chain }], guard := none }) (v := ?vB6) rfl (by kernel_rfl) (by kernel_rfl) (by kernel_rfl) (fun _ _ _ h => h) (Or.inl ⟨by rfl, ?yB6⟩) (by assumption) ?_
        case yB6 => (intro wX hSw; (try dsimp only at hSw); go_simp <;> with_reducible rfl)
        try simp only [Act.put, List.setIfInBounds_toArray, List.set_cons_zero, List.set_cons_succ]
        refine wpAnyH_take (i := 7) (oi := { dst := some 89, op := Go.Op.move (Go.Operand.tmp 12), type := 30, pos := "law.go:152", after := #[{ on := 6, ground := Go.Ground.guard }], guard := some (6, false) }) (v := ?vB7) rfl (by kernel_rfl) (by kernel_rfl) (by kernel_rfl) (fun _ _ _ h => h) (Or.inl ⟨by rfl, ?yB7⟩) (by assumption) ?_
        case yB7 => (intro wX hSw; (try dsimp only at hSw); go_simp <;> with_reducible rfl)
        try simp only [Act.put, List.setIfInBounds_toArray, List.set_cons_zero, List.set_cons_succ]
        refine wpAnyH_take (i := 8) (oi := { dst := some 90, op := Go.Op.move (Go.Operand.tmp 14), type := 30, pos := "law.go:152", after := #[{ on := 6, ground := Go.Ground.guard }], guard := some (6, false) }) (v := ?vB8) rfl (by kernel_rfl) (by kernel_rfl) (by kernel_rfl) (fun _ _ _ h => h) (Or.inl ⟨by rfl, ?yB8⟩) (by assumption) ?_
        case yB8 => (intro wX hSw; (try dsimp only at hSw); go_simp <;> with_reducible rfl)
        try simp only [Act.put, List.setIfInBounds_toArray, List.set_cons_zero, List.set_cons_succ]
        refine wpAnyH_take (i := 9) (oi := { dst := some 91, op := Go.Op.move (Go.Operand.tmp 15), type := 3, pos := "law.go:152", after := #[{ on := 6, ground := Go.Ground.guard }], guard := some (6, false) }) (v := ?vB9) rfl (by kernel_rfl) (by kernel_rfl) (by kernel_rfl) (fun _ _ _ h => h) (Or.inl ⟨by rfl, ?yB9⟩) (by assumption) ?_
        case yB9 => (intro wX hSw; (try dsimp only at hSw); go_simp <;> with_reducible rfl)
        try simp only [Act.put, List.setIfInBounds_toArray, List.set_cons_zero, List.set_cons_succ]
        refine wpAnyH_take (i := 10) (oi := { dst := some 92, op := Go.Op.indexAddr 30 (Go.Operand.tmp 90) (Go.Operand.tmp 91), type := 0, pos := "law.go:152", after := #[{ on := 8, ground := Go.Ground.data }, { on := 9, ground := Go.Ground.data }, { on := 6, ground := Go.Ground.guard }], guard := some (6, false) }) (v := ?vB10) rfl (by kernel_rfl) (by kernel_rfl) (by kernel_rfl) (fun _ _ _ h => h) (Or.inl ⟨by rfl, ?yB10⟩) (by assumption) ?_
        case yB10 => (intro wX hSw; (try dsimp only at hSw); go_simp <;> with_reducible rfl)
        try simp only [Act.put, List.setIfInBounds_toArray, List.set_cons_zero, List.set_cons_succ]
        refine wpAnyH_take (i := 11) (oi := { dst := some 93, op := Go.Op.load 39 (Go.Operand.tmp 92), type := 39, pos := "law.go:152", after := #[{ on := 10, ground := Go.Ground.data }, { on := 6, ground := Go.Ground.guard }], guard := some (6, false) }) (v := ?vB11) rfl (by kernel_rfl) (by kernel_rfl) (by kernel_rfl) (fun _ _ _ h => h) (Or.inl ⟨by rfl, ?yB11⟩) (by assumption) ?_
        case yB11 => (intro wX hSw; (try dsimp only at hSw); go_simp <;> with_reducible rfl)
        try simp only [Act.put, List.setIfInBounds_toArray, List.set_cons_zero, List.set_cons_succ]
        refine wpAnyH_ready (rs := [12]) (by kernel_rfl) (by simp) (AllReadyH.cons (o := { dst := some 94, op := Go.Op.call { callee := Go.Callee.value (Go.Operand.func 16), args := #[Go.Operand.tmp 89, Go.Operand.tmp 93], argTypes := #[30, 39] }, type := 4, pos := "law.go:152", after := #[{ on := 7, ground := Go.Ground.data }, { on := 11, ground := Go.Ground.data }, { on := 6, ground := Go.Ground.chain }, { on := 6, ground := Go.Ground.guard }], guard := some (6, false) }) rfl (fun K hK => ?_) AllReadyH.nil)
        (go_simp; go_at_call 16; refine (cH2 _ (hHeld.1)).mono ?_; rintro e wc1 ⟨rfl, hbc1⟩)
        refine hK.out _ _ (⟨(hHeld.1).trans (hbc1.mono (hHeld.1).size), FF.out _ ((hHeld.1).trans (hbc1.mono (hHeld.1).size))⟩) (fun hHeld => ?_)
        clear hK K
        try simp only [Act.put, List.setIfInBounds_toArray, List.set_cons_zero, List.set_cons_succ]
        refine wpAnyH_take (i := 13) (oi := { dst := some 95, op := Go.Op.unOp Go.UnOp.not 4 (Go.Operand.tmp 94), type := 4, pos := "law.go:152", after := #[{ on := 12, ground := Go.Ground.data }, { on := 6, ground := Go.Ground.guard }], guard := some (6, false) }) (v := ?vB13) rfl (by kernel_rfl) (by kernel_rfl) (by kernel_rfl) (fun _ _ _ h => h) (Or.inl ⟨by rfl, ?yB13⟩) (by assumption) ?_
        case yB13 => (intro wX hSw; (try dsimp only at hSw); go_simp <;> with_reducible rfl)
        try simp only [Act.put, List.setIfInBounds_toArray, List.set_cons_zero, List.set_cons_succ]
        refine wpAnyH_take (i := 14) (oi := { dst := some 96, op := Go.Op.pick (Go.Operand.tmp 88) (Go.Operand.const (Go.Value.bool true)) (Go.Operand.tmp 95), type := 4, pos := "law.go:152", after := #[{ on := 6, ground := Go.Ground.data }, { on := 13, ground := Go.Ground.data }], guard := none }) (v := ?vB14) rfl (by kernel_rfl) (by kernel_rfl) (by kernel_rfl) (fun _ _ _ h => h) (Or.inl ⟨by rfl, ?yB14⟩) (by assumption) ?_
        case yB14 => (intro wX hSw; (try dsimp only at hSw); go_simp <;> with_reducible rfl)
        try simp only [Act.put, List.setIfInBounds_toArray, List.set_cons_zero, List.set_cons_succ]
        refine wpAnyH_take (i := 15) (oi := { dst := some 97, op := Go.Op.move (Go.Operand.tmp 96), type := 4, pos := "law.go:152", after := #[{ on := 14, ground := Go.Ground.data }, { on := 12, ground := Go.Ground.chain }], guard := none }) (v := ?vB15) rfl (by kernel_rfl) (by kernel_rfl) (by kernel_rfl) (fun _ _ _ h => h) (Or.inl ⟨by rfl, ?yB15⟩) (by assumption) ?_
        case yB15 => (intro wX hSw; (try dsimp only at hSw); go_simp <;> with_reducible rfl)
        try simp only [Act.put, List.setIfInBounds_toArray, List.set_cons_zero, List.set_cons_succ]
        refine wpAnyH_take (i := 16) (oi := { dst := some 98, op := Go.Op.move (Go.Operand.tmp 9), type := 30, pos := "law.go:152", after := #[{ on := 15, ground := Go.Ground.guard }], guard := some (15, false) }) (v := ?vB16) rfl (by kernel_rfl) (by kernel_rfl) (by kernel_rfl) (fun _ _ _ h => h) (Or.inl ⟨by rfl, ?yB16⟩) (by assumption) ?_
        case yB16 => (intro wX hSw; (try dsimp only at hSw); go_simp <;> with_reducible rfl)
        try simp only [Act.put, List.setIfInBounds_toArray, List.set_cons_zero, List.set_cons_succ]
        refine wpAnyH_take (i := 17) (oi := { dst := some 99, op := Go.Op.call { callee := Go.Callee.builtin Go.Builtin.len, args := #[Go.Operand.tmp 98], argTypes := #[30] }, type := 3, pos := "law.go:152", after := #[{ on := 16, ground := Go.Ground.data }, { on := 15, ground := Go.Ground.guard }], guard := some (15, false) }) (v := ?vB17) rfl (by kernel_rfl) (by kernel_rfl) (by kernel_rfl) (fun _ _ _ h => h) (Or.inl ⟨by rfl, ?yB17⟩) (by assumption) ?_
        case yB17 => (intro wX hSw; (try dsimp only at hSw); go_simp <;> with_reducible rfl)
        try simp only [Act.put, List.setIfInBounds_toArray, List.set_cons_zero, List.set_cons_succ]
        refine wpAnyH_take (i := 18) (oi := { dst := some 100, op := Go.Op.binOp Go.BinOp.gtr 3 (Go.Operand.tmp 99) (Go.Operand.const (Go.Value.int Go.IntKind.i64 0)) 3, type := 4, pos := "law.go:152", after := #[{ on := 17, ground := Go.Ground.data }, { on := 15, ground := Go.Ground.guard }], guard := some (15, false) }) (v := ?vB18) rfl (by kernel_rfl) (by kernel_rfl) (by kernel_rfl) (fun _ _ _ h => h) (Or.inl ⟨by rfl, ?yB18⟩) (by assumption) ?_
        case yB18 => (intro wX hSw; (try dsimp only at hSw); go_simp <;> with_reducible rfl)
        try simp only [Act.put, List.setIfInBounds_toArray, List.set_cons_zero, List.set_cons_succ]
        refine wpAnyH_take (i := 19) (oi := { dst := some 101, op := Go.Op.move (Go.Operand.tmp 100), type := 4, pos := "law.go:152", after := #[{ on := 18, ground := Go.Ground.data }, { on := 15, ground := Go.Ground.chain }, { on := 15, ground := Go.Ground.guard }], guard := some (15, false) }) (v := ?vB19) rfl (by kernel_rfl) (by kernel_rfl) (by kernel_rfl) (fun _ _ _ h => h) (Or.inl ⟨by rfl, ?yB19⟩) (by assumption) ?_
        case yB19 => (intro wX hSw; (try dsimp only at hSw); go_simp <;> with_reducible rfl)
        try simp only [Act.put, List.setIfInBounds_toArray, List.set_cons_zero, List.set_cons_succ]
        refine wpAnyH_take (i := 20) (oi := { dst := some 102, op := Go.Op.move (Go.Operand.tmp 9), type := 30, pos := "law.go:152", after := #[{ on := 19, ground := Go.Ground.guard }], guard := some (19, true) }) (v := ?vB20) rfl (by kernel_rfl) (by kernel_rfl) (by kernel_rfl) (fun _ _ _ h => h) (Or.inl ⟨by rfl, ?yB20⟩) (by assumption) ?_
        case yB20 => (intro wX hSw; (try dsimp only at hSw); go_simp <;> with_reducible rfl)
        try simp only [Act.put, List.setIfInBounds_toArray, List.set_cons_zero, List.set_cons_succ]
        refine wpAnyH_take (i := 21) (oi := { dst := some 103, op := Go.Op.move (Go.Operand.tmp 9), type := 30, pos := "law.go:152", after := #[{ on := 19, ground := Go.Ground.guard }], guard := some (19, true) }) (v := ?vB21) rfl (by kernel_rfl) (by kernel_rfl) (by kernel_rfl) (fun _ _ _ h => h) (Or.inl ⟨by rfl, ?yB21⟩) (by assumption) ?_
        case yB21 => (intro wX hSw; (try dsimp only at hSw); go_simp <;> with_reducible rfl)
        try simp only [Act.put, List.setIfInBounds_toArray, List.set_cons_zero, List.set_cons_succ]
        refine wpAnyH_take (i := 22) (oi := { dst := some 104, op := Go.Op.call { callee := Go.Callee.builtin Go.Builtin.len, args := #[Go.Operand.tmp 103], argTypes := #[30] }, type := 3, pos := "law.go:152", after := #[{ on := 21, ground := Go.Ground.data }, { on := 19, ground := Go.Ground.guard }], guard := some (19, true) }) (v := ?vB22) rfl (by kernel_rfl) (by kernel_rfl) (by kernel_rfl) (fun _ _ _ h => h) (Or.inl ⟨by rfl, ?yB22⟩) (by assumption) ?_
        case yB22 => (intro wX hSw; (try dsimp only at hSw); go_simp <;> with_reducible rfl)
        try simp only [Act.put, List.setIfInBounds_toArray, List.set_cons_zero, List.set_cons_succ]
        refine wpAnyH_take (i := 23) (oi := { dst := some 105, op := Go.Op.binOp Go.BinOp.sub 3 (Go.Operand.tmp 104) (Go.Operand.const (Go.Value.int Go.IntKind.i64 1)) 3, type := 3, pos := "law.go:152", after := #[{ on := 22, ground := Go.Ground.data }, { on := 19, ground := Go.Ground.guard }], guard := some (19, true) }) (v := ?vB23) rfl (by kernel_rfl) (by kernel_rfl) (by kernel_rfl) (fun _ _ _ h => h) (Or.inl ⟨by rfl, ?yB23⟩) (by assumption) ?_
        case yB23 => (intro wX hSw; (try dsimp only at hSw); go_simp <;> with_reducible rfl)
        try simp only [Act.put, List.setIfInBounds_toArray, List.set_cons_zero, List.set_cons_succ]
        refine wpAnyH_take (i := 24) (oi := { dst := some 106, op := Go.Op.indexAddr 30 (Go.Operand.tmp 102) (Go.Operand.tmp 105), type := 0, pos := "law.go:152", after := #[{ on := 20, ground := Go.Ground.data }, { on := 23, ground := Go.Ground.data }, { on := 19, ground := Go.Ground.guard }], guard := some (19, true) }) (v := ?vB24) rfl (by kernel_rfl) (by kernel_rfl) (by kernel_rfl) (fun _ _ _ h => h) (Or.inl ⟨by rfl, ?yB24⟩) (by assumption) ?_
        case yB24 => (intro wX hSw; (try dsimp only at hSw); go_simp <;> with_reducible rfl)
        try simp only [Act.put, List.setIfInBounds_toArray, List.set_cons_zero, List.set_cons_succ]
        refine wpAnyH_take (i := 25) (oi := { dst := some 107, op := Go.Op.load 39 (Go.Operand.tmp 106), type := 39, pos := "law.go:152", after := #[{ on := 24, ground := Go.Ground.data }, { on := 19, ground := Go.Ground.guard }], guard := some (19, true) }) (v := ?vB25) rfl (by kernel_rfl) (by kernel_rfl) (by kernel_rfl) (fun _ _ _ h => h) (Or.inl ⟨by rfl, ?yB25⟩) (by assumption) ?_
        case yB25 => (intro wX hSw; (try dsimp only at hSw); go_simp <;> with_reducible rfl)
        try simp only [Act.put, List.setIfInBounds_toArray, List.set_cons_zero, List.set_cons_succ]
        refine wpAnyH_take (i := 26) (oi := { dst := some 108, op := Go.Op.move (Go.Operand.tmp 14), type := 30, pos := "law.go:152", after := #[{ on := 19, ground := Go.Ground.guard }], guard := some (19, true) }) (v := ?vB26) rfl (by kernel_rfl) (by kernel_rfl) (by kernel_rfl) (fun _ _ _ h => h) (Or.inl ⟨by rfl, ?yB26⟩) (by assumption) ?_
        case yB26 => (intro wX hSw; (try dsimp only at hSw); go_simp <;> with_reducible rfl)
        try simp only [Act.put, List.setIfInBounds_toArray, List.set_cons_zero, List.set_cons_succ]
        refine wpAnyH_take (i := 27) (oi := { dst := some 109, op := Go.Op.move (Go.Operand.tmp 15), type := 3, pos := "law.go:152", after := #[{ on := 19, ground := Go.Ground.guard }], guard := some (19, true) }) (v := ?vB27) rfl (by kernel_rfl) (by kernel_rfl) (by kernel_rfl) (fun _ _ _ h => h) (Or.inl ⟨by rfl, ?yB27⟩) (by assumption) ?_
        case yB27 => (intro wX hSw; (try dsimp only at hSw); go_simp <;> with_reducible rfl)
        try simp only [Act.put, List.setIfInBounds_toArray, List.set_cons_zero, List.set_cons_succ]
        refine wpAnyH_take (i := 28) (oi := { dst := some 110, op := Go.Op.indexAddr 30 (Go.Operand.tmp 108) (Go.Operand.tmp 109), type := 0, pos := "law.go:152", after := #[{ on := 26, ground := Go.Ground.data }, { on := 27, ground := Go.Ground.data }, { on := 19, ground := Go.Ground.guard }], guard := some (19, true) }) (v := ?vB28) rfl (by kernel_rfl) (by kernel_rfl) (by kernel_rfl) (fun _ _ _ h => h) (Or.inl ⟨by rfl, ?yB28⟩) (by assumption) ?_
        case yB28 => (intro wX hSw; (try dsimp only at hSw); go_simp <;> with_reducible rfl)
        try simp only [Act.put, List.setIfInBounds_toArray, List.set_cons_zero, List.set_cons_succ]
        refine wpAnyH_take (i := 29) (oi := { dst := some 111, op := Go.Op.load 39 (Go.Operand.tmp 110), type := 39, pos := "law.go:152", after := #[{ on := 28, ground := Go.Ground.data }, { on := 19, ground := Go.Ground.guard }], guard := some (19, true) }) (v := ?vB29) rfl (by kernel_rfl) (by kernel_rfl) (by kernel_rfl) (fun _ _ _ h => h) (Or.inl ⟨by rfl, ?yB29⟩) (by assumption) ?_
        case yB29 => (intro wX hSw; (try dsimp only at hSw); go_simp <;> with_reducible rfl)
        try simp only [Act.put, List.setIfInBounds_toArray, List.set_cons_zero, List.set_cons_succ]
        refine wpAnyH_ready (rs := [30]) (by kernel_rfl) (by simp) (AllReadyH.cons (o := { dst := some 112, op := Go.Op.call { callee := Go.Callee.value (Go.Operand.func 17), args := #[Go.Operand.tmp 107, Go.Operand.tmp 111], argTypes := #[39, 39] }, type := 4, pos := "law.go:152", after := #[{ on := 25, ground := Go.Ground.data }, { on := 29, ground := Go.Ground.data }, { on := 19, ground := Go.Ground.chain }, { on := 19, ground := Go.Ground.guard }], guard := some (19, true) }) rfl (fun K hK => ?_) AllReadyH.nil)
        (go_simp; go_at_call 17; refine (cL _ (hHeld.1)).mono ?_; rintro e wc2 ⟨rfl, hbc2⟩)
        refine hK.out _ _ (⟨(hHeld.1).trans (hbc2.mono (hHeld.1).size), FF.out _ ((hHeld.1).trans (hbc2.mono (hHeld.1).size))⟩) (fun hHeld => ?_)
        clear hK K
        try simp only [Act.put, List.setIfInBounds_toArray, List.set_cons_zero, List.set_cons_succ]
        refine wpAnyH_take (i := 31) (oi := { dst := some 113, op := Go.Op.unOp Go.UnOp.not 4 (Go.Operand.tmp 112), type := 4, pos := "law.go:152", after := #[{ on := 30, ground := Go.Ground.data }, { on := 19, ground := Go.Ground.guard }], guard := some (19, true) }) (v := ?vB31) rfl (by kernel_rfl) (by kernel_rfl) (by kernel_rfl) (fun _ _ _ h => h) (Or.inl ⟨by rfl, ?yB31⟩) (by assumption) ?_
        case yB31 => (intro wX hSw; (try dsimp only at hSw); go_simp <;> with_reducible rfl)
        try simp only [Act.put, List.setIfInBounds_toArray, List.set_cons_zero, List.set_cons_succ]
        refine wpAnyH_take (i := 32) (oi := { dst := some 114, op := Go.Op.pick (Go.Operand.tmp 101) (Go.Operand.tmp 113) (Go.Operand.const (Go.Value.bool false)), type := 4, pos := "law.go:152", after := #[{ on := 19, ground := Go.Ground.data }, { on := 31, ground := Go.Ground.data }, { on := 15, ground := Go.Ground.guard }], guard := some (15, false) }) (v := ?vB32) rfl (by kernel_rfl) (by kernel_rfl) (by kernel_rfl) (fun _ _ _ h => h) (Or.inl ⟨by rfl, ?yB32⟩) (by assumption) ?_
        case yB32 => (intro wX hSw; (try dsimp only at hSw); go_simp <;> with_reducible rfl)
        try simp only [Act.put, List.setIfInBounds_toArray, List.set_cons_zero, List.set_cons_succ]
        refine wpAnyH_take (i := 33) (oi := { dst := some 115, op := Go.Op.pick (Go.Operand.tmp 97) (Go.Operand.const (Go.Value.bool true)) (Go.Operand.tmp 114), type := 4, pos := "law.go:152", after := #[{ on := 15, ground := Go.Ground.data }, { on := 32, ground := Go.Ground.data }], guard := none }) (v := ?vB33) rfl (by kernel_rfl) (by kernel_rfl) (by kernel_rfl) (fun _ _ _ h => h) (Or.inl ⟨by rfl, ?yB33⟩) (by assumption) ?_
        case yB33 => (intro wX hSw; (try dsimp only at hSw); go_simp <;> with_reducible rfl)
        try simp only [Act.put, List.setIfInBounds_toArray, List.set_cons_zero, List.set_cons_succ]
        refine wpAnyH_done (by kernel_rfl) ?_ _
        go_wp2
        go_meet
        exact ⟨rfl, hHeld.1⟩
    case rest =>
    obtain ⟨rfl, hb21⟩ := hcut
    have HT4 := Lib.hid (HT.out.below hb21)
    obtain ⟨p0, p1, p2, p3, p4, p5⟩ := HX6.out _ hb21
    obtain ⟨i0, hi0, hz0, hz1, hz2'⟩ := info_parts info39
    have hown := Lib.hid (HT4.out.alloc (.cells #[.string (bs xi), .string (bs xb), .int .i64 xs, .int .i64 xt, .int .i64 xa, .string (bs xr)] 39)).own
    rw [HSLL.out] at hown
    have hnc := Lib.hid (fun W => new_cells W ⟨xi, xb, xs, xt, xa, xr⟩)
    have hco := Lib.hid (cells_one ⟨xi, xb, xs, xt, xa, xr⟩)
    unfold cellsC at hnc hco
    simp only at hnc hco
    have hsz : Hid (Bm + 1 ≤ wc.heap.size) := by have := (Array.getElem?_eq_some_iff.1 HT4.out.m).1; exact this
    clear hb21 HT cH1 cH2 HC9 HX6 HPC
    go_wp2_with (at_builtin; go_loud (refine wpList_append_own_at _ rfl _ _ 30 rfl (Bm + 1) 39 i0 (.agg (cellsC noC)) 6 72 Try.underlying30 hi0 hz0 hz1 hz2' rfl (by decide) _ _ _ rfl hown.out ⟨_, 0, none⟩ 1 1 _ rfl rfl (hnc.out _) hco.out ?c3 ?c4 ?c5 ?_))
    case c3 => unfold maxLen; have := HSL2.out; omega
    case c4 => have := HSL2.out; omega
    case c5 => have := hsz.out; simp; omega
    intro v' w' hown' hgr' hne' hat'
    have HT5 := Lib.hid (PT.app (x := ⟨xi, xb, xs, xt, xa, xr⟩) (X := .cells #[.string (bs xi), .string (bs xb), .int .i64 xs, .int .i64 xt, .int .i64 xa, .string (bs xr)] 39) HT4.out (by rw [HSLL.out]; exact hown') hgr' hat')
    rw [← HSN.out] at HT5
    clear hown' hgr' hne' hat' HT4 hown hnc hco hsz HSN p0 p1 p2 p3 p4 p5
    go_wp2
    go_roundw
    case rel => exact ⟨j + 1, by go_num, hjn, HT5⟩
    case measure => simp [intOf]; omega
  have dj : decide ((j : Int) < (pl : Int)) = false := decide_eq_false (by omega)
  have djN : decide (j < pl) = false := decide_eq_false hjn
  have hT6 := hz.out
  rw [List.take_of_length_le (by have := HPL.out; omega)] at hT6
  have HLS : Hid (LS w l o Bm (i + 1) mo u9 wq) := ⟨by have := HI60.out; omega, seen ++ pg, k', HW3.out, hT6.drop⟩
  clear hz hT6
  go_wp2
  go_roundw
  case rel => exact ⟨mo, i + 1, rfl, by go_num, HLS⟩
  case measure => have := HI60.out; simp [intOf]; omega
theorem changes_any (l o : List Card) (a : List Int) (A0 A1 A2 : Option Addr) (C0 C1 C2 : Nat) (w : World) (hl : CRow w A0 l) (hC0 : A0 = none → C0 = 0) (ho : CRow w A1 o) (hC1 : A1 = none → C1 = 0) (ha : RowAt w A2 (ints a)) :
    Calls Try.prog 5 #[.slice A0 l.length C0, .slice A1 o.length C1, .slice A2 a.length C2] w (BoolPost w true) := by
  by_cases h0 : l.length ≤ 30
  · by_cases h1 : o.length ≤ 10
    · exact changes_main l o a A0 A1 A2 C0 C1 C2 w h0 h1 hl hC0 ho hC1 ha
    · exact changes_l1 l o a A0 A1 A2 C0 C1 C2 w h0 h1
  · exact changes_l0 l o a A0 A1 A2 C0 C1 C2 w h0
end Go.Proofs.Ytemdecaiadkchaa
