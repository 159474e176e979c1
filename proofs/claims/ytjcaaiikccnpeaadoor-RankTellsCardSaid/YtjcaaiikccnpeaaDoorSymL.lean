/- The library's merge of one card with sorted ones, walked. -/
import Derived.Test.YtjcaaiikccnpeaaDoorRotW
import Derived.Test.YtjcaaiikccnpeaaDoorMergePure
namespace Go.Proofs.YtjcaaiikccnpeaaDoor
open Go.ChangeShapes Go.WideShapes Go.ChangeAt Go.RowKit Go.Lib
set_option linter.unusedVariables false

theorem app_get1 {P S : List Card} {x : Card} {a : Nat} (ha : P.length = a) : (P ++ (x :: S))[a]? = some x := by
  subst ha; rw [List.getElem?_append_right (Nat.le_refl _)]; simp
theorem app_get2 {P B S : List Card} {x : Card} {a m h : Nat} (ha : P.length = a) (hm : a + 1 = m) (h1 : m ≤ h) (h2 : h - m < B.length) : (P ++ (x :: (B ++ S)))[h]? = B[h - m]? := by
  subst ha hm
  rw [List.getElem?_append_right (by omega), show h - P.length = (h - (P.length + 1)) + 1 by omega, List.getElem?_cons_succ, List.getElem?_append_left h2]
theorem app_get3 {P A S : List Card} {y : Card} {a h : Nat} (ha : P.length = a) (h1 : a ≤ h) (h2 : h - a < A.length) : (P ++ (A ++ (y :: S)))[h]? = A[h - a]? := by
  subst ha
  rw [List.getElem?_append_right (by omega), List.getElem?_append_left h2]
theorem app_get4 {P A S : List Card} {y : Card} {a m : Nat} (ha : P.length = a) (hm : a + A.length = m) : (P ++ (A ++ (y :: S)))[m]? = some y := by
  subst ha hm
  rw [List.getElem?_append_right (by omega), List.getElem?_append_right (by omega)]
  rw [show P.length + A.length - P.length - A.length = 0 by omega]
  rfl
theorem mem_take {B T1 T2 : List Card} {k : Nat} {p : Card → Prop} (e : B = T1 ++ T2) (hk : T1.length = k) (h : ∀ t y, t < k → B[t]? = some y → p y) : ∀ y ∈ T1, p y := by
  intro y hy
  obtain ⟨t, ht, rfl⟩ := List.getElem_of_mem hy
  subst e hk
  exact h t _ ht (by rw [List.getElem?_append_left ht, List.getElem?_eq_getElem ht])
theorem mem_drop {B T1 T2 : List Card} {k : Nat} {p : Card → Prop} (e : B = T1 ++ T2) (hk : T1.length = k) (h : ∀ t y, k ≤ t → B[t]? = some y → p y) : ∀ y ∈ T2, p y := by
  intro y hy
  obtain ⟨t, ht, rfl⟩ := List.getElem_of_mem hy
  subst e hk
  exact h (T1.length + t) _ (by omega) (by rw [List.getElem?_append_right (by omega), show T1.length + t - T1.length = t by omega, List.getElem?_eq_getElem ht])
theorem le_trans_ge {x y z : Card} (h1 : lessC y x = false) (h2 : lessC x z = false) : lessC y z = false := by
  cases h : lessC y z with
  | false => rfl
  | true =>
    have := lt_le (x := y) (y := z) (z := x) h h2
    rw [this] at h1; cases h1
set_option maxRecDepth 100000 in
set_option maxHeartbeats 4000000 in
theorem sym_left (P B S : List Card) (x : Card) (n g c a m b : Nat) (w : World) (hL : (P ++ (x :: (B ++ S))).length = n) (ha : P.length = a) (hm : a + 1 = m) (hb : m + B.length = b) (hs : Srt B) (hn : n ≤ 1000000) (hc : n ≤ c) (hg : g < w.heap.size)
    (hC : CAt w g (P ++ (x :: (B ++ S)))) (hT : w.there g 0 (n * 6)) :
    Calls Tryd.prog 71 #[.slice (some ⟨g, 0, none⟩) n c, .int .i64 a, .int .i64 m, .int .i64 b, .func (.func 37) #[] #[]] w (sortP w g (P ++ (mergeS [x] B ++ S)) n) := by
  have hbn : b ≤ n := by rw [← hL]; simp only [List.length_append, List.length_cons]; omega
  have e1 : (m : Int) - (a : Int) = 1 := by omega
  obtain ⟨R, hR⟩ : ∃ R, R = P ++ (mergeS [x] B ++ S) := ⟨_, rfl⟩
  rw [← hR]
  have HR := Lib.hid hR
  clear hR
  have HC := Lib.hid hC
  have HT := Lib.hid hT
  have HL := Lib.hid hL
  have HS := Lib.hid hs
  clear hC hT hL hs
  go_enter Tryd.func71, Tryd.ntmps71
  go_wp2
  go_loopw [10, 11] (fun v10 v11 wr => ∃ i j : Nat, v10 = .int .i64 i ∧ v11 = .int .i64 j ∧ Hid (m ≤ i ∧ i ≤ j ∧ j ≤ b ∧ (∀ t y, t < i - m → B[t]? = some y → lessC y x = true) ∧ (∀ t y, j - m ≤ t → B[t]? = some y → lessC y x = false)) ∧ CAt wr g (P ++ (x :: (B ++ S))) ∧ wr.there g 0 (n * 6) ∧ w.grownBy wr (some g)) (fun v u _ => (intOf u).toNat - (intOf v).toNat)
  case atStart => exact ⟨m, b, rfl, rfl, ⟨Nat.le_refl _, by omega, Nat.le_refl _, fun t y h => by omega, fun t y h h2 => by have := (List.getElem?_eq_some_iff.1 h2).1; omega⟩, HC.out, HT.out, World.grownBy.refl _ _⟩
  case round =>
    obtain ⟨i, j, rfl, rfl, hz, hCr, hTr, hG⟩ := hrel
    have hgr : g < wr.heap.size := Nat.lt_of_lt_of_le hg hG.size
    have hij := hz.out.2.1
    have hli := hz.out.1
    have hjb := hz.out.2.2.1
    by_cases hlt : i < j
    · have dlt : decide ((i : Int) < (j : Int)) = true := decide_eq_true (by omega)
      obtain ⟨s, hs⟩ : ∃ s, i + j = s := ⟨_, rfl⟩
      obtain ⟨h, hh⟩ : ∃ h, s / 2 = h := ⟨_, rfl⟩
      have e3 : (i : Int) + (j : Int) = (s : Int) := by omega
      have ws : IntKind.i64.wrap (s : Int) = (s : Int) := IntWalk.i64_in _ (by omega)
      have e4 : (s : Int) / 2 = (h : Int) := by omega
      have wh : IntKind.i64.wrap (h : Int) = (h : Int) := IntWalk.i64_in _ (by omega)
      have wh2 : IntKind.i64.wrap ((h : Int) + 1) = (h : Int) + 1 := IntWalk.i64_in _ (by omega)
      have hhi : i ≤ h ∧ h < j := by omega
      clear hs hh
      have hbl : h - m < B.length := by omega
      obtain ⟨⟨yi, yb, ys, yt, ya, yr⟩, hy⟩ : ∃ c, B[h - m]? = some c := ⟨_, List.getElem?_eq_getElem hbl⟩
      obtain ⟨xi, xb, xs, xt, xa, xr⟩ := x
      have gh := (app_get2 (P := P) (S := S) (x := ⟨xi, xb, xs, xt, xa, xr⟩) ha hm (by omega) hbl).trans hy
      have gx := app_get1 (P := P) (x := ⟨xi, xb, xs, xt, xa, xr⟩) (S := B ++ S) ha
      obtain ⟨p0, p1, p2, p3, p4, p5⟩ := hCr.cells gh
      obtain ⟨q0, q1, q2, q3, q4, q5⟩ := hCr.cells gx
      have cc := fun W => compare_any ⟨yi, yb, ys, yt, ya, yr⟩ ⟨xi, xb, xs, xt, xa, xr⟩ W
      have hless : Hid (lessC ⟨yi, yb, ys, yt, ya, yr⟩ ⟨xi, xb, xs, xt, xa, xr⟩ = decide (cmpC ⟨yi, yb, ys, yt, ya, yr⟩ ⟨xi, xb, xs, xt, xa, xr⟩ < 0)) := rfl
      generalize cmpC ⟨yi, yb, ys, yt, ya, yr⟩ ⟨xi, xb, xs, xt, xa, xr⟩ = nc at *
      have bh : (h : Int) < (n : Int) := by omega
      have ba : (a : Int) < (n : Int) := by omega
      have bh' : h < n := by omega
      have ba' : a < n := by omega
      unfold cellsC at cc
      simp only at cc
      have HCr := Lib.hid hCr
      have HTr := Lib.hid hTr
      have HG := Lib.hid hG
      have HY := Lib.hid hy
      clear hCr hTr hG hy gh gx
      go_wp2
      refine wp_region_still_tail 9 (by kernel_rfl) (by kernel_rfl) ?_
      simp only [List.take_succ_cons, List.take_zero, List.drop_succ_cons, List.drop_zero]
      refine wpStill_of_wpQuiet _ _ ?_
      repeat (first | go_big_quiet_skip | (go_big_quiet_want; go_big_quiet_op; first | go_big_quiet_on | (apply Exists.intro; refine ⟨?_, ?_⟩; (fail); go_big_quiet_on)))
      refine wpQuiet_nil ?_
      change wpList _ _ _ _ _ wr.drew
      go_wp2_with fail
      refine (cc _).mono ?_
      rintro e w5 ⟨rfl, hb5⟩
      have hb5' : Below wr.heap.size wr w5 := (Below.refl _ _).drew.trans hb5
      have hk5 : w5.heap[g]? = wr.heap[g]? := hb5'.block g hgr
      have hC5 := HCr.out.keep hk5
      have hT5 := there_keep HTr.out hk5
      have hG5 := grown_below HG.out hb5'
      clear hb5 hb5' hk5 cc p0 p1 p2 p3 p4 p5 q0 q1 q2 q3 q4 q5
      cases hlx : lessC ⟨yi, yb, ys, yt, ya, yr⟩ ⟨xi, xb, xs, xt, xa, xr⟩ with
      | true =>
        have dn : decide (nc < 0) = true := by rw [← hless.out]; exact hlx
        have HLX := Lib.hid hlx
        clear hlx
        go_wp2
        go_roundw
        case rel =>
          refine ⟨h + 1, j, by go_num, rfl, ⟨by omega, by omega, by omega, ?_, hz.out.2.2.2.2⟩, hC5, hT5, hG5⟩
          intro t y ht hy2
          exact le_lt (srt_get HS.out hy2 HY.out (by omega)) HLX.out
        case measure => simp [intOf]; omega
      | false =>
        have dn : decide (nc < 0) = false := by rw [← hless.out]; exact hlx
        have HLX := Lib.hid hlx
        clear hlx
        go_wp2
        go_roundw
        case rel =>
          refine ⟨i, h, rfl, rfl, ⟨by omega, by omega, by omega, hz.out.2.2.2.1, ?_⟩, hC5, hT5, hG5⟩
          intro t y ht hy2
          exact le_trans_ge (srt_get HS.out HY.out hy2 (by omega)) HLX.out
        case measure => simp [intOf]; omega
    · have dlt : decide ((i : Int) < (j : Int)) = false := decide_eq_false (by omega)
      obtain rfl : i = j := by omega
      obtain ⟨T1, T2, hT12, t1, t2⟩ := split_at B (k := i - m) (by omega)
      have m1 := mem_take hT12 t1 hz.out.2.2.2.1
      have m2 := mem_drop hT12 t1 hz.out.2.2.2.2
      subst hT12
      have hz2 : Hid (m ≤ i ∧ i ≤ n) := ⟨by omega, by omega⟩
      clear hz hij hlt
      have hR : R = P ++ (T1 ++ x :: T2 ++ S) := by rw [HR.out, merge_left m1 m2]
      clear HR
      rw [List.length_append] at hb
      have HCr := Lib.hid hCr
      have HTr := Lib.hid hTr
      have HG := Lib.hid hG
      have RR : Hid (∀ T3 : List Card, T3 = [] → P ++ (T1 ++ T3 ++ (x :: (T2 ++ S))) = P ++ (T1 ++ x :: T2 ++ S)) := fun T3 h => by subst h; simp
      obtain ⟨i1, hi1⟩ : ∃ i1, i - 1 = i1 := ⟨_, rfl⟩
      have e5 : (i : Int) - 1 = (i1 : Int) := by omega
      have wi1 : IntKind.i64.wrap (i1 : Int) = (i1 : Int) := IntWalk.i64_in _ (by omega)
      have HI : Hid (P.length = a ∧ T1.length + a = i1 ∧ i1 < n) := ⟨ha, by omega, by omega⟩
      have HX : Hid (∃ U1 U2, T1 = U1 ++ U2 ∧ U1.length + a = a) := ⟨[], T1, rfl, by simp⟩
      have hLn := HL.out
      clear hCr hTr hG m1 m2 HC HT HS HL t1 t2 hi1
      go_wp2
      obtain ⟨wo, hwo⟩ : ∃ wo : World, wo = wr := ⟨_, rfl⟩
      go_loopw [13] (fun v13 wr => ∃ (k : Nat) (U1 U2 : List Card), v13 = .int .i64 k ∧ Hid (T1 = U1 ++ U2 ∧ U1.length + a = k ∧ (P ++ (U1 ++ (x :: (U2 ++ (T2 ++ S))))).length = n) ∧ CAt wr g (P ++ (U1 ++ (x :: (U2 ++ (T2 ++ S))))) ∧ wr.there g 0 (n * 6) ∧ w.grownBy wr (some g)) (fun v _ => i1 - (intOf v).toNat)
      case atStart => exact ⟨a, [], T1, rfl, ⟨rfl, by simp, by rw [← hLn]; simp⟩, by simpa using HCr.out, HTr.out, HG.out⟩
      case round =>
        clear hwo HCr HTr HG HX hLn
        obtain ⟨k, U1, U2, rfl, hz, hCr, hTr, hG⟩ := hrel
        obtain ⟨u1, u2, u3⟩ := hz.out
        have h4 := HI.out
        have h5 : T1.length = U1.length + U2.length := by rw [u1, List.length_append]
        by_cases hlt : k < i1
        · have dlt : decide ((k : Int) < (i1 : Int)) = true := decide_eq_true (by omega)
          obtain ⟨y, U3, rfl⟩ : ∃ y U3, U2 = y :: U3 := by cases U2 with | nil => simp at h5; omega | cons y U3 => exact ⟨y, U3, rfl⟩
          obtain ⟨j, hj⟩ : ∃ j, k + 1 = j := ⟨_, rfl⟩
          have hPU : (P ++ U1).length = k := by rw [List.length_append]; omega
          have hsw := (swp_adj (P ++ U1) (U3 ++ (T2 ++ S)) x y hPU hj.symm).1
          have hCr2 : CAt wr g ((P ++ U1) ++ (x :: y :: (U3 ++ (T2 ++ S)))) := by simpa only [List.append_assoc, List.cons_append] using hCr
          have hlen : ((P ++ U1) ++ (x :: y :: (U3 ++ (T2 ++ S)))).length = n := by rw [← u3]; simp
          have hxi : ((P ++ U1) ++ (x :: y :: (U3 ++ (T2 ++ S))))[k]? = some x := app_get1 hPU
          have hyj : ((P ++ U1) ++ (x :: y :: (U3 ++ (T2 ++ S))))[j]? = some y := by
            rw [List.getElem?_append_right (by omega), show j - (P ++ U1).length = 1 by omega]; rfl
          have HNX : Hid (∀ W, CAt W g ((P ++ U1) ++ (y :: x :: (U3 ++ (T2 ++ S)))) → CAt W g (P ++ ((U1 ++ [y]) ++ (x :: (U3 ++ (T2 ++ S)))))) := fun W h => by simpa using h
          have HN2 : Hid (T1 = (U1 ++ [y]) ++ U3 ∧ (U1 ++ [y]).length + a = j ∧ (P ++ ((U1 ++ [y]) ++ (x :: (U3 ++ (T2 ++ S))))).length = n) := ⟨by rw [u1]; simp, by simp; omega, by rw [← u3]; simp⟩
          have e6 : (k : Int) + 1 = (j : Int) := by omega
          have wj : IntKind.i64.wrap (j : Int) = (j : Int) := IntWalk.i64_in _ (by omega)
          have bk : (k : Int) < (n : Int) := by omega
          have bj : (j : Int) < (n : Int) := by omega
          have bk' : k < n := by omega
          have bj' : j < n := by omega
          have hji : j ≤ i1 := by omega
          have hQj : j * 6 = k * 6 + 6 := by omega
          clear hz u1 u2 u3 h4 h5 hCr hPU hlt HI RR
          generalize hM : (P ++ U1) ++ (x :: y :: (U3 ++ (T2 ++ S))) = M at *
          obtain ⟨xi, xb, xs, xt, xa, xr⟩ := x
          obtain ⟨yi, yb, ys, yt, ya, yr⟩ := y
          obtain ⟨p0, p1, p2, p3, p4, p5⟩ := hCr2.cells hxi
          obtain ⟨q0, q1, q2, q3, q4, q5⟩ := hCr2.cells hyj
          obtain ⟨Q, hQ⟩ : ∃ Q, k * 6 = Q := ⟨_, rfl⟩
          rw [hQ] at hQj
          have hQl : Q + 12 ≤ n * 6 := by omega
          rw [hQ] at p0 p1 p2 p3 p4 p5
          rw [hQj] at q0 q1 q2 q3 q4 q5
          simp only [Nat.add_assoc, Nat.reduceAdd] at q0 q1 q2 q3 q4 q5
          have z0 : wr.frozen? ⟨g, Q, none⟩ = false := by have := (hTr (Q) (by omega)).2; rwa [Nat.zero_add] at this
          have z1 : wr.frozen? ⟨g, Q + 1, none⟩ = false := by have := (hTr (Q + 1) (by omega)).2; rwa [Nat.zero_add] at this
          have z2 : wr.frozen? ⟨g, Q + 2, none⟩ = false := by have := (hTr (Q + 2) (by omega)).2; rwa [Nat.zero_add] at this
          have z3 : wr.frozen? ⟨g, Q + 3, none⟩ = false := by have := (hTr (Q + 3) (by omega)).2; rwa [Nat.zero_add] at this
          have z4 : wr.frozen? ⟨g, Q + 4, none⟩ = false := by have := (hTr (Q + 4) (by omega)).2; rwa [Nat.zero_add] at this
          have z5 : wr.frozen? ⟨g, Q + 5, none⟩ = false := by have := (hTr (Q + 5) (by omega)).2; rwa [Nat.zero_add] at this
          have z6 : wr.frozen? ⟨g, Q + 6, none⟩ = false := by have := (hTr (Q + 6) (by omega)).2; rwa [Nat.zero_add] at this
          have z7 : wr.frozen? ⟨g, Q + 7, none⟩ = false := by have := (hTr (Q + 7) (by omega)).2; rwa [Nat.zero_add] at this
          have z8 : wr.frozen? ⟨g, Q + 8, none⟩ = false := by have := (hTr (Q + 8) (by omega)).2; rwa [Nat.zero_add] at this
          have z9 : wr.frozen? ⟨g, Q + 9, none⟩ = false := by have := (hTr (Q + 9) (by omega)).2; rwa [Nat.zero_add] at this
          have z10 : wr.frozen? ⟨g, Q + 10, none⟩ = false := by have := (hTr (Q + 10) (by omega)).2; rwa [Nat.zero_add] at this
          have z11 : wr.frozen? ⟨g, Q + 11, none⟩ = false := by have := (hTr (Q + 11) (by omega)).2; rwa [Nat.zero_add] at this
          have HCr := Lib.hid hCr2
          have HTr := Lib.hid hTr
          have HG := Lib.hid hG
          have HXI := Lib.hid hxi
          have HYJ := Lib.hid hyj
          have HSWE := Lib.hid hsw
          have HML := Lib.hid hlen
          clear hCr2 hTr hG hxi hyj hsw hM hlen
          go_wp2
          go_region_law (fail)
          all_goals
            have hsw := swp_chain HCr.out HTr.out HML.out (by have := HML.out; omega) (by have := HML.out; omega) HXI.out HYJ.out hQ hQj HG.out _ rfl
            have HSW := Lib.hid hsw
            clear hsw p0 p1 p2 p3 p4 p5 q0 q1 q2 q3 q4 q5 z0 z1 z2 z3 z4 z5 z6 z7 z8 z9 z10 z11
            generalize World.drew _ = Wz at HSW ⊢
            go_wp2
            go_roundw
            case rel => exact ⟨j, U1 ++ [⟨yi, yb, ys, yt, ya, yr⟩], U3, rfl, HN2, HNX.out _ (by rw [← HSWE.out]; exact HSW.out.1), HSW.out.2.1, HSW.out.2.2⟩
            case measure => simp [intOf]; omega
        · have dlt : decide ((k : Int) < (i1 : Int)) = false := decide_eq_false (by omega)
          have hU2 : U2 = [] := List.eq_nil_of_length_eq_zero (by omega)
          have hfin : CAt wr g R := by
            have := RR.out [] rfl
            rw [hR, ← this]
            subst hU2
            rw [List.append_nil] at u1
            subst u1
            simpa using hCr
          clear hz u1 u2 u3 h4 h5 hCr hU2
          go_wp2
          go_end0
          exact ⟨rfl, hfin, hTr, hG⟩
end Go.Proofs.YtjcaaiikccnpeaaDoor
