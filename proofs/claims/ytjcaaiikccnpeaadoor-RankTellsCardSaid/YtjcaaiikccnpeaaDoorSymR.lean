/- The library's merge of one card with sorted ones, walked. -/
import Derived.Test.YtjcaaiikccnpeaaDoorSymL
import Derived.Test.YtjcaaiikccnpeaaDoorMergePure
namespace Go.Proofs.YtjcaaiikccnpeaaDoor
open Go.ChangeShapes Go.WideShapes Go.ChangeAt Go.RowKit Go.Lib
set_option linter.unusedVariables false

set_option maxRecDepth 100000 in
set_option maxHeartbeats 4000000 in
theorem sym_right (P A S : List Card) (x : Card) (n g c a m b : Nat) (w : World) (hL : (P ++ (A ++ (x :: S))).length = n) (ha : P.length = a) (hm : a + A.length = m) (hb : m + 1 = b) (hA : A.length ≠ 1) (hs : Srt A) (hn : n ≤ 1000000) (hc : n ≤ c) (hg : g < w.heap.size)
    (hC : CAt w g (P ++ (A ++ (x :: S)))) (hT : w.there g 0 (n * 6)) :
    Calls Tryd.prog 71 #[.slice (some ⟨g, 0, none⟩) n c, .int .i64 a, .int .i64 m, .int .i64 b, .func (.func 37) #[] #[]] w (sortP w g (P ++ (mergeS A [x] ++ S)) n) := by
  have hbn : b ≤ n := by rw [← hL]; simp only [List.length_append, List.length_cons]; omega
  obtain ⟨la, hla⟩ : ∃ la, A.length = la := ⟨_, rfl⟩
  have e1 : (m : Int) - (a : Int) = (la : Int) := by omega
  have w1 : IntKind.i64.wrap (la : Int) = (la : Int) := IntWalk.i64_in _ (by omega)
  have d1 : ((la : Int) == 1) = false := by simp; omega
  have d1' : ¬ ((la : Int) = 1) := by omega
  have e2 : (b : Int) - (m : Int) = 1 := by omega
  obtain ⟨R, hR⟩ : ∃ R, R = P ++ (mergeS A [x] ++ S) := ⟨_, rfl⟩
  rw [← hR]
  have HR := Lib.hid hR
  clear hR
  have HC := Lib.hid hC
  have HT := Lib.hid hT
  have HL := Lib.hid hL
  have HS := Lib.hid hs
  clear hC hT hL hs
  go_enter Tryd.func71, Tryd.ntmps71
  go_wp2
  go_loopw [14, 15] (fun v10 v11 wr => ∃ i j : Nat, v10 = .int .i64 i ∧ v11 = .int .i64 j ∧ Hid (a ≤ i ∧ i ≤ j ∧ j ≤ m ∧ (∀ t y, t < i - a → A[t]? = some y → lessC x y = false) ∧ (∀ t y, j - a ≤ t → A[t]? = some y → lessC x y = true)) ∧ CAt wr g (P ++ (A ++ (x :: S))) ∧ wr.there g 0 (n * 6) ∧ w.grownBy wr (some g)) (fun v u _ => (intOf u).toNat - (intOf v).toNat)
  case atStart => exact ⟨a, m, rfl, rfl, ⟨Nat.le_refl _, by omega, Nat.le_refl _, fun t y h => by omega, fun t y h h2 => by have := (List.getElem?_eq_some_iff.1 h2).1; omega⟩, HC.out, HT.out, World.grownBy.refl _ _⟩
  case round =>
    obtain ⟨i, j, rfl, rfl, hz, hCr, hTr, hG⟩ := hrel
    have hgr : g < wr.heap.size := Nat.lt_of_lt_of_le hg hG.size
    have hij := hz.out.2.1
    have hli := hz.out.1
    have hjb := hz.out.2.2.1
    by_cases hlt : i < j
    · have dlt : decide ((i : Int) < (j : Int)) = true := decide_eq_true (by omega)
      obtain ⟨s, hs⟩ : ∃ s, i + j = s := ⟨_, rfl⟩
      obtain ⟨h, hh⟩ : ∃ h, s / 2 = h := ⟨_, rfl⟩
      have e3 : (i : Int) + (j : Int) = (s : Int) := by omega
      have ws : IntKind.i64.wrap (s : Int) = (s : Int) := IntWalk.i64_in _ (by omega)
      have e4 : (s : Int) / 2 = (h : Int) := by omega
      have wh : IntKind.i64.wrap (h : Int) = (h : Int) := IntWalk.i64_in _ (by omega)
      have wh2 : IntKind.i64.wrap ((h : Int) + 1) = (h : Int) + 1 := IntWalk.i64_in _ (by omega)
      have hhi : i ≤ h ∧ h < j := by omega
      clear hs hh
      have hbl : h - a < A.length := by omega
      obtain ⟨⟨yi, yb, ys, yt, ya, yr⟩, hy⟩ : ∃ c, A[h - a]? = some c := ⟨_, List.getElem?_eq_getElem hbl⟩
      obtain ⟨xi, xb, xs, xt, xa, xr⟩ := x
      have gh := (app_get3 (P := P) (S := S) (y := ⟨xi, xb, xs, xt, xa, xr⟩) ha (by omega) hbl).trans hy
      have gx := app_get4 (P := P) (y := ⟨xi, xb, xs, xt, xa, xr⟩) (S := S) ha hm
      obtain ⟨p0, p1, p2, p3, p4, p5⟩ := hCr.cells gh
      obtain ⟨q0, q1, q2, q3, q4, q5⟩ := hCr.cells gx
      have cc := fun W => compare_any ⟨xi, xb, xs, xt, xa, xr⟩ ⟨yi, yb, ys, yt, ya, yr⟩ W
      have hless : Hid (lessC ⟨xi, xb, xs, xt, xa, xr⟩ ⟨yi, yb, ys, yt, ya, yr⟩ = decide (cmpC ⟨xi, xb, xs, xt, xa, xr⟩ ⟨yi, yb, ys, yt, ya, yr⟩ < 0)) := rfl
      generalize cmpC ⟨xi, xb, xs, xt, xa, xr⟩ ⟨yi, yb, ys, yt, ya, yr⟩ = nc at *
      have bh : (h : Int) < (n : Int) := by omega
      have bm : (m : Int) < (n : Int) := by omega
      have bh' : h < n := by omega
      have bm' : m < n := by omega
      unfold cellsC at cc
      simp only at cc
      have HCr := Lib.hid hCr
      have HTr := Lib.hid hTr
      have HG := Lib.hid hG
      have HY := Lib.hid hy
      clear hCr hTr hG hy gh gx
      go_wp2
      refine wp_region_still_tail 9 (by kernel_rfl) (by kernel_rfl) ?_
      simp only [List.take_succ_cons, List.take_zero, List.drop_succ_cons, List.drop_zero]
      refine wpStill_of_wpQuiet _ _ ?_
      repeat (first | go_big_quiet_skip | (go_big_quiet_want; go_big_quiet_op; first | go_big_quiet_on | (apply Exists.intro; refine ⟨?_, ?_⟩; (fail); go_big_quiet_on)))
      refine wpQuiet_nil ?_
      change wpList _ _ _ _ _ wr.drew
      go_wp2_with fail
      refine (cc _).mono ?_
      rintro e w5 ⟨rfl, hb5⟩
      have hb5' : Below wr.heap.size wr w5 := (Below.refl _ _).drew.trans hb5
      have hk5 : w5.heap[g]? = wr.heap[g]? := hb5'.block g hgr
      have hC5 := HCr.out.keep hk5
      have hT5 := there_keep HTr.out hk5
      have hG5 := grown_below HG.out hb5'
      clear hb5 hb5' hk5 cc p0 p1 p2 p3 p4 p5 q0 q1 q2 q3 q4 q5
      cases hlx : lessC ⟨xi, xb, xs, xt, xa, xr⟩ ⟨yi, yb, ys, yt, ya, yr⟩ with
      | true =>
        have dn : decide (nc < 0) = true := by rw [← hless.out]; exact hlx
        have HLX := Lib.hid hlx
        clear hlx
        go_wp2
        go_roundw
        case rel =>
          refine ⟨i, h, rfl, rfl, ⟨by omega, by omega, by omega, hz.out.2.2.2.1, ?_⟩, hC5, hT5, hG5⟩
          intro t y ht hy2
          exact lt_le HLX.out (srt_get HS.out HY.out hy2 (by omega))
        case measure => simp [intOf]; omega
      | false =>
        have dn : decide (nc < 0) = false := by rw [← hless.out]; exact hlx
        have HLX := Lib.hid hlx
        clear hlx
        go_wp2
        go_roundw
        case rel =>
          refine ⟨h + 1, j, by go_num, rfl, ⟨by omega, by omega, by omega, ?_, hz.out.2.2.2.2⟩, hC5, hT5, hG5⟩
          intro t y ht hy2
          exact le_trans' (srt_get HS.out hy2 HY.out (by omega)) HLX.out
        case measure => simp [intOf]; omega
    · have dlt : decide ((i : Int) < (j : Int)) = false := decide_eq_false (by omega)
      obtain rfl : i = j := by omega
      obtain ⟨T1, T2, hT12, t1, t2⟩ := split_at A (k := i - a) (by omega)
      have m1 := mem_take hT12 t1 hz.out.2.2.2.1
      have m2 := mem_drop hT12 t1 hz.out.2.2.2.2
      subst hT12
      have hz2 : Hid (a ≤ i ∧ i ≤ m ∧ i ≤ n) := ⟨by omega, by omega⟩
      clear hz hij hlt
      have hR : R = P ++ (T1 ++ x :: T2 ++ S) := by rw [HR.out, merge_right m1 m2]
      clear HR
      rw [List.length_append] at hm hla hA
      have HCr := Lib.hid hCr
      have HTr := Lib.hid hTr
      have HG := Lib.hid hG
      have HI : Hid (P.length = a ∧ T1.length + a = i ∧ i ≤ m ∧ m < n) := ⟨ha, by omega, by omega, by omega⟩
      have hLn := HL.out
      have hT2m : a + (T1.length + T2.length) = m := hm
      clear hCr hTr hG m1 m2 HC HT HS HL t1 t2
      go_wp2
      obtain ⟨wo, hwo⟩ : ∃ wo : World, wo = wr := ⟨_, rfl⟩
      go_loopw [17] (fun v17 wr => ∃ (k : Nat) (U1 U2 : List Card), v17 = .int .i64 k ∧ Hid (T2 = U1 ++ U2 ∧ i + U1.length = k ∧ (P ++ (T1 ++ (U1 ++ (x :: (U2 ++ S))))).length = n) ∧ CAt wr g (P ++ (T1 ++ (U1 ++ (x :: (U2 ++ S))))) ∧ wr.there g 0 (n * 6) ∧ w.grownBy wr (some g)) (fun v _ => (intOf v).toNat)
      case atStart => exact ⟨m, T2, [], rfl, ⟨by simp, by have := HI.out; omega, by rw [← hLn]; simp⟩, by simpa using HCr.out, HTr.out, HG.out⟩
      case round =>
        clear hwo HCr HTr HG hLn
        obtain ⟨k, U1, U2, rfl, hz, hCr, hTr, hG⟩ := hrel
        obtain ⟨u1, u2, u3⟩ := hz.out
        have h4 := HI.out
        have h5 : T2.length = U1.length + U2.length := by rw [u1, List.length_append]
        by_cases hlt : i < k
        · have dlt : decide ((i : Int) < (k : Int)) = true := decide_eq_true (by omega)
          have dlt2 : decide (i < k) = true := decide_eq_true hlt
          have hne : U1 ≠ [] := by intro h; subst h; simp at u2; omega
          obtain ⟨U3, y, rfl⟩ : ∃ U3 y, U1 = U3 ++ [y] := ⟨U1.dropLast, U1.getLast hne, (List.dropLast_concat_getLast hne).symm⟩
          rw [List.length_append] at u2 h5
          simp only [List.length_cons, List.length_nil, Nat.zero_add] at u2 h5
          obtain ⟨j, hj⟩ : ∃ j, k - 1 = j := ⟨_, rfl⟩
          have hPU : (P ++ (T1 ++ U3)).length = j := by rw [List.length_append, List.length_append]; omega
          have hsw := (swp_adj (P ++ (T1 ++ U3)) (U2 ++ S) y x (j := k) hPU (by omega)).2
          have hCr2 : CAt wr g ((P ++ (T1 ++ U3)) ++ (y :: x :: (U2 ++ S))) := by simpa using hCr
          have hlen : ((P ++ (T1 ++ U3)) ++ (y :: x :: (U2 ++ S))).length = n := by rw [← u3]; simp
          have hyj : ((P ++ (T1 ++ U3)) ++ (y :: x :: (U2 ++ S)))[j]? = some y := app_get1 hPU
          have hxi : ((P ++ (T1 ++ U3)) ++ (y :: x :: (U2 ++ S)))[k]? = some x := by
            rw [List.getElem?_append_right (by omega), show k - (P ++ (T1 ++ U3)).length = 1 by omega]; rfl
          have HNX : Hid (∀ W, CAt W g ((P ++ (T1 ++ U3)) ++ (x :: y :: (U2 ++ S))) → CAt W g (P ++ (T1 ++ (U3 ++ (x :: ((y :: U2) ++ S)))))) := fun W h => by simpa using h
          have HN2 : Hid (T2 = U3 ++ (y :: U2) ∧ i + U3.length = j ∧ (P ++ (T1 ++ (U3 ++ (x :: ((y :: U2) ++ S))))).length = n) := ⟨by rw [u1]; simp, by omega, by rw [← u3]; simp⟩
          have e6 : (k : Int) - 1 = (j : Int) := by omega
          have wj : IntKind.i64.wrap (j : Int) = (j : Int) := IntWalk.i64_in _ (by omega)
          have bk : (k : Int) < (n : Int) := by omega
          have bj : (j : Int) < (n : Int) := by omega
          have bk' : k < n := by omega
          have bj' : j < n := by omega
          have hjk : j < k := by omega
          have hQj : k * 6 = j * 6 + 6 := by omega
          clear hz u1 u2 u3 h4 h5 hCr hPU hlt HI hne
          generalize hM : (P ++ (T1 ++ U3)) ++ (y :: x :: (U2 ++ S)) = M at *
          obtain ⟨xi, xb, xs, xt, xa, xr⟩ := x
          obtain ⟨yi, yb, ys, yt, ya, yr⟩ := y
          obtain ⟨p0, p1, p2, p3, p4, p5⟩ := hCr2.cells hxi
          obtain ⟨q0, q1, q2, q3, q4, q5⟩ := hCr2.cells hyj
          obtain ⟨Q, hQ⟩ : ∃ Q, j * 6 = Q := ⟨_, rfl⟩
          rw [hQ] at hQj
          have hQl : Q + 12 ≤ n * 6 := by omega
          rw [hQj] at p0 p1 p2 p3 p4 p5
          rw [hQ] at q0 q1 q2 q3 q4 q5
          simp only [Nat.add_assoc, Nat.reduceAdd] at p0 p1 p2 p3 p4 p5
          have z0 : wr.frozen? ⟨g, Q, none⟩ = false := by have := (hTr (Q) (by omega)).2; rwa [Nat.zero_add] at this
          have z1 : wr.frozen? ⟨g, Q + 1, none⟩ = false := by have := (hTr (Q + 1) (by omega)).2; rwa [Nat.zero_add] at this
          have z2 : wr.frozen? ⟨g, Q + 2, none⟩ = false := by have := (hTr (Q + 2) (by omega)).2; rwa [Nat.zero_add] at this
          have z3 : wr.frozen? ⟨g, Q + 3, none⟩ = false := by have := (hTr (Q + 3) (by omega)).2; rwa [Nat.zero_add] at this
          have z4 : wr.frozen? ⟨g, Q + 4, none⟩ = false := by have := (hTr (Q + 4) (by omega)).2; rwa [Nat.zero_add] at this
          have z5 : wr.frozen? ⟨g, Q + 5, none⟩ = false := by have := (hTr (Q + 5) (by omega)).2; rwa [Nat.zero_add] at this
          have z6 : wr.frozen? ⟨g, Q + 6, none⟩ = false := by have := (hTr (Q + 6) (by omega)).2; rwa [Nat.zero_add] at this
          have z7 : wr.frozen? ⟨g, Q + 7, none⟩ = false := by have := (hTr (Q + 7) (by omega)).2; rwa [Nat.zero_add] at this
          have z8 : wr.frozen? ⟨g, Q + 8, none⟩ = false := by have := (hTr (Q + 8) (by omega)).2; rwa [Nat.zero_add] at this
          have z9 : wr.frozen? ⟨g, Q + 9, none⟩ = false := by have := (hTr (Q + 9) (by omega)).2; rwa [Nat.zero_add] at this
          have z10 : wr.frozen? ⟨g, Q + 10, none⟩ = false := by have := (hTr (Q + 10) (by omega)).2; rwa [Nat.zero_add] at this
          have z11 : wr.frozen? ⟨g, Q + 11, none⟩ = false := by have := (hTr (Q + 11) (by omega)).2; rwa [Nat.zero_add] at this
          have HCr := Lib.hid hCr2
          have HTr := Lib.hid hTr
          have HG := Lib.hid hG
          have HXI := Lib.hid hxi
          have HYJ := Lib.hid hyj
          have HSWE := Lib.hid hsw
          have HML := Lib.hid hlen
          clear hCr2 hTr hG hxi hyj hsw hM hlen
          go_wp2
          go_region_law (fail)
          all_goals
            have hsw := swp_chain HCr.out HTr.out HML.out (by have := HML.out; omega) (by have := HML.out; omega) HXI.out HYJ.out hQj hQ HG.out _ rfl
            have HSW := Lib.hid hsw
            clear hsw p0 p1 p2 p3 p4 p5 q0 q1 q2 q3 q4 q5 z0 z1 z2 z3 z4 z5 z6 z7 z8 z9 z10 z11
            generalize World.drew _ = Wz at HSW ⊢
            go_wp2
            go_roundw
            case rel => exact ⟨j, U3, ⟨yi, yb, ys, yt, ya, yr⟩ :: U2, rfl, HN2, HNX.out _ (by rw [← HSWE.out]; exact HSW.out.1), HSW.out.2.1, HSW.out.2.2⟩
            case measure => simp [intOf]; omega
        · have dlt : decide ((i : Int) < (k : Int)) = false := decide_eq_false (by omega)
          have dlt2 : decide (i < k) = false := decide_eq_false hlt
          have hU1 : U1 = [] := List.eq_nil_of_length_eq_zero (by omega)
          have hfin : CAt wr g R := by
            rw [hR]
            subst hU1
            rw [List.nil_append] at u1
            subst u1
            simpa using hCr
          clear hz u1 u2 u3 h4 h5 hCr hU1
          go_wp2
          go_end0
          exact ⟨rfl, hfin, hTr, hG⟩
end Go.Proofs.YtjcaaiikccnpeaaDoor
