/- The library's merge of sorted ranges of cards, walked. -/
import Derived.Test.YtjcaaiikccnpeaaDoorSymG1
import Derived.Deep.DeepCutAuto
namespace Go.Proofs.YtjcaaiikccnpeaaDoor
open Go.ChangeShapes Go.WideShapes Go.ChangeAt Go.RowKit Go.Lib
set_option linter.unusedVariables false

set_option maxRecDepth 100000 in
set_option maxHeartbeats 8000000 in
theorem sym_gen0 (k : Nat) (IH : SymTo k) (P A B S : List Card) (n g c a m b : Nat) (w : World) (hk : A.length + B.length ≤ k + 1) (hL : (P ++ (A ++ (B ++ S))).length = n) (ha : P.length = a) (hm : a + A.length = m) (hb : m + B.length = b) (hA : 2 ≤ A.length) (hB : 2 ≤ B.length) (sA : Srt A) (sB : Srt B) (hmm : ¬ (a + b) / 2 < m) (hn : n ≤ 1000000) (hc : n ≤ c) (hg : g < w.heap.size)
    (hC : CAt w g (P ++ (A ++ (B ++ S)))) (hT : w.there g 0 (n * 6)) :
    Calls Tryd.prog 71 #[.slice (some ⟨g, 0, none⟩) n c, .int .i64 a, .int .i64 m, .int .i64 b, .func (.func 37) #[] #[]] w (sortP w g (P ++ (mergeS A B ++ S)) n) := by
  have hbn : b ≤ n := by rw [← hL]; simp only [List.length_append]; omega
  obtain ⟨R, hR⟩ : ∃ R, R = P ++ (mergeS A B ++ S) := ⟨_, rfl⟩
  rw [← hR]
  have HR := Lib.hid hR
  clear hR
  obtain ⟨la, hla⟩ : ∃ la, A.length = la := ⟨_, rfl⟩
  obtain ⟨lb, hlb⟩ : ∃ lb, B.length = lb := ⟨_, rfl⟩
  obtain ⟨s0, hs0⟩ : ∃ s0, a + b = s0 := ⟨_, rfl⟩
  obtain ⟨mid, hmid⟩ : ∃ mid, s0 / 2 = mid := ⟨_, rfl⟩
  obtain ⟨nn, hnn⟩ : ∃ nn, mid + m = nn := ⟨_, rfl⟩
  obtain ⟨p, hp⟩ : ∃ p, nn - 1 = p := ⟨_, rfl⟩
  have ar : 2 * mid ≤ a + b ∧ a + b ≤ 2 * mid + 1 := by omega
  have e1 : (m : Int) - (a : Int) = (la : Int) := by omega
  have e2 : (b : Int) - (m : Int) = (lb : Int) := by omega
  have w1 : IntKind.i64.wrap (la : Int) = (la : Int) := IntWalk.i64_in _ (by omega)
  have w2 : IntKind.i64.wrap (lb : Int) = (lb : Int) := IntWalk.i64_in _ (by omega)
  have d1 : ((la : Int) == 1) = false := by simp; omega
  have d1' : ¬ ((la : Int) = 1) := by omega
  have d2 : ((lb : Int) == 1) = false := by simp; omega
  have d2' : ¬ ((lb : Int) = 1) := by omega
  have e3 : (a : Int) + (b : Int) = (s0 : Int) := by omega
  have w3 : IntKind.i64.wrap (s0 : Int) = (s0 : Int) := IntWalk.i64_in _ (by omega)
  have e4 : (s0 : Int) / 2 = (mid : Int) := by omega
  have w4 : IntKind.i64.wrap (mid : Int) = (mid : Int) := IntWalk.i64_in _ (by omega)
  have e5 : (mid : Int) + (m : Int) = (nn : Int) := by omega
  have w5 : IntKind.i64.wrap (nn : Int) = (nn : Int) := IntWalk.i64_in _ (by omega)
  have e6 : (nn : Int) - 1 = (p : Int) := by omega
  have w6 : IntKind.i64.wrap (p : Int) = (p : Int) := IntWalk.i64_in _ (by omega)
  have HC := Lib.hid hC
  have HT := Lib.hid hT
  have HL := Lib.hid hL
  have SA := Lib.hid sA
  have SB := Lib.hid sB
  rw [hs0, hmid] at hmm
  clear hC hT hL sA sB hs0 hmid
  have dm : decide ((mid : Int) < (m : Int)) = false := decide_eq_false (by omega)
  have dm2 : decide (mid < m) = false := decide_eq_false hmm
  go_enter Tryd.func71, Tryd.ntmps71
  go_wp2
  go_loopw [20, 21] (fun v20 v21 wr => ∃ s r : Nat, v20 = .int .i64 s ∧ v21 = .int .i64 r ∧ Hid (a ≤ s ∧ s ≤ r ∧ r ≤ m ∧ (s = a ∨ ∀ x y, A[s - 1 - a]? = some x → B[p - (s - 1) - m]? = some y → lessC y x = false) ∧ (r = m ∨ ∀ x y, A[r - a]? = some x → B[p - r - m]? = some y → lessC y x = true)) ∧ CAt wr g (P ++ (A ++ (B ++ S))) ∧ wr.there g 0 (n * 6) ∧ w.grownBy wr (some g)) (fun v u _ => (intOf u).toNat - (intOf v).toNat)
  case atStart => exact ⟨a, m, rfl, rfl, ⟨by omega, by omega, by omega, .inl rfl, .inl rfl⟩, HC.out, HT.out, World.grownBy.refl _ _⟩
  case round =>
    obtain ⟨s, r, rfl, rfl, hz, hCr, hTr, hG⟩ := hrel
    have hgr : g < wr.heap.size := Nat.lt_of_lt_of_le hg hG.size
    have hli := hz.out.1
    have hsr := hz.out.2.1
    have hri := hz.out.2.2.1
    by_cases hlt : s < r
    · have dlt : decide ((s : Int) < (r : Int)) = true := decide_eq_true (by omega)
      obtain ⟨q, hq⟩ : ∃ q, s + r = q := ⟨_, rfl⟩
      obtain ⟨h, hh⟩ : ∃ h, q / 2 = h := ⟨_, rfl⟩
      obtain ⟨pc, hpc⟩ : ∃ pc, p - h = pc := ⟨_, rfl⟩
      have f3 : (s : Int) + (r : Int) = (q : Int) := by omega
      have v3 : IntKind.i64.wrap (q : Int) = (q : Int) := IntWalk.i64_in _ (by omega)
      have f4 : (q : Int) / 2 = (h : Int) := by omega
      have v4 : IntKind.i64.wrap (h : Int) = (h : Int) := IntWalk.i64_in _ (by omega)
      have v5 : IntKind.i64.wrap ((h : Int) + 1) = (h : Int) + 1 := IntWalk.i64_in _ (by omega)
      have hhi : s ≤ h ∧ h < r := by omega
      have f6 : (p : Int) - (h : Int) = (pc : Int) := by omega
      have v6 : IntKind.i64.wrap (pc : Int) = (pc : Int) := IntWalk.i64_in _ (by omega)
      have hin : a ≤ h ∧ h < m ∧ m ≤ pc ∧ pc < b ∧ p - h - m = pc - m := by omega
      clear hq hh
      obtain ⟨⟨xi, xb, xs, xt, xa, xr⟩, hx⟩ : ∃ c, A[h - a]? = some c := ⟨_, List.getElem?_eq_getElem (by omega)⟩
      obtain ⟨⟨yi, yb, ys, yt, ya, yr⟩, hy⟩ : ∃ c, B[pc - m]? = some c := ⟨_, List.getElem?_eq_getElem (by omega)⟩
      have gx := (app_getA (P := P) (A := A) (B := B) (S := S) ha hin.1 (by omega)).trans hx
      have gy := (app_getB (P := P) (A := A) (B := B) (S := S) ha hm hin.2.2.1 (by omega)).trans hy
      obtain ⟨p0, p1, p2, p3, p4, p5⟩ := hCr.cells gx
      obtain ⟨q0, q1, q2, q3, q4, q5⟩ := hCr.cells gy
      have cc := fun W => compare_any ⟨yi, yb, ys, yt, ya, yr⟩ ⟨xi, xb, xs, xt, xa, xr⟩ W
      have hless : Hid (lessC ⟨yi, yb, ys, yt, ya, yr⟩ ⟨xi, xb, xs, xt, xa, xr⟩ = decide (cmpC ⟨yi, yb, ys, yt, ya, yr⟩ ⟨xi, xb, xs, xt, xa, xr⟩ < 0)) := rfl
      generalize cmpC ⟨yi, yb, ys, yt, ya, yr⟩ ⟨xi, xb, xs, xt, xa, xr⟩ = nc at *
      have bh : (h : Int) < (n : Int) := by omega
      have bp : (pc : Int) < (n : Int) := by omega
      have bh' : h < n := by omega
      have bp' : pc < n := by omega
      unfold cellsC at cc
      simp only at cc
      have HCr := Lib.hid hCr
      have HTr := Lib.hid hTr
      have HG := Lib.hid hG
      have HX := Lib.hid hx
      have HY := Lib.hid hy
      clear hCr hTr hG hx hy gx gy
      go_wp2
      refine wp_region_still_tail 11 (by kernel_rfl) (by kernel_rfl) ?_
      simp only [List.take_succ_cons, List.take_zero, List.drop_succ_cons, List.drop_zero]
      refine wpStill_of_wpQuiet _ _ ?_
      repeat (first | go_big_quiet_skip | (go_big_quiet_want; go_big_quiet_op; first | go_big_quiet_on | (apply Exists.intro; refine ⟨?_, ?_⟩; (fail); go_big_quiet_on)))
      refine wpQuiet_nil ?_
      change wpList _ _ _ _ _ wr.drew
      go_wp2_with fail
      refine (cc _).mono ?_
      rintro e w5 ⟨rfl, hb5⟩
      have hb5' : Below wr.heap.size wr w5 := (Below.refl _ _).drew.trans hb5
      have hk5 : w5.heap[g]? = wr.heap[g]? := hb5'.block g hgr
      have hC5 := HCr.out.keep hk5
      have hT5 := there_keep HTr.out hk5
      have hG5 := grown_below HG.out hb5'
      clear hb5 hb5' hk5 cc p0 p1 p2 p3 p4 p5 q0 q1 q2 q3 q4 q5
      cases hlx : lessC ⟨yi, yb, ys, yt, ya, yr⟩ ⟨xi, xb, xs, xt, xa, xr⟩ with
      | true =>
        as_aux_lemma =>
          have dn : decide (nc < 0) = true := by rw [← hless.out]; exact hlx
          have HLX := Lib.hid hlx
          clear hlx
          go_wp2
          go_roundw
          case rel =>
            refine ⟨s, h, rfl, rfl, ⟨by omega, by omega, by omega, hz.out.2.2.2.1, .inr ?_⟩, hC5, hT5, hG5⟩
            intro x y h1 h2
            rw [HX.out] at h1
            rw [hin.2.2.2.2, HY.out] at h2
            obtain rfl := Option.some.inj h1
            obtain rfl := Option.some.inj h2
            exact HLX.out
          case measure => simp [intOf]; omega
      | false =>
        as_aux_lemma =>
          have dn : decide (nc < 0) = false := by rw [← hless.out]; exact hlx
          have HLX := Lib.hid hlx
          clear hlx
          go_wp2
          go_roundw
          case rel =>
            refine ⟨h + 1, r, by go_num, rfl, ⟨by omega, by omega, by omega, .inr ?_, hz.out.2.2.2.2⟩, hC5, hT5, hG5⟩
            intro x y h1 h2
            rw [Nat.add_sub_cancel, HX.out] at h1
            rw [Nat.add_sub_cancel, hin.2.2.2.2, HY.out] at h2
            obtain rfl := Option.some.inj h1
            obtain rfl := Option.some.inj h2
            exact HLX.out
          case measure => simp [intOf]; omega
    · have dlt : decide ((s : Int) < (r : Int)) = false := decide_eq_false (by omega)
      obtain rfl : s = r := by omega
      obtain ⟨en, hen⟩ : ∃ en, nn - s = en := ⟨_, rfl⟩
      have f1 : (nn : Int) - (s : Int) = (en : Int) := by omega
      have v1 : IntKind.i64.wrap (en : Int) = (en : Int) := IntWalk.i64_in _ (by omega)
      have hrn : a ≤ s ∧ s ≤ m ∧ m ≤ en ∧ en ≤ b ∧ s + en = mid + m := by omega
      have hcut := sym_cut (A := A) (B := B) (i := s - a) (k := en - m) (by omega) (by omega) SA.out SB.out
        (fun x y hp0 hy hx => by
          rcases hz.out.2.2.2.2 with h | h
          · exfalso; have := (List.getElem?_eq_some_iff.1 hx).1; omega
          · exact h x y hx (by rw [show p - s - m = en - m - 1 by omega]; exact hy))
        (fun x y hi0 hy hx => by
          rcases hz.out.2.2.2.1 with h | h
          · exfalso; have := (List.getElem?_eq_some_iff.1 hy).1; omega
          · exact h x y (by rw [show s - 1 - a = s - a - 1 by omega]; exact hx) (by rw [show p - (s - 1) - m = en - m by omega]; exact hy))
      have HRc : Hid (R = P ++ ((mergeS (A.take (s - a)) (B.take (en - m)) ++ mergeS (A.drop (s - a)) (B.drop (en - m))) ++ S)) := by rw [Hid, HR.out, hcut]
      have t1 := srt_take SA.out (s - a)
      have t2 := srt_take SB.out (en - m)
      have t3 := srt_drop SA.out (s - a)
      have t4 := srt_drop SB.out (en - m)
      have y1 : (A.take (s - a)).length = s - a := by rw [List.length_take]; omega
      have y2 : (A.drop (s - a)).length = m - s := by rw [List.length_drop]; omega
      have y3 : (B.take (en - m)).length = en - m := by rw [List.length_take]; omega
      have y4 : (B.drop (en - m)).length = b - en := by rw [List.length_drop]; omega
      have hLs : P ++ (A ++ (B ++ S)) = (P ++ A.take (s - a)) ++ (A.drop (s - a) ++ (B.take (en - m) ++ (B.drop (en - m) ++ S))) := by
        conv => lhs; rw [← List.take_append_drop (s - a) A, ← List.take_append_drop (en - m) B]
        simp only [List.append_assoc]
      rw [hLs] at hCr
      have hLn := HL.out
      rw [hLs] at hLn
      generalize A.take (s - a) = A1 at *
      generalize A.drop (s - a) = A2 at *
      generalize B.take (en - m) = B1 at *
      generalize B.drop (en - m) = B2 at *
      have hPl : (P ++ A1).length = s := by rw [List.length_append]; omega
      have HG := Lib.hid hG
      have T1 := Lib.hid t1
      have T2 := Lib.hid t2
      have T3 := Lib.hid t3
      have T4 := Lib.hid t4
      have hsz : mid - a ≤ k ∧ b - mid ≤ k := by omega
      have hmn : mid ≤ n := by omega
      clear hcut hz HR HC HT HL SA SB hG hLs t1 t2 t3 t4 hsr hri hli hlt hen hp
      have l1 := hCr
      have l2 := hTr
      have lG := HG
      clear hCr hTr HG
      obtain ⟨rot, hrot⟩ : ∃ rot : Bool, rot = decide (s < m ∧ m < en) := ⟨_, rfl⟩
      have Hrot := Lib.hid hrot
      clear hrot
      go_upto_region 39 with fail
      go_cut [185] (fun s185 wx => s185 = .bool rot ∧ wr = wx)
      case first =>
        as_aux_lemma =>
          by_cases u1 : s < m
          · have d1 : decide ((s : Int) < (m : Int)) = true := decide_eq_true (by omega)
            have d1n : decide (s < m) = true := decide_eq_true u1
            by_cases u2 : m < en
            · have d2 : decide ((m : Int) < (en : Int)) = true := decide_eq_true (by omega)
              have d2n : decide (m < en) = true := decide_eq_true u2
              have hq : Hid (rot = true) := Hrot.out.trans (decide_eq_true ⟨u1, u2⟩)
              clear u1 u2
              go_wp2
              go_meet
              exact ⟨by rw [hq.out], rfl⟩
            · have d2 : decide ((m : Int) < (en : Int)) = false := decide_eq_false (by omega)
              have d2n : decide (m < en) = false := decide_eq_false u2
              have hq : Hid (rot = false) := Hrot.out.trans (decide_eq_false (fun h => u2 h.2))
              clear u1 u2
              go_wp2
              go_meet
              exact ⟨by rw [hq.out], rfl⟩
          · have d1 : decide ((s : Int) < (m : Int)) = false := decide_eq_false (by omega)
            have d1n : decide (s < m) = false := decide_eq_false u1
            have hq : Hid (rot = false) := Hrot.out.trans (decide_eq_false (fun h => u1 h.1))
            clear u1
            go_wp2
            go_meet
            exact ⟨by rw [hq.out], rfl⟩
      case rest =>
        as_aux_lemma =>
          obtain ⟨rfl, rfl⟩ := hcut
          go_upto_if 185 with fail
          go_cut [24] (fun s24 wx => s24 = .int .i64 en ∧ CAt wx g (P ++ (A1 ++ (B1 ++ (A2 ++ (B2 ++ S))))) ∧ wx.there g 0 (n * 6) ∧ w.grownBy wx (some g))
          case first =>
            as_aux_lemma =>
              cases rot with
              | true =>
                as_aux_lemma =>
                  have hro : s < m ∧ m < en := of_decide_eq_true Hrot.out.symm
                  have ci := rotate_any (P ++ A1) A2 B1 (B2 ++ S) n g c s m en wr hLn hPl (by omega) (by omega) (by omega) (by omega) hn hc hgr l1 l2
                  clear hro l1 l2
                  go_wp2_with fail
                  refine ci.mono ?_
                  rintro e w7 ⟨rfl, k1, k2, k3⟩
                  have kG := lG.out.trans k3
                  simp only [List.append_assoc] at k1
                  clear k3 ci
                  go_wp2
                  go_meet
                  exact ⟨rfl, k1, k2, kG⟩
              | false =>
                as_aux_lemma =>
                  have hro : ¬ (s < m ∧ m < en) := of_decide_eq_false Hrot.out.symm
                  have k1 : CAt wr g (P ++ (A1 ++ (B1 ++ (A2 ++ (B2 ++ S))))) := by
                    rcases (show A2.length = 0 ∨ B1.length = 0 by omega) with h0 | h0
                    · have := List.eq_nil_of_length_eq_zero h0
                      subst this
                      simpa only [List.append_assoc, List.nil_append] using l1
                    · have := List.eq_nil_of_length_eq_zero h0
                      subst this
                      simpa only [List.append_assoc, List.nil_append] using l1
                  have kG := lG.out
                  clear hro l1
                  go_wp2
                  go_meet
                  exact ⟨rfl, k1, l2, kG⟩
          case rest =>
            as_aux_lemma =>
              obtain ⟨rfl, k1, k2, k3⟩ := hcut
              clear l1 l2 lG hgr
              obtain ⟨w7, hw7⟩ : ∃ w7, w7 = wc := ⟨_, rfl⟩
              rw [← hw7]
              rw [← hw7] at k1 k2 k3
              clear hw7
              have kG := Lib.hid k3
              clear k3
              obtain ⟨lf, hlf⟩ : ∃ lf : Bool, lf = decide (a < s ∧ s < mid) := ⟨_, rfl⟩
              have Hlf := Lib.hid hlf
              clear hlf
              go_upto_region 41 with fail
              go_cut [199] (fun s199 wx => s199 = .bool lf ∧ w7 = wx)
              case first =>
                as_aux_lemma =>
                  by_cases u1 : a < s
                  · have d1 : decide ((a : Int) < (s : Int)) = true := decide_eq_true (by omega)
                    have d1n : decide (a < s) = true := decide_eq_true u1
                    by_cases u2 : s < mid
                    · have d2 : decide ((s : Int) < (mid : Int)) = true := decide_eq_true (by omega)
                      have d2n : decide (s < mid) = true := decide_eq_true u2
                      have hq : Hid (lf = true) := Hlf.out.trans (decide_eq_true ⟨u1, u2⟩)
                      clear u1 u2
                      go_wp2
                      go_meet
                      exact ⟨by rw [hq.out], rfl⟩
                    · have d2 : decide ((s : Int) < (mid : Int)) = false := decide_eq_false (by omega)
                      have d2n : decide (s < mid) = false := decide_eq_false u2
                      have hq : Hid (lf = false) := Hlf.out.trans (decide_eq_false (fun h => u2 h.2))
                      clear u1 u2
                      go_wp2
                      go_meet
                      exact ⟨by rw [hq.out], rfl⟩
                  · have d1 : decide ((a : Int) < (s : Int)) = false := decide_eq_false (by omega)
                    have d1n : decide (a < s) = false := decide_eq_false u1
                    have hq : Hid (lf = false) := Hlf.out.trans (decide_eq_false (fun h => u1 h.1))
                    clear u1
                    go_wp2
                    go_meet
                    exact ⟨by rw [hq.out], rfl⟩
              case rest =>
                as_aux_lemma =>
                  obtain ⟨rfl, rfl⟩ := hcut
                  go_upto_if 199 with fail
                  go_cut [24] (fun s24 wx => s24 = .int .i64 en ∧ CAt wx g (P ++ (mergeS A1 B1 ++ (A2 ++ (B2 ++ S)))) ∧ wx.there g 0 (n * 6) ∧ w.grownBy wx (some g))
                  case first =>
                    as_aux_lemma =>
                      cases lf with
                      | true =>
                        as_aux_lemma =>
                          have hl : a < s ∧ s < mid := of_decide_eq_true Hlf.out.symm
                          have ci := IH P A1 B1 (A2 ++ (B2 ++ S)) n g c a s mid w7 (by omega) (by simp only [List.length_append] at hLn ⊢; omega) ha (by omega) (by omega) (by omega) (by omega) T1.out T2.out hn hc (Nat.lt_of_lt_of_le hg kG.out.size) k1 k2
                          clear hl k1 k2
                          go_wp2_with fail
                          refine ci.mono ?_
                          rintro e w8 ⟨rfl, j1, j2, j3⟩
                          have jG := kG.out.trans j3
                          clear j3 ci
                          go_wp2
                          go_meet
                          exact ⟨rfl, j1, j2, jG⟩
                      | false =>
                        as_aux_lemma =>
                          have hl : ¬ (a < s ∧ s < mid) := of_decide_eq_false Hlf.out.symm
                          have j1 : CAt w7 g (P ++ (mergeS A1 B1 ++ (A2 ++ (B2 ++ S)))) := by
                            rcases (show A1.length = 0 ∨ B1.length = 0 by omega) with h0 | h0
                            · have := List.eq_nil_of_length_eq_zero h0
                              subst this
                              rw [merge_nil]
                              simpa only [List.append_assoc, List.nil_append] using k1
                            · have := List.eq_nil_of_length_eq_zero h0
                              subst this
                              rw [merge_nil']
                              simpa only [List.append_assoc, List.nil_append] using k1
                          have jG := kG.out
                          clear hl k1
                          go_wp2
                          go_meet
                          exact ⟨rfl, j1, k2, jG⟩
                  case rest =>
                    as_aux_lemma =>
                      obtain ⟨rfl, j1, j2, j3⟩ := hcut
                      clear k1 k2 kG
                      obtain ⟨w8, hw8⟩ : ∃ w8, w8 = wc := ⟨_, rfl⟩
                      rw [← hw8]
                      rw [← hw8] at j1 j2 j3
                      clear hw8
                      have jG := Lib.hid j3
                      clear j3
                      obtain ⟨rt, hrt⟩ : ∃ rt : Bool, rt = decide (mid < en ∧ en < b) := ⟨_, rfl⟩
                      have Hrt := Lib.hid hrt
                      clear hrt
                      go_upto_region 43 with fail
                      go_cut [213] (fun s213 wx => s213 = .bool rt ∧ w8 = wx)
                      case first =>
                        as_aux_lemma =>
                          by_cases u1 : mid < en
                          · have d1 : decide ((mid : Int) < (en : Int)) = true := decide_eq_true (by omega)
                            have d1n : decide (mid < en) = true := decide_eq_true u1
                            by_cases u2 : en < b
                            · have d2 : decide ((en : Int) < (b : Int)) = true := decide_eq_true (by omega)
                              have d2n : decide (en < b) = true := decide_eq_true u2
                              have hq : Hid (rt = true) := Hrt.out.trans (decide_eq_true ⟨u1, u2⟩)
                              clear u1 u2
                              go_wp2
                              go_meet
                              exact ⟨by rw [hq.out], rfl⟩
                            · have d2 : decide ((en : Int) < (b : Int)) = false := decide_eq_false (by omega)
                              have d2n : decide (en < b) = false := decide_eq_false u2
                              have hq : Hid (rt = false) := Hrt.out.trans (decide_eq_false (fun h => u2 h.2))
                              clear u1 u2
                              go_wp2
                              go_meet
                              exact ⟨by rw [hq.out], rfl⟩
                          · have d1 : decide ((mid : Int) < (en : Int)) = false := decide_eq_false (by omega)
                            have d1n : decide (mid < en) = false := decide_eq_false u1
                            have hq : Hid (rt = false) := Hrt.out.trans (decide_eq_false (fun h => u1 h.1))
                            clear u1
                            go_wp2
                            go_meet
                            exact ⟨by rw [hq.out], rfl⟩
                      case rest =>
                        as_aux_lemma =>
                          obtain ⟨rfl, rfl⟩ := hcut
                          cases rt with
                          | true =>
                            as_aux_lemma =>
                              have hr : mid < en ∧ en < b := of_decide_eq_true Hrt.out.symm
                              have hPm : (P ++ mergeS A1 B1).length = mid := by rw [List.length_append, merge_len]; omega
                              have ci := IH (P ++ mergeS A1 B1) A2 B2 S n g c mid en b w8 (by omega) (by simp only [List.length_append, merge_len] at hLn ⊢; omega) hPm (by omega) (by omega) (by omega) (by omega) T3.out T4.out hn hc (Nat.lt_of_lt_of_le hg jG.out.size) (by simpa only [List.append_assoc] using j1) j2
                              have hfin : Hid ((P ++ mergeS A1 B1) ++ (mergeS A2 B2 ++ S) = R) := by rw [Hid, HRc.out]; simp only [List.append_assoc]
                              clear hr j1 j2 hPm
                              go_wp2_with fail
                              refine ci.mono ?_
                              rintro e w9 ⟨rfl, i1, i2, i3⟩
                              have iG := jG.out.trans i3
                              go_wp2
                              go_end0
                              exact ⟨rfl, by rw [← hfin.out]; exact i1, i2, iG⟩
                          | false =>
                            as_aux_lemma =>
                              have hr : ¬ (mid < en ∧ en < b) := of_decide_eq_false Hrt.out.symm
                              have hfin : CAt w8 g R := by
                                rw [HRc.out]
                                rcases (show A2.length = 0 ∨ B2.length = 0 by omega) with h0 | h0
                                · have := List.eq_nil_of_length_eq_zero h0
                                  subst this
                                  rw [merge_nil]
                                  simpa only [List.append_assoc, List.nil_append] using j1
                                · have := List.eq_nil_of_length_eq_zero h0
                                  subst this
                                  rw [merge_nil']
                                  simpa only [List.append_assoc, List.nil_append] using j1
                              have iG := jG.out
                              clear hr j1
                              go_wp2
                              go_end0
                              exact ⟨rfl, hfin, j2, iG⟩
end Go.Proofs.YtjcaaiikccnpeaaDoor
