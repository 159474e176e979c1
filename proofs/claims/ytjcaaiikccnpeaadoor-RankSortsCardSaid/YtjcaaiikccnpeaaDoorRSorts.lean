/- RankSorts, walked: it answers true. -/
import Derived.Test.YtjcaaiikccnpeaaDoorSteady
import Derived.Test.YtjcaaiikccnpeaaDoorSortE
import Derived.Test.YtjcaaiikccnpeaaDoorSortPure
import Derived.Test.YtjcaaiikccnpeaaDoorSmallR
namespace Go.Proofs.YtjcaaiikccnpeaaDoor
open Go.ChangeShapes Go.WideShapes Go.ChangeAt Go.RowKit Go.Lib
set_option linter.unusedVariables false

def SQ (W : World) (X : List Card) (n : Nat) (e : Ending) (w' : World) : Prop := ∃ b o C, e = .returned (.slice (some ⟨b, o, none⟩) n C) ∧ CRow w' (some ⟨b, o, none⟩) X ∧ Below W.heap.size W w'
theorem sort_q {L : List Card} {n b o C : Nat} {W : World} (hn : L.length = n) (h0 : 0 < n) (h1 : n ≤ 1000) (h : CRow W (some ⟨b, o, none⟩) L) : Calls Tryd.prog 21 #[.slice (some ⟨b, o, none⟩) n C] W (SQ W (sortS L) n) := by
  have := sort_some L b o C W (by omega) h
  rw [hn] at this
  refine this.mono fun e w' ⟨A, C', he, hr, hb⟩ => ?_
  have hl : (sortS L).length = n := by rw [sortS_length, hn]
  obtain ⟨b', o', rfl, _⟩ := hr (by omega)
  rw [hl] at he
  exact ⟨b', o', C', he, hr, hb⟩
def backR (w wr : World) (v : Value) (a : List Card) : Prop := wr.ownsRow w.heap.size 38 6 v a.length (cardCells a) ∧ Below w.heap.size w wr
theorem back_app {w wr w' : World} {va v' : Value} {a : List Card} {y : Card} {X : Obj} (h : backR w wr va a) (h1 : w'.ownsRow w.heap.size 38 6 v' (a.length + 1) (cardCells a ++ (cellsC y).toList)) (hg : (wr.alloc X).grownBy w' va.ownBlock) : backR w w' v' (a ++ [y]) := by
  obtain ⟨g1, g5⟩ := h
  have gA : Below wr.heap.size wr (wr.alloc X) := (Below.refl _ _).alloc (Nat.le_refl _) _
  refine ⟨?_, ?_⟩
  · rw [List.length_append, cardCells_snoc]; exact h1
  · refine (g5.trans (gA.mono g5.size)).grown hg (by have := g5.size; simp; omega) (fun k hk => ?_)
    exact (own_lt g1 hk).2
theorem crow_cat {w : World} {A : Option Addr} {l : List Card} (h : CIn w A l) (h0 : 0 < l.length) : ∃ b o, A = some ⟨b, o, none⟩ ∧ CRow w (some ⟨b, o, none⟩) l := by
  rcases h with ⟨_, rfl⟩ | ⟨b, o, rfl, h⟩
  · simp at h0
  · exact ⟨b, o, rfl, h⟩
set_option maxRecDepth 100000 in
set_option maxHeartbeats 60000000 in
theorem sorts_main (l : List Card) (b o C : Nat) (w : World) (h0 : 0 < l.length) (h40 : l.length ≤ 40) (hl : CRow w (some ⟨b, o, none⟩) l) (hL : LaidA w) :
    Calls Tryd.prog 6 #[.slice (some ⟨b, o, none⟩) l.length C] w (BoolPost w true) := by
  obtain ⟨n, hn0⟩ : ∃ n, l.length = n := ⟨_, rfl⟩
  obtain ⟨X, hX⟩ : ∃ X, sortS l = X := ⟨_, rfl⟩
  obtain ⟨Y, hY⟩ : ∃ Y, sortS l.reverse = Y := ⟨_, rfl⟩
  have HXl : Hid (X.length = n) := by rw [Hid, ← hX, sortS_length, hn0]
  have HYl : Hid (Y.length = n) := by rw [Hid, ← hY, sortS_length, List.length_reverse, hn0]
  have hAg : sortS X = X := by rw [← hX]; exact sort_again l
  have HD : Hid (Dif l → Y = X) := fun h => by rw [← hX, ← hY]; exact dif_back h
  have HDL : Hid (Dif l → ∀ (i : Nat) (x y : Card), X[i]? = some x → X[i + 1]? = some y → lessC x y = true) := fun h i x y => by rw [← hX]; exact dif_less h
  have HS : Hid (Srt X) := by rw [Hid, ← hX]; exact (sort_SS l).1
  have hSS : SS l X := by rw [← hX]; exact sort_SS l
  have cs := fun W hW => small_any W hW
  have cS1 : ∀ W, CRow W (some ⟨b, o, none⟩) l → Calls Tryd.prog 21 #[.slice (some ⟨b, o, none⟩) n C] W (SQ W X n) := fun W h => by rw [← hX]; exact sort_q hn0 (by omega) (by omega) h
  have cS2 : ∀ b o C W, CRow W (some ⟨b, o, none⟩) l.reverse → Calls Tryd.prog 21 #[.slice (some ⟨b, o, none⟩) n C] W (SQ W Y n) := fun b o C W h => by rw [← hY]; exact sort_q (by rw [List.length_reverse, hn0]) (by omega) (by omega) h
  have cS3 : ∀ b o C W, CRow W (some ⟨b, o, none⟩) X → Calls Tryd.prog 21 #[.slice (some ⟨b, o, none⟩) n C] W (SQ W X n) := fun b o C W h => by
    have := sort_q (C := C) HXl.out (by omega) (by omega) h
    rw [hAg] at this
    exact this
  have cd : ∀ W, CRow W (some ⟨b, o, none⟩) l → Calls Tryd.prog 23 #[.slice (some ⟨b, o, none⟩) n C] W (DifP W l) := fun W h => by have := differ_some l b o C W (by omega) h; rw [hn0] at this; exact this
  have cc1 : ∀ c W, CRow W (some ⟨b, o, none⟩) l → Calls Tryd.prog 24 #[.slice (some ⟨b, o, none⟩) n C, .agg (cellsC c)] W (IntPost W (cnt c l : Nat)) := fun c W h => by have := count_some l c b o C W (by omega) h; rw [hn0] at this; exact this
  have cc2 : ∀ c b o C W, CRow W (some ⟨b, o, none⟩) X → Calls Tryd.prog 24 #[.slice (some ⟨b, o, none⟩) n C, .agg (cellsC c)] W (IntPost W (cnt c l : Nat)) := fun c b o C W h => by
    have := count_some X c b o C W (by have := HXl.out; omega) h
    rw [HXl.out, hSS.cnt] at this
    exact this
  have cst : ∀ b4 o4 C4 W, CRow W (some ⟨b, o, none⟩) l → CRow W (some ⟨b4, o4, none⟩) X → Calls Tryd.prog 25 #[.slice (some ⟨b, o, none⟩) n C, .slice (some ⟨b4, o4, none⟩) n C4] W (BoolPost W true) := fun b4 o4 C4 W h1 h2 => by
    have := steady_some l X b o C b4 o4 C4 W (by rw [HXl.out, hn0]) hSS.2 (by omega) h1 h2
    rw [hn0] at this
    exact this
  rw [hn0] at h0 h40 ⊢
  have HN := Lib.hid hn0
  clear hX hY hAg hSS hn0
  have d40 : decide (40 < (n : Int)) = false := decide_eq_false (by omega)
  have d40N : decide (40 < n) = false := decide_eq_false (by omega)
  obtain ⟨M, hM⟩ : ∃ M, M + 1 = n := ⟨n - 1, by omega⟩
  have wM : IntKind.i64.wrap ((n : Int) - 1) = (M : Int) := by rw [IntWalk.i64_in _ (by omega)]; omega
  have HM := Lib.hid hM
  clear hM
  go_enter Tryd.func6, Tryd.ntmps6
  go_wp2_with fail
  refine (cs _ hL).mono ?_
  rintro e w1 ⟨rfl, hb1⟩
  have hl1 := hl.below hb1
  clear cs
  go_wp2_with fail
  refine (cS1 _ hl1).mono ?_
  rintro e w2 ⟨b4, o4, C4, rfl, hx, hb2⟩
  clear cS1 hL
  have hB2 := Lib.hid (hb1.trans (hb2.mono hb1.size))
  have hl2 := Lib.hid (hl1.below hb2)
  have hx2 := Lib.hid hx
  clear hl hl1 hb1 hb2 hx
  go_wp2
  go_loopw [5, 6] (fun v5 v6 wr => (∃ m : Nat, v6 = .int .i64 m ∧ m < n ∧ Hid (backR w2 wr v5 (backL l (m + 1)))) ∨ (v6 = .int .i64 (-1) ∧ Hid (backR w2 wr v5 (backL l 0)))) (fun _ v _ => (intOf v + 1).toNat)
  case atStart => exact .inl ⟨M, rfl, by have := HM.out; omega, by
    rw [Hid, backL_end (by have := HN.out; have := HM.out; omega)]
    exact ⟨⟨by simp [cardCells], .inl ⟨rfl, rfl⟩⟩, Below.refl _ _⟩⟩
  case round =>
    rcases hrel with ⟨m, rfl, hm, hz⟩ | ⟨rfl, hz⟩
    · skip
      have dm : decide ((0 : Int) ≤ (m : Int)) = true := decide_eq_true (by omega)
      have bm : (m : Int) < (n : Int) := by omega
      have bm0 : (0 : Int) ≤ (m : Int) := by omega
      obtain ⟨⟨yi, yb, ys, yt, ya, yr⟩, hym⟩ : ∃ c, l[m]? = some c := ⟨_, List.getElem?_eq_getElem (by have := HN.out; omega)⟩
      have hstep := backL_step hym
      obtain ⟨i0, hi0, hz0, hz1, hz2'⟩ := info_parts infoCard2
      have hz3 := hz.out
      obtain ⟨va, vc, hva⟩ := own_form hz3.1
      rw [hva] at hz3
      subst hva
      have hlen : (backL l (m + 1)).length ≤ 1000 := by rw [backL_len]; have := HN.out; omega
      obtain ⟨p0, p1, p2, p3, p4, p5⟩ := (hl2.out.below hz3.2).cells hym
      have hown := Lib.hid (own_below hz3.1 ((Below.refl _ _).alloc (Nat.le_refl _) (.cells (cellsC ⟨yi, yb, ys, yt, ya, yr⟩) 38)))
      have hbs := Lib.hid hz3.2.size
      have GZ3 := Lib.hid hz3
      have HST := Lib.hid hstep
      clear hz hz3 hstep hym hl2 hx2 hB2 cS2 cS3 cd cc1 cc2 cst HD HDL HS HXl HYl
      have hnc := Lib.hid (fun W => new_cells W ⟨yi, yb, ys, yt, ya, yr⟩)
      have hco := Lib.hid (cells_one ⟨yi, yb, ys, yt, ya, yr⟩)
      unfold cellsC at hown hnc hco
      simp only at hown hnc hco
      obtain ⟨q, hq, hwq⟩ : ∃ q : Int, IntKind.i64.wrap ((m : Int) - 1) = q ∧ q = (m : Int) - 1 := ⟨_, rfl, by rw [IntWalk.i64_in _ (by omega)]⟩
      have HQ := Lib.hid hwq
      clear hwq
      go_wp2_with (at_builtin; refine wpList_append_own_at _ rfl _ _ 35 rfl w2.heap.size 38 i0 (.agg (cellsC noC)) 6 72 Tryd.underlying35 hi0 hz0 hz1 hz2' rfl (by decide) _ _ _ rfl hown.out ⟨_, 0, none⟩ 1 1 _ rfl rfl (hnc.out _) hco.out ?c3 ?c4 ?c5 ?_)
      case c3 => unfold maxLen; omega
      case c4 => omega
      case c5 => have := hbs.out; simp; omega
      intro v' w' hown' hgr' hne' hat'
      have hz4 := back_app (y := ⟨yi, yb, ys, yt, ya, yr⟩) (X := .cells (cellsC ⟨yi, yb, ys, yt, ya, yr⟩) 38) GZ3.out hown' hgr'
      rw [← HST.out] at hz4
      have HZ4 := Lib.hid hz4
      clear hz4 hown' hgr' hne' hat' GZ3 hown HST
      go_wp2
      go_roundw
      case rel =>
        have hq2 := HQ.out
        by_cases e : m = 0
        · right
          subst e
          exact ⟨by rw [hq2]; rfl, HZ4⟩
        · left
          exact ⟨m - 1, by rw [hq2, show (m : Int) - 1 = ((m - 1 : Nat) : Int) by omega], by omega, by rw [show m - 1 + 1 = m by omega]; exact HZ4⟩
      case measure => have := HQ.out; simp [intOf]; omega
    · as_aux_lemma =>
      have hz3 := hz.out
      rw [backL_all] at hz3
      have hrl : l.reverse.length = n := by rw [List.length_reverse]; exact HN.out
      obtain ⟨A5, c5, rfl, hin⟩ := cin_own hrl hz3.1
      obtain ⟨b5, o5, rfl, hr5⟩ := crow_cat hin (by omega)
      have hb3 := hz3.2
      have hl3 := hl2.out.below hb3
      have hx3 := hx2.out.below hb3
      have hB3 := Lib.hid (hB2.out.trans (hb3.mono hB2.out.size))
      clear hz hz3 hrl hin hl2 hx2 hb3 hB2
      go_wp2_with fail
      refine (cS2 b5 o5 c5 _ hr5).mono ?_
      rintro e w3 ⟨b7, o7, C7, rfl, hy4, hb4⟩
      have hl4 := hl3.below hb4
      have hx4 := hx3.below hb4
      have hB4 := Lib.hid (hB3.out.trans (hb4.mono hB3.out.size))
      clear hl3 hx3 hB3 hb4 cS2 hr5
      go_wp2_with fail
      refine (cS3 b4 o4 C4 _ hx4).mono ?_
      rintro e w4 ⟨b8, o8, C8, rfl, hz5, hb5⟩
      have hl5 := hl4.below hb5
      have hx5 := hx4.below hb5
      have hy5 := hy4.below hb5
      have hB5 := Lib.hid (hB4.out.trans (hb5.mono hB4.out.size))
      clear hl4 hx4 hy4 hB4 hb5 cS3
      go_wp2_with fail
      refine (cd _ hl5).mono ?_
      rintro e w5 ⟨ap, rfl, hap, hb6⟩
      have RL := Lib.hid (hl5.below hb6)
      have RX := Lib.hid (hx5.below hb6)
      have RY := Lib.hid (hy5.below hb6)
      have RZ := Lib.hid (hz5.below hb6)
      have hB6 := Lib.hid (hB5.out.trans (hb6.mono hB5.out.size))
      have HAP := Lib.hid hap
      clear hl5 hx5 hy5 hz5 hB5 hb6 cd hap
      obtain ⟨wo, rfl⟩ : ∃ wo : World, wo = w5 := ⟨_, rfl⟩
      go_wp2
      go_loopw [10] (fun v10 wr => ∃ i : Nat, v10 = .int .i64 i ∧ i ≤ n ∧ Below wo.heap.size wo wr) (fun v _ => n - (intOf v).toNat)
      case atStart => exact ⟨0, rfl, Nat.zero_le _, Below.refl _ _⟩
      case round =>
        obtain ⟨i, rfl, hi, hb⟩ := hrel
        by_cases hlt : i < n
        · as_aux_lemma =>
          have dlt : decide ((i : Int) < (n : Int)) = true := decide_eq_true (by omega)
          have dltN : decide (i < n) = true := decide_eq_true hlt
          have bi : (i : Int) < (n : Int) := by omega
          have wi : IntKind.i64.wrap ((i : Int) + 1) = (i : Int) + 1 := IntWalk.i64_in _ (by omega)
          obtain ⟨CCc, hci⟩ : ∃ c : Card, l[i]? = some c := ⟨_, List.getElem?_eq_getElem (by have := HN.out; omega)⟩
          obtain ⟨CCx, hxi⟩ : ∃ c : Card, X[i]? = some c := ⟨_, List.getElem?_eq_getElem (by have := HXl.out; omega)⟩
          obtain ⟨qn, hqn⟩ : ∃ q : Nat, cnt CCc l = q := ⟨_, rfl⟩
          have hcL := cc1 CCc
          have hcX := cc2 CCc b4 o4 C4
          rw [hqn] at hcL hcX
          obtain ⟨ci, cb, cs, ct, ca, cr⟩ := CCc
          obtain ⟨xi, xb, xs, xt, xa, xr⟩ := CCx
          unfold cellsC at hcL hcX
          simp only at hcL hcX
          have hne : ∀ W, (binOp .neq 38 (.agg #[.string (bs xi), .string (bs xb), .int .i64 xs, .int .i64 xt, .int .i64 xa, .string (bs xr)]) (.agg #[.string (bs xi), .string (bs xb), .int .i64 xs, .int .i64 xt, .int .i64 xa, .string (bs xr)])).run Tryd.prog W = .ok (.bool false) W := fun W => by
            have := neq_cards ⟨xi, xb, xs, xt, xa, xr⟩ ⟨xi, xb, xs, xt, xa, xr⟩ W
            rw [decide_eq_true rfl] at this
            exact this
          have HBR := Lib.hid hb
          have HC := Lib.hid hci
          have HXi := Lib.hid hxi
          have cX : ∀ W, Below wr.heap.size wr W → Calls Tryd.prog 24 #[.slice (some ⟨b4, o4, none⟩) n C4, .agg #[.string (bs ci), .string (bs cb), .int .i64 cs, .int .i64 ct, .int .i64 ca, .string (bs cr)]] W (IntPost W qn) := fun W hW => hcX W (RX.out.below (HBR.out.trans (hW.mono HBR.out.size)))
          have cL : ∀ W, Below wr.heap.size wr W → Calls Tryd.prog 24 #[.slice (some ⟨b, o, none⟩) n C, .agg #[.string (bs ci), .string (bs cb), .int .i64 cs, .int .i64 ct, .int .i64 ca, .string (bs cr)]] W (IntPost W qn) := fun W hW => hcL W (RL.out.below (HBR.out.trans (hW.mono HBR.out.size)))
          clear hqn hcL hcX cc1 cc2 hb hci hxi
          go_upto_region 20 with fail
          go_cut [131] (fun s131 wx => s131 = .bool false ∧ Below wr.heap.size wr wx)
          case first =>
            as_aux_lemma =>
              clear cst
              by_cases hi0 : i = 0
              · have di : decide ((0 : Int) < (i : Int)) = false := decide_eq_false (by omega)
                have diN : decide (0 < i) = false := decide_eq_false (by omega)
                clear HDL HS hi0
                cases ap with
                | true =>
                  have HYi : Hid (Y[i]? = some ⟨xi, xb, xs, xt, xa, xr⟩) := by rw [Hid, HD.out (HAP.out rfl)]; exact HXi.out
                  clear HD HAP HN HM HXl HYl hB6
                  as_aux_lemma =>
                    have FF : Hid (∀ W, Below wr.heap.size wr W → (W.cell? ⟨b, o + i * 6, none⟩ = some (.string (bs ci)) ∧ W.cell? ⟨b, o + i * 6 + 1, none⟩ = some (.string (bs cb)) ∧ W.cell? ⟨b, o + i * 6 + 2, none⟩ = some (.int .i64 cs) ∧ W.cell? ⟨b, o + i * 6 + 3, none⟩ = some (.int .i64 ct) ∧ W.cell? ⟨b, o + i * 6 + 4, none⟩ = some (.int .i64 ca) ∧ W.cell? ⟨b, o + i * 6 + 5, none⟩ = some (.string (bs cr))) ∧ (W.cell? ⟨b4, o4 + i * 6, none⟩ = some (.string (bs xi)) ∧ W.cell? ⟨b4, o4 + i * 6 + 1, none⟩ = some (.string (bs xb)) ∧ W.cell? ⟨b4, o4 + i * 6 + 2, none⟩ = some (.int .i64 xs) ∧ W.cell? ⟨b4, o4 + i * 6 + 3, none⟩ = some (.int .i64 xt) ∧ W.cell? ⟨b4, o4 + i * 6 + 4, none⟩ = some (.int .i64 xa) ∧ W.cell? ⟨b4, o4 + i * 6 + 5, none⟩ = some (.string (bs xr))) ∧ (W.cell? ⟨b8, o8 + i * 6, none⟩ = some (.string (bs xi)) ∧ W.cell? ⟨b8, o8 + i * 6 + 1, none⟩ = some (.string (bs xb)) ∧ W.cell? ⟨b8, o8 + i * 6 + 2, none⟩ = some (.int .i64 xs) ∧ W.cell? ⟨b8, o8 + i * 6 + 3, none⟩ = some (.int .i64 xt) ∧ W.cell? ⟨b8, o8 + i * 6 + 4, none⟩ = some (.int .i64 xa) ∧ W.cell? ⟨b8, o8 + i * 6 + 5, none⟩ = some (.string (bs xr))) ∧ (W.cell? ⟨b7, o7 + i * 6, none⟩ = some (.string (bs xi)) ∧ W.cell? ⟨b7, o7 + i * 6 + 1, none⟩ = some (.string (bs xb)) ∧ W.cell? ⟨b7, o7 + i * 6 + 2, none⟩ = some (.int .i64 xs) ∧ W.cell? ⟨b7, o7 + i * 6 + 3, none⟩ = some (.int .i64 xt) ∧ W.cell? ⟨b7, o7 + i * 6 + 4, none⟩ = some (.int .i64 xa) ∧ W.cell? ⟨b7, o7 + i * 6 + 5, none⟩ = some (.string (bs xr)))) := fun W hW => by
                      have hbw := HBR.out.trans (hW.mono HBR.out.size)
                      exact ⟨(RL.out.below hbw).cells HC.out, (RX.out.below hbw).cells HXi.out, (RZ.out.below hbw).cells HXi.out, (RY.out.below hbw).cells HYi.out⟩
                    have gx := FF.out _ (Below.refl _ _).drew
                    clear HC HXi RL RX RY RZ HBR HYi
                    refine wp_region_held_drew (S := (fun W => Below wr.heap.size wr W ∧ (W.cell? ⟨b, o + i * 6, none⟩ = some (.string (bs ci)) ∧ W.cell? ⟨b, o + i * 6 + 1, none⟩ = some (.string (bs cb)) ∧ W.cell? ⟨b, o + i * 6 + 2, none⟩ = some (.int .i64 cs) ∧ W.cell? ⟨b, o + i * 6 + 3, none⟩ = some (.int .i64 ct) ∧ W.cell? ⟨b, o + i * 6 + 4, none⟩ = some (.int .i64 ca) ∧ W.cell? ⟨b, o + i * 6 + 5, none⟩ = some (.string (bs cr))) ∧ (W.cell? ⟨b4, o4 + i * 6, none⟩ = some (.string (bs xi)) ∧ W.cell? ⟨b4, o4 + i * 6 + 1, none⟩ = some (.string (bs xb)) ∧ W.cell? ⟨b4, o4 + i * 6 + 2, none⟩ = some (.int .i64 xs) ∧ W.cell? ⟨b4, o4 + i * 6 + 3, none⟩ = some (.int .i64 xt) ∧ W.cell? ⟨b4, o4 + i * 6 + 4, none⟩ = some (.int .i64 xa) ∧ W.cell? ⟨b4, o4 + i * 6 + 5, none⟩ = some (.string (bs xr))) ∧ (W.cell? ⟨b8, o8 + i * 6, none⟩ = some (.string (bs xi)) ∧ W.cell? ⟨b8, o8 + i * 6 + 1, none⟩ = some (.string (bs xb)) ∧ W.cell? ⟨b8, o8 + i * 6 + 2, none⟩ = some (.int .i64 xs) ∧ W.cell? ⟨b8, o8 + i * 6 + 3, none⟩ = some (.int .i64 xt) ∧ W.cell? ⟨b8, o8 + i * 6 + 4, none⟩ = some (.int .i64 xa) ∧ W.cell? ⟨b8, o8 + i * 6 + 5, none⟩ = some (.string (bs xr))) ∧ (W.cell? ⟨b7, o7 + i * 6, none⟩ = some (.string (bs xi)) ∧ W.cell? ⟨b7, o7 + i * 6 + 1, none⟩ = some (.string (bs xb)) ∧ W.cell? ⟨b7, o7 + i * 6 + 2, none⟩ = some (.int .i64 xs) ∧ W.cell? ⟨b7, o7 + i * 6 + 3, none⟩ = some (.int .i64 xt) ∧ W.cell? ⟨b7, o7 + i * 6 + 4, none⟩ = some (.int .i64 xa) ∧ W.cell? ⟨b7, o7 + i * 6 + 5, none⟩ = some (.string (bs xr))))) (by kernel_rfl) (⟨(Below.refl _ _).drew, FF.out _ (Below.refl _ _).drew⟩) (fun hHeld => ?_)
                    refine wpAnyH_take (i := 0) (oi := { dst := some 61, op := Go.Op.move (Go.Operand.tmp 4), type := 35, pos := "law.go:125", after := #[], guard := none }) (v := ?va100) rfl (by kernel_rfl) (by kernel_rfl) (by kernel_rfl) (fun _ _ _ h => h) (Or.inl ⟨by rfl, ?ya100⟩) (by assumption) ?_
                    case ya100 => (intro wX hSw; (try dsimp only at hSw); go_simp <;> with_reducible rfl)
                    try simp only [Act.put, List.setIfInBounds_toArray, List.set_cons_zero, List.set_cons_succ]
                    refine wpAnyH_take (i := 1) (oi := { dst := some 62, op := Go.Op.move (Go.Operand.tmp 0), type := 35, pos := "law.go:125", after := #[], guard := none }) (v := ?va101) rfl (by kernel_rfl) (by kernel_rfl) (by kernel_rfl) (fun _ _ _ h => h) (Or.inl ⟨by rfl, ?ya101⟩) (by assumption) ?_
                    case ya101 => (intro wX hSw; (try dsimp only at hSw); go_simp <;> with_reducible rfl)
                    try simp only [Act.put, List.setIfInBounds_toArray, List.set_cons_zero, List.set_cons_succ]
                    refine wpAnyH_take (i := 2) (oi := { dst := some 63, op := Go.Op.move (Go.Operand.tmp 10), type := 3, pos := "law.go:125", after := #[], guard := none }) (v := ?va102) rfl (by kernel_rfl) (by kernel_rfl) (by kernel_rfl) (fun _ _ _ h => h) (Or.inl ⟨by rfl, ?ya102⟩) (by assumption) ?_
                    case ya102 => (intro wX hSw; (try dsimp only at hSw); go_simp <;> with_reducible rfl)
                    try simp only [Act.put, List.setIfInBounds_toArray, List.set_cons_zero, List.set_cons_succ]
                    refine wpAnyH_take (i := 3) (oi := { dst := some 64, op := Go.Op.indexAddr 35 (Go.Operand.tmp 62) (Go.Operand.tmp 63), type := 0, pos := "law.go:125", after := #[{ on := 1, ground := Go.Ground.data }, { on := 2, ground := Go.Ground.data }], guard := none }) (v := ?va103) rfl (by kernel_rfl) (by kernel_rfl) (by kernel_rfl) (fun _ _ _ h => h) (Or.inl ⟨by rfl, ?ya103⟩) (by assumption) ?_
                    case ya103 => (intro wX hSw; (try dsimp only at hSw); go_simp <;> with_reducible rfl)
                    try simp only [Act.put, List.setIfInBounds_toArray, List.set_cons_zero, List.set_cons_succ]
                    refine wpAnyH_take (i := 4) (oi := { dst := some 65, op := Go.Op.load 38 (Go.Operand.tmp 64), type := 38, pos := "law.go:125", after := #[{ on := 3, ground := Go.Ground.data }], guard := none }) (v := ?va104) rfl (by kernel_rfl) (by kernel_rfl) (by kernel_rfl) (fun _ _ _ h => h) (Or.inl ⟨by rfl, ?ya104⟩) (by assumption) ?_
                    case ya104 => (intro wX hSw; (try dsimp only at hSw); go_simp <;> with_reducible rfl)
                    try simp only [Act.put, List.setIfInBounds_toArray, List.set_cons_zero, List.set_cons_succ]
                    refine wpAnyH_take (i := 6) (oi := { dst := some 67, op := Go.Op.move (Go.Operand.tmp 0), type := 35, pos := "law.go:125", after := #[], guard := none }) (v := ?va106) rfl (by kernel_rfl) (by kernel_rfl) (by kernel_rfl) (fun _ _ _ h => h) (Or.inl ⟨by rfl, ?ya106⟩) (by assumption) ?_
                    case ya106 => (intro wX hSw; (try dsimp only at hSw); go_simp <;> with_reducible rfl)
                    try simp only [Act.put, List.setIfInBounds_toArray, List.set_cons_zero, List.set_cons_succ]
                    refine wpAnyH_take (i := 7) (oi := { dst := some 68, op := Go.Op.move (Go.Operand.tmp 0), type := 35, pos := "law.go:125", after := #[], guard := none }) (v := ?va107) rfl (by kernel_rfl) (by kernel_rfl) (by kernel_rfl) (fun _ _ _ h => h) (Or.inl ⟨by rfl, ?ya107⟩) (by assumption) ?_
                    case ya107 => (intro wX hSw; (try dsimp only at hSw); go_simp <;> with_reducible rfl)
                    try simp only [Act.put, List.setIfInBounds_toArray, List.set_cons_zero, List.set_cons_succ]
                    refine wpAnyH_take (i := 8) (oi := { dst := some 69, op := Go.Op.move (Go.Operand.tmp 10), type := 3, pos := "law.go:125", after := #[], guard := none }) (v := ?va108) rfl (by kernel_rfl) (by kernel_rfl) (by kernel_rfl) (fun _ _ _ h => h) (Or.inl ⟨by rfl, ?ya108⟩) (by assumption) ?_
                    case ya108 => (intro wX hSw; (try dsimp only at hSw); go_simp <;> with_reducible rfl)
                    try simp only [Act.put, List.setIfInBounds_toArray, List.set_cons_zero, List.set_cons_succ]
                    refine wpAnyH_take (i := 9) (oi := { dst := some 70, op := Go.Op.indexAddr 35 (Go.Operand.tmp 68) (Go.Operand.tmp 69), type := 0, pos := "law.go:125", after := #[{ on := 7, ground := Go.Ground.data }, { on := 8, ground := Go.Ground.data }], guard := none }) (v := ?va109) rfl (by kernel_rfl) (by kernel_rfl) (by kernel_rfl) (fun _ _ _ h => h) (Or.inl ⟨by rfl, ?ya109⟩) (by assumption) ?_
                    case ya109 => (intro wX hSw; (try dsimp only at hSw); go_simp <;> with_reducible rfl)
                    try simp only [Act.put, List.setIfInBounds_toArray, List.set_cons_zero, List.set_cons_succ]
                    refine wpAnyH_take (i := 10) (oi := { dst := some 71, op := Go.Op.load 38 (Go.Operand.tmp 70), type := 38, pos := "law.go:125", after := #[{ on := 9, ground := Go.Ground.data }], guard := none }) (v := ?va1010) rfl (by kernel_rfl) (by kernel_rfl) (by kernel_rfl) (fun _ _ _ h => h) (Or.inl ⟨by rfl, ?ya1010⟩) (by assumption) ?_
                    case ya1010 => (intro wX hSw; (try dsimp only at hSw); go_simp <;> with_reducible rfl)
                    try simp only [Act.put, List.setIfInBounds_toArray, List.set_cons_zero, List.set_cons_succ]
                    refine wpAnyH_ready (rs := [5]) (by kernel_rfl) (by simp) (AllReadyH.cons (o := { dst := some 66, op := Go.Op.call { callee := Go.Callee.value (Go.Operand.func 24), args := #[Go.Operand.tmp 61, Go.Operand.tmp 65], argTypes := #[35, 38] }, type := 3, pos := "law.go:125", after := #[{ on := 0, ground := Go.Ground.data }, { on := 4, ground := Go.Ground.data }], guard := none }) rfl (fun K hK => ?_) AllReadyH.nil)
                    (go_simp; go_at_call 24; refine (cX _ ((Below.refl _ _).drew)).mono ?_; rintro e wc0 ⟨rfl, hbc0⟩)
                    refine hK.out _ _ (⟨(Below.refl _ _).drew.trans hbc0, FF.out _ ((Below.refl _ _).drew.trans hbc0)⟩) (fun hHeld => ?_)
                    clear hK K
                    try simp only [Act.put, List.setIfInBounds_toArray, List.set_cons_zero, List.set_cons_succ]
                    refine wpAnyH_ready (rs := [11]) (by kernel_rfl) (by simp) (AllReadyH.cons (o := { dst := some 72, op := Go.Op.call { callee := Go.Callee.value (Go.Operand.func 24), args := #[Go.Operand.tmp 67, Go.Operand.tmp 71], argTypes := #[35, 38] }, type := 3, pos := "law.go:125", after := #[{ on := 6, ground := Go.Ground.data }, { on := 10, ground := Go.Ground.data }, { on := 5, ground := Go.Ground.chain }], guard := none }) rfl (fun K hK => ?_) AllReadyH.nil)
                    (go_simp; go_at_call 24; refine (cL _ (hHeld.1)).mono ?_; rintro e wc1 ⟨rfl, hbc1⟩)
                    refine hK.out _ _ (⟨hHeld.1.trans (hbc1.mono hHeld.1.size), FF.out _ (hHeld.1.trans (hbc1.mono hHeld.1.size))⟩) (fun hHeld => ?_)
                    clear hK K
                    try simp only [Act.put, List.setIfInBounds_toArray, List.set_cons_zero, List.set_cons_succ]
                    refine wpAnyH_take (i := 12) (oi := { dst := some 73, op := Go.Op.binOp Go.BinOp.neq 3 (Go.Operand.tmp 66) (Go.Operand.tmp 72) 3, type := 4, pos := "law.go:125", after := #[{ on := 5, ground := Go.Ground.data }, { on := 11, ground := Go.Ground.data }], guard := none }) (v := ?va1012) rfl (by kernel_rfl) (by kernel_rfl) (by kernel_rfl) (fun _ _ _ h => h) (Or.inl ⟨by rfl, ?ya1012⟩) (by assumption) ?_
                    case ya1012 => (intro wX hSw; (try dsimp only at hSw); go_simp <;> with_reducible rfl)
                    try simp only [Act.put, List.setIfInBounds_toArray, List.set_cons_zero, List.set_cons_succ]
                    refine wpAnyH_take (i := 13) (oi := { dst := some 74, op := Go.Op.move (Go.Operand.tmp 73), type := 4, pos := "law.go:125", after := #[{ on := 12, ground := Go.Ground.data }, { on := 11, ground := Go.Ground.chain }], guard := none }) (v := ?va1013) rfl (by kernel_rfl) (by kernel_rfl) (by kernel_rfl) (fun _ _ _ h => h) (Or.inl ⟨by rfl, ?ya1013⟩) (by assumption) ?_
                    case ya1013 => (intro wX hSw; (try dsimp only at hSw); go_simp <;> with_reducible rfl)
                    try simp only [Act.put, List.setIfInBounds_toArray, List.set_cons_zero, List.set_cons_succ]
                    refine wpAnyH_take (i := 14) (oi := { dst := some 75, op := Go.Op.move (Go.Operand.tmp 8), type := 35, pos := "law.go:125", after := #[{ on := 13, ground := Go.Ground.guard }], guard := some (13, false) }) (v := ?va1014) rfl (by kernel_rfl) (by kernel_rfl) (by kernel_rfl) (fun _ _ _ h => h) (Or.inl ⟨by rfl, ?ya1014⟩) (by assumption) ?_
                    case ya1014 => (intro wX hSw; (try dsimp only at hSw); go_simp <;> with_reducible rfl)
                    try simp only [Act.put, List.setIfInBounds_toArray, List.set_cons_zero, List.set_cons_succ]
                    refine wpAnyH_take (i := 15) (oi := { dst := some 76, op := Go.Op.move (Go.Operand.tmp 10), type := 3, pos := "law.go:125", after := #[{ on := 13, ground := Go.Ground.guard }], guard := some (13, false) }) (v := ?va1015) rfl (by kernel_rfl) (by kernel_rfl) (by kernel_rfl) (fun _ _ _ h => h) (Or.inl ⟨by rfl, ?ya1015⟩) (by assumption) ?_
                    case ya1015 => (intro wX hSw; (try dsimp only at hSw); go_simp <;> with_reducible rfl)
                    try simp only [Act.put, List.setIfInBounds_toArray, List.set_cons_zero, List.set_cons_succ]
                    refine wpAnyH_take (i := 16) (oi := { dst := some 77, op := Go.Op.indexAddr 35 (Go.Operand.tmp 75) (Go.Operand.tmp 76), type := 0, pos := "law.go:125", after := #[{ on := 14, ground := Go.Ground.data }, { on := 15, ground := Go.Ground.data }, { on := 13, ground := Go.Ground.guard }], guard := some (13, false) }) (v := ?va1016) rfl (by kernel_rfl) (by kernel_rfl) (by kernel_rfl) (fun _ _ _ h => h) (Or.inl ⟨by rfl, ?ya1016⟩) (by assumption) ?_
                    case ya1016 => (intro wX hSw; (try dsimp only at hSw); go_simp <;> with_reducible rfl)
                    try simp only [Act.put, List.setIfInBounds_toArray, List.set_cons_zero, List.set_cons_succ]
                    refine wpAnyH_take (i := 17) (oi := { dst := some 78, op := Go.Op.load 38 (Go.Operand.tmp 77), type := 38, pos := "law.go:125", after := #[{ on := 16, ground := Go.Ground.data }, { on := 13, ground := Go.Ground.guard }], guard := some (13, false) }) (v := ?va1017) rfl (by kernel_rfl) (by kernel_rfl) (by kernel_rfl) (fun _ _ _ h => h) (Or.inl ⟨by rfl, ?ya1017⟩) (by assumption) ?_
                    case ya1017 => (intro wX hSw; (try dsimp only at hSw); go_simp <;> with_reducible rfl)
                    try simp only [Act.put, List.setIfInBounds_toArray, List.set_cons_zero, List.set_cons_succ]
                    refine wpAnyH_take (i := 18) (oi := { dst := some 79, op := Go.Op.move (Go.Operand.tmp 4), type := 35, pos := "law.go:125", after := #[{ on := 13, ground := Go.Ground.guard }], guard := some (13, false) }) (v := ?va1018) rfl (by kernel_rfl) (by kernel_rfl) (by kernel_rfl) (fun _ _ _ h => h) (Or.inl ⟨by rfl, ?ya1018⟩) (by assumption) ?_
                    case ya1018 => (intro wX hSw; (try dsimp only at hSw); go_simp <;> with_reducible rfl)
                    try simp only [Act.put, List.setIfInBounds_toArray, List.set_cons_zero, List.set_cons_succ]
                    refine wpAnyH_take (i := 19) (oi := { dst := some 80, op := Go.Op.move (Go.Operand.tmp 10), type := 3, pos := "law.go:125", after := #[{ on := 13, ground := Go.Ground.guard }], guard := some (13, false) }) (v := ?va1019) rfl (by kernel_rfl) (by kernel_rfl) (by kernel_rfl) (fun _ _ _ h => h) (Or.inl ⟨by rfl, ?ya1019⟩) (by assumption) ?_
                    case ya1019 => (intro wX hSw; (try dsimp only at hSw); go_simp <;> with_reducible rfl)
                    try simp only [Act.put, List.setIfInBounds_toArray, List.set_cons_zero, List.set_cons_succ]
                    refine wpAnyH_take (i := 20) (oi := { dst := some 81, op := Go.Op.indexAddr 35 (Go.Operand.tmp 79) (Go.Operand.tmp 80), type := 0, pos := "law.go:125", after := #[{ on := 18, ground := Go.Ground.data }, { on := 19, ground := Go.Ground.data }, { on := 13, ground := Go.Ground.guard }], guard := some (13, false) }) (v := ?va1020) rfl (by kernel_rfl) (by kernel_rfl) (by kernel_rfl) (fun _ _ _ h => h) (Or.inl ⟨by rfl, ?ya1020⟩) (by assumption) ?_
                    case ya1020 => (intro wX hSw; (try dsimp only at hSw); go_simp <;> with_reducible rfl)
                    try simp only [Act.put, List.setIfInBounds_toArray, List.set_cons_zero, List.set_cons_succ]
                    refine wpAnyH_take (i := 21) (oi := { dst := some 82, op := Go.Op.load 38 (Go.Operand.tmp 81), type := 38, pos := "law.go:125", after := #[{ on := 20, ground := Go.Ground.data }, { on := 13, ground := Go.Ground.guard }], guard := some (13, false) }) (v := ?va1021) rfl (by kernel_rfl) (by kernel_rfl) (by kernel_rfl) (fun _ _ _ h => h) (Or.inl ⟨by rfl, ?ya1021⟩) (by assumption) ?_
                    case ya1021 => (intro wX hSw; (try dsimp only at hSw); go_simp <;> with_reducible rfl)
                    try simp only [Act.put, List.setIfInBounds_toArray, List.set_cons_zero, List.set_cons_succ]
                    refine wpAnyH_take (i := 22) (oi := { dst := some 83, op := Go.Op.binOp Go.BinOp.neq 38 (Go.Operand.tmp 78) (Go.Operand.tmp 82) 38, type := 4, pos := "law.go:125", after := #[{ on := 17, ground := Go.Ground.data }, { on := 21, ground := Go.Ground.data }, { on := 13, ground := Go.Ground.guard }], guard := some (13, false) }) (v := ?va1022) rfl (by kernel_rfl) (by kernel_rfl) (by kernel_rfl) (fun _ _ _ h => h) (Or.inl ⟨by rfl, ?ya1022⟩) (by assumption) ?_
                    case ya1022 => (intro wX hSw; (try dsimp only at hSw); go_simp <;> with_reducible rfl)
                    try simp only [Act.put, List.setIfInBounds_toArray, List.set_cons_zero, List.set_cons_succ]
                    refine wpAnyH_take (i := 23) (oi := { dst := some 84, op := Go.Op.pick (Go.Operand.tmp 74) (Go.Operand.const (Go.Value.bool true)) (Go.Operand.tmp 83), type := 4, pos := "law.go:125", after := #[{ on := 13, ground := Go.Ground.data }, { on := 22, ground := Go.Ground.data }], guard := none }) (v := ?va1023) rfl (by kernel_rfl) (by kernel_rfl) (by kernel_rfl) (fun _ _ _ h => h) (Or.inl ⟨by rfl, ?ya1023⟩) (by assumption) ?_
                    case ya1023 => (intro wX hSw; (try dsimp only at hSw); go_simp <;> with_reducible rfl)
                    try simp only [Act.put, List.setIfInBounds_toArray, List.set_cons_zero, List.set_cons_succ]
                    refine wpAnyH_take (i := 24) (oi := { dst := some 85, op := Go.Op.move (Go.Operand.tmp 84), type := 4, pos := "law.go:125", after := #[{ on := 23, ground := Go.Ground.data }, { on := 13, ground := Go.Ground.chain }], guard := none }) (v := ?va1024) rfl (by kernel_rfl) (by kernel_rfl) (by kernel_rfl) (fun _ _ _ h => h) (Or.inl ⟨by rfl, ?ya1024⟩) (by assumption) ?_
                    case ya1024 => (intro wX hSw; (try dsimp only at hSw); go_simp <;> with_reducible rfl)
                    try simp only [Act.put, List.setIfInBounds_toArray, List.set_cons_zero, List.set_cons_succ]
                    refine wpAnyH_take (i := 25) (oi := { dst := some 86, op := Go.Op.move (Go.Operand.tmp 10), type := 3, pos := "law.go:125", after := #[{ on := 24, ground := Go.Ground.guard }], guard := some (24, false) }) (v := ?va1025) rfl (by kernel_rfl) (by kernel_rfl) (by kernel_rfl) (fun _ _ _ h => h) (Or.inl ⟨by rfl, ?ya1025⟩) (by assumption) ?_
                    case ya1025 => (intro wX hSw; (try dsimp only at hSw); go_simp <;> with_reducible rfl)
                    try simp only [Act.put, List.setIfInBounds_toArray, List.set_cons_zero, List.set_cons_succ]
                    refine wpAnyH_take (i := 26) (oi := { dst := some 87, op := Go.Op.binOp Go.BinOp.gtr 3 (Go.Operand.tmp 86) (Go.Operand.const (Go.Value.int Go.IntKind.i64 0)) 3, type := 4, pos := "law.go:125", after := #[{ on := 25, ground := Go.Ground.data }, { on := 24, ground := Go.Ground.guard }], guard := some (24, false) }) (v := ?va1026) rfl (by kernel_rfl) (by kernel_rfl) (by kernel_rfl) (fun _ _ _ h => h) (Or.inl ⟨by rfl, ?ya1026⟩) (by assumption) ?_
                    case ya1026 => (intro wX hSw; (try dsimp only at hSw); go_simp <;> with_reducible rfl)
                    try simp only [Act.put, List.setIfInBounds_toArray, List.set_cons_zero, List.set_cons_succ]
                    refine wpAnyH_take (i := 27) (oi := { dst := some 88, op := Go.Op.move (Go.Operand.tmp 87), type := 4, pos := "law.go:125", after := #[{ on := 26, ground := Go.Ground.data }, { on := 24, ground := Go.Ground.chain }, { on := 24, ground := Go.Ground.guard }], guard := some (24, false) }) (v := ?va1027) rfl (by kernel_rfl) (by kernel_rfl) (by kernel_rfl) (fun _ _ _ h => h) (Or.inl ⟨by rfl, ?ya1027⟩) (by assumption) ?_
                    case ya1027 => (intro wX hSw; (try dsimp only at hSw); go_simp <;> with_reducible rfl)
                    try simp only [Act.put, List.setIfInBounds_toArray, List.set_cons_zero, List.set_cons_succ]
                    refine wpAnyH_take (i := 28) (oi := { dst := some 89, op := Go.Op.move (Go.Operand.tmp 4), type := 35, pos := "law.go:125", after := #[{ on := 27, ground := Go.Ground.guard }], guard := some (27, true) }) (v := undef) rfl (by kernel_rfl) (by kernel_rfl) (by kernel_rfl) (fun _ _ _ h => h) (Or.inr ⟨by rfl, rfl⟩) (by assumption) ?_
                    try simp only [Act.put, List.setIfInBounds_toArray, List.set_cons_zero, List.set_cons_succ]
                    refine wpAnyH_take (i := 29) (oi := { dst := some 90, op := Go.Op.move (Go.Operand.tmp 10), type := 3, pos := "law.go:125", after := #[{ on := 27, ground := Go.Ground.guard }], guard := some (27, true) }) (v := undef) rfl (by kernel_rfl) (by kernel_rfl) (by kernel_rfl) (fun _ _ _ h => h) (Or.inr ⟨by rfl, rfl⟩) (by assumption) ?_
                    try simp only [Act.put, List.setIfInBounds_toArray, List.set_cons_zero, List.set_cons_succ]
                    refine wpAnyH_take (i := 30) (oi := { dst := some 91, op := Go.Op.indexAddr 35 (Go.Operand.tmp 89) (Go.Operand.tmp 90), type := 0, pos := "law.go:125", after := #[{ on := 28, ground := Go.Ground.data }, { on := 29, ground := Go.Ground.data }, { on := 27, ground := Go.Ground.guard }], guard := some (27, true) }) (v := undef) rfl (by kernel_rfl) (by kernel_rfl) (by kernel_rfl) (fun _ _ _ h => h) (Or.inr ⟨by rfl, rfl⟩) (by assumption) ?_
                    try simp only [Act.put, List.setIfInBounds_toArray, List.set_cons_zero, List.set_cons_succ]
                    refine wpAnyH_take (i := 31) (oi := { dst := some 92, op := Go.Op.load 38 (Go.Operand.tmp 91), type := 38, pos := "law.go:125", after := #[{ on := 30, ground := Go.Ground.data }, { on := 27, ground := Go.Ground.guard }], guard := some (27, true) }) (v := undef) rfl (by kernel_rfl) (by kernel_rfl) (by kernel_rfl) (fun _ _ _ h => h) (Or.inr ⟨by rfl, rfl⟩) (by assumption) ?_
                    try simp only [Act.put, List.setIfInBounds_toArray, List.set_cons_zero, List.set_cons_succ]
                    refine wpAnyH_take (i := 32) (oi := { dst := some 93, op := Go.Op.move (Go.Operand.tmp 4), type := 35, pos := "law.go:125", after := #[{ on := 27, ground := Go.Ground.guard }], guard := some (27, true) }) (v := undef) rfl (by kernel_rfl) (by kernel_rfl) (by kernel_rfl) (fun _ _ _ h => h) (Or.inr ⟨by rfl, rfl⟩) (by assumption) ?_
                    try simp only [Act.put, List.setIfInBounds_toArray, List.set_cons_zero, List.set_cons_succ]
                    refine wpAnyH_take (i := 33) (oi := { dst := some 94, op := Go.Op.move (Go.Operand.tmp 10), type := 3, pos := "law.go:125", after := #[{ on := 27, ground := Go.Ground.guard }], guard := some (27, true) }) (v := undef) rfl (by kernel_rfl) (by kernel_rfl) (by kernel_rfl) (fun _ _ _ h => h) (Or.inr ⟨by rfl, rfl⟩) (by assumption) ?_
                    try simp only [Act.put, List.setIfInBounds_toArray, List.set_cons_zero, List.set_cons_succ]
                    refine wpAnyH_take (i := 34) (oi := { dst := some 95, op := Go.Op.binOp Go.BinOp.sub 3 (Go.Operand.tmp 94) (Go.Operand.const (Go.Value.int Go.IntKind.i64 1)) 3, type := 3, pos := "law.go:125", after := #[{ on := 33, ground := Go.Ground.data }, { on := 27, ground := Go.Ground.guard }], guard := some (27, true) }) (v := undef) rfl (by kernel_rfl) (by kernel_rfl) (by kernel_rfl) (fun _ _ _ h => h) (Or.inr ⟨by rfl, rfl⟩) (by assumption) ?_
                    try simp only [Act.put, List.setIfInBounds_toArray, List.set_cons_zero, List.set_cons_succ]
                    refine wpAnyH_take (i := 35) (oi := { dst := some 96, op := Go.Op.indexAddr 35 (Go.Operand.tmp 93) (Go.Operand.tmp 95), type := 0, pos := "law.go:125", after := #[{ on := 32, ground := Go.Ground.data }, { on := 34, ground := Go.Ground.data }, { on := 27, ground := Go.Ground.guard }], guard := some (27, true) }) (v := undef) rfl (by kernel_rfl) (by kernel_rfl) (by kernel_rfl) (fun _ _ _ h => h) (Or.inr ⟨by rfl, rfl⟩) (by assumption) ?_
                    try simp only [Act.put, List.setIfInBounds_toArray, List.set_cons_zero, List.set_cons_succ]
                    refine wpAnyH_take (i := 36) (oi := { dst := some 97, op := Go.Op.load 38 (Go.Operand.tmp 96), type := 38, pos := "law.go:125", after := #[{ on := 35, ground := Go.Ground.data }, { on := 27, ground := Go.Ground.guard }], guard := some (27, true) }) (v := undef) rfl (by kernel_rfl) (by kernel_rfl) (by kernel_rfl) (fun _ _ _ h => h) (Or.inr ⟨by rfl, rfl⟩) (by assumption) ?_
                    try simp only [Act.put, List.setIfInBounds_toArray, List.set_cons_zero, List.set_cons_succ]
                    refine wpAnyH_take (i := 37) (oi := { dst := some 98, op := Go.Op.call { callee := Go.Callee.value (Go.Operand.func 16), args := #[Go.Operand.tmp 92, Go.Operand.tmp 97], argTypes := #[38, 38] }, type := 4, pos := "law.go:125", after := #[{ on := 31, ground := Go.Ground.data }, { on := 36, ground := Go.Ground.data }, { on := 27, ground := Go.Ground.chain }, { on := 27, ground := Go.Ground.guard }], guard := some (27, true) }) (v := undef) rfl (by kernel_rfl) (by kernel_rfl) (by kernel_rfl) (fun _ _ _ h => h) (Or.inr ⟨by rfl, rfl⟩) (by assumption) ?_
                    try simp only [Act.put, List.setIfInBounds_toArray, List.set_cons_zero, List.set_cons_succ]
                    refine wpAnyH_take (i := 38) (oi := { dst := some 99, op := Go.Op.pick (Go.Operand.tmp 88) (Go.Operand.tmp 98) (Go.Operand.const (Go.Value.bool false)), type := 4, pos := "law.go:125", after := #[{ on := 27, ground := Go.Ground.data }, { on := 37, ground := Go.Ground.data }, { on := 24, ground := Go.Ground.guard }], guard := some (24, false) }) (v := ?va1038) rfl (by kernel_rfl) (by kernel_rfl) (by kernel_rfl) (fun _ _ _ h => h) (Or.inl ⟨by rfl, ?ya1038⟩) (by assumption) ?_
                    case ya1038 => (intro wX hSw; (try dsimp only at hSw); go_simp <;> with_reducible rfl)
                    try simp only [Act.put, List.setIfInBounds_toArray, List.set_cons_zero, List.set_cons_succ]
                    refine wpAnyH_take (i := 39) (oi := { dst := some 100, op := Go.Op.pick (Go.Operand.tmp 85) (Go.Operand.const (Go.Value.bool true)) (Go.Operand.tmp 99), type := 4, pos := "law.go:125", after := #[{ on := 24, ground := Go.Ground.data }, { on := 38, ground := Go.Ground.data }], guard := none }) (v := ?va1039) rfl (by kernel_rfl) (by kernel_rfl) (by kernel_rfl) (fun _ _ _ h => h) (Or.inl ⟨by rfl, ?ya1039⟩) (by assumption) ?_
                    case ya1039 => (intro wX hSw; (try dsimp only at hSw); go_simp <;> with_reducible rfl)
                    try simp only [Act.put, List.setIfInBounds_toArray, List.set_cons_zero, List.set_cons_succ]
                    refine wpAnyH_take (i := 40) (oi := { dst := some 101, op := Go.Op.move (Go.Operand.tmp 100), type := 4, pos := "law.go:125", after := #[{ on := 39, ground := Go.Ground.data }, { on := 37, ground := Go.Ground.chain }], guard := none }) (v := ?va1040) rfl (by kernel_rfl) (by kernel_rfl) (by kernel_rfl) (fun _ _ _ h => h) (Or.inl ⟨by rfl, ?ya1040⟩) (by assumption) ?_
                    case ya1040 => (intro wX hSw; (try dsimp only at hSw); go_simp <;> with_reducible rfl)
                    try simp only [Act.put, List.setIfInBounds_toArray, List.set_cons_zero, List.set_cons_succ]
                    refine wpAnyH_take (i := 41) (oi := { dst := some 102, op := Go.Op.move (Go.Operand.tmp 9), type := 4, pos := "law.go:125", after := #[{ on := 40, ground := Go.Ground.guard }], guard := some (40, false) }) (v := ?va1041) rfl (by kernel_rfl) (by kernel_rfl) (by kernel_rfl) (fun _ _ _ h => h) (Or.inl ⟨by rfl, ?ya1041⟩) (by assumption) ?_
                    case ya1041 => (intro wX hSw; (try dsimp only at hSw); go_simp <;> with_reducible rfl)
                    try simp only [Act.put, List.setIfInBounds_toArray, List.set_cons_zero, List.set_cons_succ]
                    refine wpAnyH_take (i := 42) (oi := { dst := some 103, op := Go.Op.move (Go.Operand.tmp 102), type := 4, pos := "law.go:125", after := #[{ on := 41, ground := Go.Ground.data }, { on := 40, ground := Go.Ground.chain }, { on := 40, ground := Go.Ground.guard }], guard := some (40, false) }) (v := ?va1042) rfl (by kernel_rfl) (by kernel_rfl) (by kernel_rfl) (fun _ _ _ h => h) (Or.inl ⟨by rfl, ?ya1042⟩) (by assumption) ?_
                    case ya1042 => (intro wX hSw; (try dsimp only at hSw); go_simp <;> with_reducible rfl)
                    try simp only [Act.put, List.setIfInBounds_toArray, List.set_cons_zero, List.set_cons_succ]
                    refine wpAnyH_take (i := 43) (oi := { dst := some 104, op := Go.Op.move (Go.Operand.tmp 7), type := 35, pos := "law.go:125", after := #[{ on := 42, ground := Go.Ground.guard }], guard := some (42, true) }) (v := ?va1043) rfl (by kernel_rfl) (by kernel_rfl) (by kernel_rfl) (fun _ _ _ h => h) (Or.inl ⟨by rfl, ?ya1043⟩) (by assumption) ?_
                    case ya1043 => (intro wX hSw; (try dsimp only at hSw); go_simp <;> with_reducible rfl)
                    try simp only [Act.put, List.setIfInBounds_toArray, List.set_cons_zero, List.set_cons_succ]
                    refine wpAnyH_take (i := 44) (oi := { dst := some 105, op := Go.Op.move (Go.Operand.tmp 10), type := 3, pos := "law.go:125", after := #[{ on := 42, ground := Go.Ground.guard }], guard := some (42, true) }) (v := ?va1044) rfl (by kernel_rfl) (by kernel_rfl) (by kernel_rfl) (fun _ _ _ h => h) (Or.inl ⟨by rfl, ?ya1044⟩) (by assumption) ?_
                    case ya1044 => (intro wX hSw; (try dsimp only at hSw); go_simp <;> with_reducible rfl)
                    try simp only [Act.put, List.setIfInBounds_toArray, List.set_cons_zero, List.set_cons_succ]
                    refine wpAnyH_take (i := 45) (oi := { dst := some 106, op := Go.Op.indexAddr 35 (Go.Operand.tmp 104) (Go.Operand.tmp 105), type := 0, pos := "law.go:125", after := #[{ on := 43, ground := Go.Ground.data }, { on := 44, ground := Go.Ground.data }, { on := 42, ground := Go.Ground.guard }], guard := some (42, true) }) (v := ?va1045) rfl (by kernel_rfl) (by kernel_rfl) (by kernel_rfl) (fun _ _ _ h => h) (Or.inl ⟨by rfl, ?ya1045⟩) (by assumption) ?_
                    case ya1045 => (intro wX hSw; (try dsimp only at hSw); go_simp <;> with_reducible rfl)
                    try simp only [Act.put, List.setIfInBounds_toArray, List.set_cons_zero, List.set_cons_succ]
                    refine wpAnyH_take (i := 46) (oi := { dst := some 107, op := Go.Op.load 38 (Go.Operand.tmp 106), type := 38, pos := "law.go:125", after := #[{ on := 45, ground := Go.Ground.data }, { on := 42, ground := Go.Ground.guard }], guard := some (42, true) }) (v := ?va1046) rfl (by kernel_rfl) (by kernel_rfl) (by kernel_rfl) (fun _ _ _ h => h) (Or.inl ⟨by rfl, ?ya1046⟩) (by assumption) ?_
                    case ya1046 => (intro wX hSw; (try dsimp only at hSw); go_simp <;> with_reducible rfl)
                    try simp only [Act.put, List.setIfInBounds_toArray, List.set_cons_zero, List.set_cons_succ]
                    refine wpAnyH_take (i := 47) (oi := { dst := some 108, op := Go.Op.move (Go.Operand.tmp 4), type := 35, pos := "law.go:125", after := #[{ on := 42, ground := Go.Ground.guard }], guard := some (42, true) }) (v := ?va1047) rfl (by kernel_rfl) (by kernel_rfl) (by kernel_rfl) (fun _ _ _ h => h) (Or.inl ⟨by rfl, ?ya1047⟩) (by assumption) ?_
                    case ya1047 => (intro wX hSw; (try dsimp only at hSw); go_simp <;> with_reducible rfl)
                    try simp only [Act.put, List.setIfInBounds_toArray, List.set_cons_zero, List.set_cons_succ]
                    refine wpAnyH_take (i := 48) (oi := { dst := some 109, op := Go.Op.move (Go.Operand.tmp 10), type := 3, pos := "law.go:125", after := #[{ on := 42, ground := Go.Ground.guard }], guard := some (42, true) }) (v := ?va1048) rfl (by kernel_rfl) (by kernel_rfl) (by kernel_rfl) (fun _ _ _ h => h) (Or.inl ⟨by rfl, ?ya1048⟩) (by assumption) ?_
                    case ya1048 => (intro wX hSw; (try dsimp only at hSw); go_simp <;> with_reducible rfl)
                    try simp only [Act.put, List.setIfInBounds_toArray, List.set_cons_zero, List.set_cons_succ]
                    refine wpAnyH_take (i := 49) (oi := { dst := some 110, op := Go.Op.indexAddr 35 (Go.Operand.tmp 108) (Go.Operand.tmp 109), type := 0, pos := "law.go:125", after := #[{ on := 47, ground := Go.Ground.data }, { on := 48, ground := Go.Ground.data }, { on := 42, ground := Go.Ground.guard }], guard := some (42, true) }) (v := ?va1049) rfl (by kernel_rfl) (by kernel_rfl) (by kernel_rfl) (fun _ _ _ h => h) (Or.inl ⟨by rfl, ?ya1049⟩) (by assumption) ?_
                    case ya1049 => (intro wX hSw; (try dsimp only at hSw); go_simp <;> with_reducible rfl)
                    try simp only [Act.put, List.setIfInBounds_toArray, List.set_cons_zero, List.set_cons_succ]
                    refine wpAnyH_take (i := 50) (oi := { dst := some 111, op := Go.Op.load 38 (Go.Operand.tmp 110), type := 38, pos := "law.go:125", after := #[{ on := 49, ground := Go.Ground.data }, { on := 42, ground := Go.Ground.guard }], guard := some (42, true) }) (v := ?va1050) rfl (by kernel_rfl) (by kernel_rfl) (by kernel_rfl) (fun _ _ _ h => h) (Or.inl ⟨by rfl, ?ya1050⟩) (by assumption) ?_
                    case ya1050 => (intro wX hSw; (try dsimp only at hSw); go_simp <;> with_reducible rfl)
                    try simp only [Act.put, List.setIfInBounds_toArray, List.set_cons_zero, List.set_cons_succ]
                    refine wpAnyH_take (i := 51) (oi := { dst := some 112, op := Go.Op.binOp Go.BinOp.neq 38 (Go.Operand.tmp 107) (Go.Operand.tmp 111) 38, type := 4, pos := "law.go:125", after := #[{ on := 46, ground := Go.Ground.data }, { on := 50, ground := Go.Ground.data }, { on := 42, ground := Go.Ground.guard }], guard := some (42, true) }) (v := ?va1051) rfl (by kernel_rfl) (by kernel_rfl) (by kernel_rfl) (fun _ _ _ h => h) (Or.inl ⟨by rfl, ?ya1051⟩) (by assumption) ?_
                    case ya1051 => (intro wX hSw; (try dsimp only at hSw); go_simp <;> with_reducible rfl)
                    try simp only [Act.put, List.setIfInBounds_toArray, List.set_cons_zero, List.set_cons_succ]
                    refine wpAnyH_take (i := 52) (oi := { dst := some 113, op := Go.Op.move (Go.Operand.tmp 112), type := 4, pos := "law.go:125", after := #[{ on := 51, ground := Go.Ground.data }, { on := 42, ground := Go.Ground.chain }, { on := 42, ground := Go.Ground.guard }], guard := some (42, true) }) (v := ?va1052) rfl (by kernel_rfl) (by kernel_rfl) (by kernel_rfl) (fun _ _ _ h => h) (Or.inl ⟨by rfl, ?ya1052⟩) (by assumption) ?_
                    case ya1052 => (intro wX hSw; (try dsimp only at hSw); go_simp <;> with_reducible rfl)
                    try simp only [Act.put, List.setIfInBounds_toArray, List.set_cons_zero, List.set_cons_succ]
                    refine wpAnyH_take (i := 53) (oi := { dst := some 114, op := Go.Op.move (Go.Operand.tmp 10), type := 3, pos := "law.go:125", after := #[{ on := 52, ground := Go.Ground.guard }], guard := some (52, false) }) (v := ?va1053) rfl (by kernel_rfl) (by kernel_rfl) (by kernel_rfl) (fun _ _ _ h => h) (Or.inl ⟨by rfl, ?ya1053⟩) (by assumption) ?_
                    case ya1053 => (intro wX hSw; (try dsimp only at hSw); go_simp <;> with_reducible rfl)
                    try simp only [Act.put, List.setIfInBounds_toArray, List.set_cons_zero, List.set_cons_succ]
                    refine wpAnyH_take (i := 54) (oi := { dst := some 115, op := Go.Op.binOp Go.BinOp.gtr 3 (Go.Operand.tmp 114) (Go.Operand.const (Go.Value.int Go.IntKind.i64 0)) 3, type := 4, pos := "law.go:125", after := #[{ on := 53, ground := Go.Ground.data }, { on := 52, ground := Go.Ground.guard }], guard := some (52, false) }) (v := ?va1054) rfl (by kernel_rfl) (by kernel_rfl) (by kernel_rfl) (fun _ _ _ h => h) (Or.inl ⟨by rfl, ?ya1054⟩) (by assumption) ?_
                    case ya1054 => (intro wX hSw; (try dsimp only at hSw); go_simp <;> with_reducible rfl)
                    try simp only [Act.put, List.setIfInBounds_toArray, List.set_cons_zero, List.set_cons_succ]
                    refine wpAnyH_take (i := 55) (oi := { dst := some 116, op := Go.Op.move (Go.Operand.tmp 115), type := 4, pos := "law.go:125", after := #[{ on := 54, ground := Go.Ground.data }, { on := 52, ground := Go.Ground.chain }, { on := 52, ground := Go.Ground.guard }], guard := some (52, false) }) (v := ?va1055) rfl (by kernel_rfl) (by kernel_rfl) (by kernel_rfl) (fun _ _ _ h => h) (Or.inl ⟨by rfl, ?ya1055⟩) (by assumption) ?_
                    case ya1055 => (intro wX hSw; (try dsimp only at hSw); go_simp <;> with_reducible rfl)
                    try simp only [Act.put, List.setIfInBounds_toArray, List.set_cons_zero, List.set_cons_succ]
                    refine wpAnyH_take (i := 56) (oi := { dst := some 117, op := Go.Op.move (Go.Operand.tmp 4), type := 35, pos := "law.go:125", after := #[{ on := 55, ground := Go.Ground.guard }], guard := some (55, true) }) (v := undef) rfl (by kernel_rfl) (by kernel_rfl) (by kernel_rfl) (fun _ _ _ h => h) (Or.inr ⟨by rfl, rfl⟩) (by assumption) ?_
                    try simp only [Act.put, List.setIfInBounds_toArray, List.set_cons_zero, List.set_cons_succ]
                    refine wpAnyH_take (i := 57) (oi := { dst := some 118, op := Go.Op.move (Go.Operand.tmp 10), type := 3, pos := "law.go:125", after := #[{ on := 55, ground := Go.Ground.guard }], guard := some (55, true) }) (v := undef) rfl (by kernel_rfl) (by kernel_rfl) (by kernel_rfl) (fun _ _ _ h => h) (Or.inr ⟨by rfl, rfl⟩) (by assumption) ?_
                    try simp only [Act.put, List.setIfInBounds_toArray, List.set_cons_zero, List.set_cons_succ]
                    refine wpAnyH_take (i := 58) (oi := { dst := some 119, op := Go.Op.binOp Go.BinOp.sub 3 (Go.Operand.tmp 118) (Go.Operand.const (Go.Value.int Go.IntKind.i64 1)) 3, type := 3, pos := "law.go:125", after := #[{ on := 57, ground := Go.Ground.data }, { on := 55, ground := Go.Ground.guard }], guard := some (55, true) }) (v := undef) rfl (by kernel_rfl) (by kernel_rfl) (by kernel_rfl) (fun _ _ _ h => h) (Or.inr ⟨by rfl, rfl⟩) (by assumption) ?_
                    try simp only [Act.put, List.setIfInBounds_toArray, List.set_cons_zero, List.set_cons_succ]
                    refine wpAnyH_take (i := 59) (oi := { dst := some 120, op := Go.Op.indexAddr 35 (Go.Operand.tmp 117) (Go.Operand.tmp 119), type := 0, pos := "law.go:125", after := #[{ on := 56, ground := Go.Ground.data }, { on := 58, ground := Go.Ground.data }, { on := 55, ground := Go.Ground.guard }], guard := some (55, true) }) (v := undef) rfl (by kernel_rfl) (by kernel_rfl) (by kernel_rfl) (fun _ _ _ h => h) (Or.inr ⟨by rfl, rfl⟩) (by assumption) ?_
                    try simp only [Act.put, List.setIfInBounds_toArray, List.set_cons_zero, List.set_cons_succ]
                    refine wpAnyH_take (i := 60) (oi := { dst := some 121, op := Go.Op.load 38 (Go.Operand.tmp 120), type := 38, pos := "law.go:125", after := #[{ on := 59, ground := Go.Ground.data }, { on := 55, ground := Go.Ground.guard }], guard := some (55, true) }) (v := undef) rfl (by kernel_rfl) (by kernel_rfl) (by kernel_rfl) (fun _ _ _ h => h) (Or.inr ⟨by rfl, rfl⟩) (by assumption) ?_
                    try simp only [Act.put, List.setIfInBounds_toArray, List.set_cons_zero, List.set_cons_succ]
                    refine wpAnyH_take (i := 61) (oi := { dst := some 122, op := Go.Op.move (Go.Operand.tmp 4), type := 35, pos := "law.go:125", after := #[{ on := 55, ground := Go.Ground.guard }], guard := some (55, true) }) (v := undef) rfl (by kernel_rfl) (by kernel_rfl) (by kernel_rfl) (fun _ _ _ h => h) (Or.inr ⟨by rfl, rfl⟩) (by assumption) ?_
                    try simp only [Act.put, List.setIfInBounds_toArray, List.set_cons_zero, List.set_cons_succ]
                    refine wpAnyH_take (i := 62) (oi := { dst := some 123, op := Go.Op.move (Go.Operand.tmp 10), type := 3, pos := "law.go:125", after := #[{ on := 55, ground := Go.Ground.guard }], guard := some (55, true) }) (v := undef) rfl (by kernel_rfl) (by kernel_rfl) (by kernel_rfl) (fun _ _ _ h => h) (Or.inr ⟨by rfl, rfl⟩) (by assumption) ?_
                    try simp only [Act.put, List.setIfInBounds_toArray, List.set_cons_zero, List.set_cons_succ]
                    refine wpAnyH_take (i := 63) (oi := { dst := some 124, op := Go.Op.indexAddr 35 (Go.Operand.tmp 122) (Go.Operand.tmp 123), type := 0, pos := "law.go:125", after := #[{ on := 61, ground := Go.Ground.data }, { on := 62, ground := Go.Ground.data }, { on := 55, ground := Go.Ground.guard }], guard := some (55, true) }) (v := undef) rfl (by kernel_rfl) (by kernel_rfl) (by kernel_rfl) (fun _ _ _ h => h) (Or.inr ⟨by rfl, rfl⟩) (by assumption) ?_
                    try simp only [Act.put, List.setIfInBounds_toArray, List.set_cons_zero, List.set_cons_succ]
                    refine wpAnyH_take (i := 64) (oi := { dst := some 125, op := Go.Op.load 38 (Go.Operand.tmp 124), type := 38, pos := "law.go:125", after := #[{ on := 63, ground := Go.Ground.data }, { on := 55, ground := Go.Ground.guard }], guard := some (55, true) }) (v := undef) rfl (by kernel_rfl) (by kernel_rfl) (by kernel_rfl) (fun _ _ _ h => h) (Or.inr ⟨by rfl, rfl⟩) (by assumption) ?_
                    try simp only [Act.put, List.setIfInBounds_toArray, List.set_cons_zero, List.set_cons_succ]
                    refine wpAnyH_take (i := 65) (oi := { dst := some 126, op := Go.Op.call { callee := Go.Callee.value (Go.Operand.func 16), args := #[Go.Operand.tmp 121, Go.Operand.tmp 125], argTypes := #[38, 38] }, type := 4, pos := "law.go:125", after := #[{ on := 60, ground := Go.Ground.data }, { on := 64, ground := Go.Ground.data }, { on := 55, ground := Go.Ground.chain }, { on := 55, ground := Go.Ground.guard }], guard := some (55, true) }) (v := undef) rfl (by kernel_rfl) (by kernel_rfl) (by kernel_rfl) (fun _ _ _ h => h) (Or.inr ⟨by rfl, rfl⟩) (by assumption) ?_
                    try simp only [Act.put, List.setIfInBounds_toArray, List.set_cons_zero, List.set_cons_succ]
                    refine wpAnyH_take (i := 66) (oi := { dst := some 127, op := Go.Op.unOp Go.UnOp.not 4 (Go.Operand.tmp 126), type := 4, pos := "law.go:125", after := #[{ on := 65, ground := Go.Ground.data }, { on := 55, ground := Go.Ground.guard }], guard := some (55, true) }) (v := undef) rfl (by kernel_rfl) (by kernel_rfl) (by kernel_rfl) (fun _ _ _ h => h) (Or.inr ⟨by rfl, rfl⟩) (by assumption) ?_
                    try simp only [Act.put, List.setIfInBounds_toArray, List.set_cons_zero, List.set_cons_succ]
                    refine wpAnyH_take (i := 67) (oi := { dst := some 128, op := Go.Op.pick (Go.Operand.tmp 116) (Go.Operand.tmp 127) (Go.Operand.const (Go.Value.bool false)), type := 4, pos := "law.go:125", after := #[{ on := 55, ground := Go.Ground.data }, { on := 66, ground := Go.Ground.data }, { on := 52, ground := Go.Ground.guard }], guard := some (52, false) }) (v := ?va1067) rfl (by kernel_rfl) (by kernel_rfl) (by kernel_rfl) (fun _ _ _ h => h) (Or.inl ⟨by rfl, ?ya1067⟩) (by assumption) ?_
                    case ya1067 => (intro wX hSw; (try dsimp only at hSw); go_simp <;> with_reducible rfl)
                    try simp only [Act.put, List.setIfInBounds_toArray, List.set_cons_zero, List.set_cons_succ]
                    refine wpAnyH_take (i := 68) (oi := { dst := some 129, op := Go.Op.pick (Go.Operand.tmp 113) (Go.Operand.const (Go.Value.bool true)) (Go.Operand.tmp 128), type := 4, pos := "law.go:125", after := #[{ on := 52, ground := Go.Ground.data }, { on := 67, ground := Go.Ground.data }, { on := 42, ground := Go.Ground.guard }], guard := some (42, true) }) (v := ?va1068) rfl (by kernel_rfl) (by kernel_rfl) (by kernel_rfl) (fun _ _ _ h => h) (Or.inl ⟨by rfl, ?ya1068⟩) (by assumption) ?_
                    case ya1068 => (intro wX hSw; (try dsimp only at hSw); go_simp <;> with_reducible rfl)
                    try simp only [Act.put, List.setIfInBounds_toArray, List.set_cons_zero, List.set_cons_succ]
                    refine wpAnyH_take (i := 69) (oi := { dst := some 130, op := Go.Op.pick (Go.Operand.tmp 103) (Go.Operand.tmp 129) (Go.Operand.const (Go.Value.bool false)), type := 4, pos := "law.go:125", after := #[{ on := 42, ground := Go.Ground.data }, { on := 68, ground := Go.Ground.data }, { on := 40, ground := Go.Ground.guard }], guard := some (40, false) }) (v := ?va1069) rfl (by kernel_rfl) (by kernel_rfl) (by kernel_rfl) (fun _ _ _ h => h) (Or.inl ⟨by rfl, ?ya1069⟩) (by assumption) ?_
                    case ya1069 => (intro wX hSw; (try dsimp only at hSw); go_simp <;> with_reducible rfl)
                    try simp only [Act.put, List.setIfInBounds_toArray, List.set_cons_zero, List.set_cons_succ]
                    refine wpAnyH_take (i := 70) (oi := { dst := some 131, op := Go.Op.pick (Go.Operand.tmp 101) (Go.Operand.const (Go.Value.bool true)) (Go.Operand.tmp 130), type := 4, pos := "law.go:125", after := #[{ on := 40, ground := Go.Ground.data }, { on := 69, ground := Go.Ground.data }], guard := none }) (v := ?va1070) rfl (by kernel_rfl) (by kernel_rfl) (by kernel_rfl) (fun _ _ _ h => h) (Or.inl ⟨by rfl, ?ya1070⟩) (by assumption) ?_
                    case ya1070 => (intro wX hSw; (try dsimp only at hSw); go_simp <;> with_reducible rfl)
                    try simp only [Act.put, List.setIfInBounds_toArray, List.set_cons_zero, List.set_cons_succ]
                    refine wpAnyH_done (by kernel_rfl) ?_ _
                    go_wp2
                    go_meet
                    exact ⟨by first | rfl | simp, hHeld.1⟩
                | false =>
                  clear HD HAP HN HM HXl HYl hB6
                  as_aux_lemma =>
                    have FF : Hid (∀ W, Below wr.heap.size wr W → (W.cell? ⟨b, o + i * 6, none⟩ = some (.string (bs ci)) ∧ W.cell? ⟨b, o + i * 6 + 1, none⟩ = some (.string (bs cb)) ∧ W.cell? ⟨b, o + i * 6 + 2, none⟩ = some (.int .i64 cs) ∧ W.cell? ⟨b, o + i * 6 + 3, none⟩ = some (.int .i64 ct) ∧ W.cell? ⟨b, o + i * 6 + 4, none⟩ = some (.int .i64 ca) ∧ W.cell? ⟨b, o + i * 6 + 5, none⟩ = some (.string (bs cr))) ∧ (W.cell? ⟨b4, o4 + i * 6, none⟩ = some (.string (bs xi)) ∧ W.cell? ⟨b4, o4 + i * 6 + 1, none⟩ = some (.string (bs xb)) ∧ W.cell? ⟨b4, o4 + i * 6 + 2, none⟩ = some (.int .i64 xs) ∧ W.cell? ⟨b4, o4 + i * 6 + 3, none⟩ = some (.int .i64 xt) ∧ W.cell? ⟨b4, o4 + i * 6 + 4, none⟩ = some (.int .i64 xa) ∧ W.cell? ⟨b4, o4 + i * 6 + 5, none⟩ = some (.string (bs xr))) ∧ (W.cell? ⟨b8, o8 + i * 6, none⟩ = some (.string (bs xi)) ∧ W.cell? ⟨b8, o8 + i * 6 + 1, none⟩ = some (.string (bs xb)) ∧ W.cell? ⟨b8, o8 + i * 6 + 2, none⟩ = some (.int .i64 xs) ∧ W.cell? ⟨b8, o8 + i * 6 + 3, none⟩ = some (.int .i64 xt) ∧ W.cell? ⟨b8, o8 + i * 6 + 4, none⟩ = some (.int .i64 xa) ∧ W.cell? ⟨b8, o8 + i * 6 + 5, none⟩ = some (.string (bs xr)))) := fun W hW => by
                      have hbw := HBR.out.trans (hW.mono HBR.out.size)
                      exact ⟨(RL.out.below hbw).cells HC.out, (RX.out.below hbw).cells HXi.out, (RZ.out.below hbw).cells HXi.out⟩
                    have gx := FF.out _ (Below.refl _ _).drew
                    clear HC HXi RL RX RY RZ HBR
                    refine wp_region_held_drew (S := (fun W => Below wr.heap.size wr W ∧ (W.cell? ⟨b, o + i * 6, none⟩ = some (.string (bs ci)) ∧ W.cell? ⟨b, o + i * 6 + 1, none⟩ = some (.string (bs cb)) ∧ W.cell? ⟨b, o + i * 6 + 2, none⟩ = some (.int .i64 cs) ∧ W.cell? ⟨b, o + i * 6 + 3, none⟩ = some (.int .i64 ct) ∧ W.cell? ⟨b, o + i * 6 + 4, none⟩ = some (.int .i64 ca) ∧ W.cell? ⟨b, o + i * 6 + 5, none⟩ = some (.string (bs cr))) ∧ (W.cell? ⟨b4, o4 + i * 6, none⟩ = some (.string (bs xi)) ∧ W.cell? ⟨b4, o4 + i * 6 + 1, none⟩ = some (.string (bs xb)) ∧ W.cell? ⟨b4, o4 + i * 6 + 2, none⟩ = some (.int .i64 xs) ∧ W.cell? ⟨b4, o4 + i * 6 + 3, none⟩ = some (.int .i64 xt) ∧ W.cell? ⟨b4, o4 + i * 6 + 4, none⟩ = some (.int .i64 xa) ∧ W.cell? ⟨b4, o4 + i * 6 + 5, none⟩ = some (.string (bs xr))) ∧ (W.cell? ⟨b8, o8 + i * 6, none⟩ = some (.string (bs xi)) ∧ W.cell? ⟨b8, o8 + i * 6 + 1, none⟩ = some (.string (bs xb)) ∧ W.cell? ⟨b8, o8 + i * 6 + 2, none⟩ = some (.int .i64 xs) ∧ W.cell? ⟨b8, o8 + i * 6 + 3, none⟩ = some (.int .i64 xt) ∧ W.cell? ⟨b8, o8 + i * 6 + 4, none⟩ = some (.int .i64 xa) ∧ W.cell? ⟨b8, o8 + i * 6 + 5, none⟩ = some (.string (bs xr))))) (by kernel_rfl) (⟨(Below.refl _ _).drew, FF.out _ (Below.refl _ _).drew⟩) (fun hHeld => ?_)
                    refine wpAnyH_take (i := 0) (oi := { dst := some 61, op := Go.Op.move (Go.Operand.tmp 4), type := 35, pos := "law.go:125", after := #[], guard := none }) (v := ?va000) rfl (by kernel_rfl) (by kernel_rfl) (by kernel_rfl) (fun _ _ _ h => h) (Or.inl ⟨by rfl, ?ya000⟩) (by assumption) ?_
                    case ya000 => (intro wX hSw; (try dsimp only at hSw); go_simp <;> with_reducible rfl)
                    try simp only [Act.put, List.setIfInBounds_toArray, List.set_cons_zero, List.set_cons_succ]
                    refine wpAnyH_take (i := 1) (oi := { dst := some 62, op := Go.Op.move (Go.Operand.tmp 0), type := 35, pos := "law.go:125", after := #[], guard := none }) (v := ?va001) rfl (by kernel_rfl) (by kernel_rfl) (by kernel_rfl) (fun _ _ _ h => h) (Or.inl ⟨by rfl, ?ya001⟩) (by assumption) ?_
                    case ya001 => (intro wX hSw; (try dsimp only at hSw); go_simp <;> with_reducible rfl)
                    try simp only [Act.put, List.setIfInBounds_toArray, List.set_cons_zero, List.set_cons_succ]
                    refine wpAnyH_take (i := 2) (oi := { dst := some 63, op := Go.Op.move (Go.Operand.tmp 10), type := 3, pos := "law.go:125", after := #[], guard := none }) (v := ?va002) rfl (by kernel_rfl) (by kernel_rfl) (by kernel_rfl) (fun _ _ _ h => h) (Or.inl ⟨by rfl, ?ya002⟩) (by assumption) ?_
                    case ya002 => (intro wX hSw; (try dsimp only at hSw); go_simp <;> with_reducible rfl)
                    try simp only [Act.put, List.setIfInBounds_toArray, List.set_cons_zero, List.set_cons_succ]
                    refine wpAnyH_take (i := 3) (oi := { dst := some 64, op := Go.Op.indexAddr 35 (Go.Operand.tmp 62) (Go.Operand.tmp 63), type := 0, pos := "law.go:125", after := #[{ on := 1, ground := Go.Ground.data }, { on := 2, ground := Go.Ground.data }], guard := none }) (v := ?va003) rfl (by kernel_rfl) (by kernel_rfl) (by kernel_rfl) (fun _ _ _ h => h) (Or.inl ⟨by rfl, ?ya003⟩) (by assumption) ?_
                    case ya003 => (intro wX hSw; (try dsimp only at hSw); go_simp <;> with_reducible rfl)
                    try simp only [Act.put, List.setIfInBounds_toArray, List.set_cons_zero, List.set_cons_succ]
                    refine wpAnyH_take (i := 4) (oi := { dst := some 65, op := Go.Op.load 38 (Go.Operand.tmp 64), type := 38, pos := "law.go:125", after := #[{ on := 3, ground := Go.Ground.data }], guard := none }) (v := ?va004) rfl (by kernel_rfl) (by kernel_rfl) (by kernel_rfl) (fun _ _ _ h => h) (Or.inl ⟨by rfl, ?ya004⟩) (by assumption) ?_
                    case ya004 => (intro wX hSw; (try dsimp only at hSw); go_simp <;> with_reducible rfl)
                    try simp only [Act.put, List.setIfInBounds_toArray, List.set_cons_zero, List.set_cons_succ]
                    refine wpAnyH_take (i := 6) (oi := { dst := some 67, op := Go.Op.move (Go.Operand.tmp 0), type := 35, pos := "law.go:125", after := #[], guard := none }) (v := ?va006) rfl (by kernel_rfl) (by kernel_rfl) (by kernel_rfl) (fun _ _ _ h => h) (Or.inl ⟨by rfl, ?ya006⟩) (by assumption) ?_
                    case ya006 => (intro wX hSw; (try dsimp only at hSw); go_simp <;> with_reducible rfl)
                    try simp only [Act.put, List.setIfInBounds_toArray, List.set_cons_zero, List.set_cons_succ]
                    refine wpAnyH_take (i := 7) (oi := { dst := some 68, op := Go.Op.move (Go.Operand.tmp 0), type := 35, pos := "law.go:125", after := #[], guard := none }) (v := ?va007) rfl (by kernel_rfl) (by kernel_rfl) (by kernel_rfl) (fun _ _ _ h => h) (Or.inl ⟨by rfl, ?ya007⟩) (by assumption) ?_
                    case ya007 => (intro wX hSw; (try dsimp only at hSw); go_simp <;> with_reducible rfl)
                    try simp only [Act.put, List.setIfInBounds_toArray, List.set_cons_zero, List.set_cons_succ]
                    refine wpAnyH_take (i := 8) (oi := { dst := some 69, op := Go.Op.move (Go.Operand.tmp 10), type := 3, pos := "law.go:125", after := #[], guard := none }) (v := ?va008) rfl (by kernel_rfl) (by kernel_rfl) (by kernel_rfl) (fun _ _ _ h => h) (Or.inl ⟨by rfl, ?ya008⟩) (by assumption) ?_
                    case ya008 => (intro wX hSw; (try dsimp only at hSw); go_simp <;> with_reducible rfl)
                    try simp only [Act.put, List.setIfInBounds_toArray, List.set_cons_zero, List.set_cons_succ]
                    refine wpAnyH_take (i := 9) (oi := { dst := some 70, op := Go.Op.indexAddr 35 (Go.Operand.tmp 68) (Go.Operand.tmp 69), type := 0, pos := "law.go:125", after := #[{ on := 7, ground := Go.Ground.data }, { on := 8, ground := Go.Ground.data }], guard := none }) (v := ?va009) rfl (by kernel_rfl) (by kernel_rfl) (by kernel_rfl) (fun _ _ _ h => h) (Or.inl ⟨by rfl, ?ya009⟩) (by assumption) ?_
                    case ya009 => (intro wX hSw; (try dsimp only at hSw); go_simp <;> with_reducible rfl)
                    try simp only [Act.put, List.setIfInBounds_toArray, List.set_cons_zero, List.set_cons_succ]
                    refine wpAnyH_take (i := 10) (oi := { dst := some 71, op := Go.Op.load 38 (Go.Operand.tmp 70), type := 38, pos := "law.go:125", after := #[{ on := 9, ground := Go.Ground.data }], guard := none }) (v := ?va0010) rfl (by kernel_rfl) (by kernel_rfl) (by kernel_rfl) (fun _ _ _ h => h) (Or.inl ⟨by rfl, ?ya0010⟩) (by assumption) ?_
                    case ya0010 => (intro wX hSw; (try dsimp only at hSw); go_simp <;> with_reducible rfl)
                    try simp only [Act.put, List.setIfInBounds_toArray, List.set_cons_zero, List.set_cons_succ]
                    refine wpAnyH_ready (rs := [5]) (by kernel_rfl) (by simp) (AllReadyH.cons (o := { dst := some 66, op := Go.Op.call { callee := Go.Callee.value (Go.Operand.func 24), args := #[Go.Operand.tmp 61, Go.Operand.tmp 65], argTypes := #[35, 38] }, type := 3, pos := "law.go:125", after := #[{ on := 0, ground := Go.Ground.data }, { on := 4, ground := Go.Ground.data }], guard := none }) rfl (fun K hK => ?_) AllReadyH.nil)
                    (go_simp; go_at_call 24; refine (cX _ ((Below.refl _ _).drew)).mono ?_; rintro e wc0 ⟨rfl, hbc0⟩)
                    refine hK.out _ _ (⟨(Below.refl _ _).drew.trans hbc0, FF.out _ ((Below.refl _ _).drew.trans hbc0)⟩) (fun hHeld => ?_)
                    clear hK K
                    try simp only [Act.put, List.setIfInBounds_toArray, List.set_cons_zero, List.set_cons_succ]
                    refine wpAnyH_ready (rs := [11]) (by kernel_rfl) (by simp) (AllReadyH.cons (o := { dst := some 72, op := Go.Op.call { callee := Go.Callee.value (Go.Operand.func 24), args := #[Go.Operand.tmp 67, Go.Operand.tmp 71], argTypes := #[35, 38] }, type := 3, pos := "law.go:125", after := #[{ on := 6, ground := Go.Ground.data }, { on := 10, ground := Go.Ground.data }, { on := 5, ground := Go.Ground.chain }], guard := none }) rfl (fun K hK => ?_) AllReadyH.nil)
                    (go_simp; go_at_call 24; refine (cL _ (hHeld.1)).mono ?_; rintro e wc1 ⟨rfl, hbc1⟩)
                    refine hK.out _ _ (⟨hHeld.1.trans (hbc1.mono hHeld.1.size), FF.out _ (hHeld.1.trans (hbc1.mono hHeld.1.size))⟩) (fun hHeld => ?_)
                    clear hK K
                    try simp only [Act.put, List.setIfInBounds_toArray, List.set_cons_zero, List.set_cons_succ]
                    refine wpAnyH_take (i := 12) (oi := { dst := some 73, op := Go.Op.binOp Go.BinOp.neq 3 (Go.Operand.tmp 66) (Go.Operand.tmp 72) 3, type := 4, pos := "law.go:125", after := #[{ on := 5, ground := Go.Ground.data }, { on := 11, ground := Go.Ground.data }], guard := none }) (v := ?va0012) rfl (by kernel_rfl) (by kernel_rfl) (by kernel_rfl) (fun _ _ _ h => h) (Or.inl ⟨by rfl, ?ya0012⟩) (by assumption) ?_
                    case ya0012 => (intro wX hSw; (try dsimp only at hSw); go_simp <;> with_reducible rfl)
                    try simp only [Act.put, List.setIfInBounds_toArray, List.set_cons_zero, List.set_cons_succ]
                    refine wpAnyH_take (i := 13) (oi := { dst := some 74, op := Go.Op.move (Go.Operand.tmp 73), type := 4, pos := "law.go:125", after := #[{ on := 12, ground := Go.Ground.data }, { on := 11, ground := Go.Ground.chain }], guard := none }) (v := ?va0013) rfl (by kernel_rfl) (by kernel_rfl) (by kernel_rfl) (fun _ _ _ h => h) (Or.inl ⟨by rfl, ?ya0013⟩) (by assumption) ?_
                    case ya0013 => (intro wX hSw; (try dsimp only at hSw); go_simp <;> with_reducible rfl)
                    try simp only [Act.put, List.setIfInBounds_toArray, List.set_cons_zero, List.set_cons_succ]
                    refine wpAnyH_take (i := 14) (oi := { dst := some 75, op := Go.Op.move (Go.Operand.tmp 8), type := 35, pos := "law.go:125", after := #[{ on := 13, ground := Go.Ground.guard }], guard := some (13, false) }) (v := ?va0014) rfl (by kernel_rfl) (by kernel_rfl) (by kernel_rfl) (fun _ _ _ h => h) (Or.inl ⟨by rfl, ?ya0014⟩) (by assumption) ?_
                    case ya0014 => (intro wX hSw; (try dsimp only at hSw); go_simp <;> with_reducible rfl)
                    try simp only [Act.put, List.setIfInBounds_toArray, List.set_cons_zero, List.set_cons_succ]
                    refine wpAnyH_take (i := 15) (oi := { dst := some 76, op := Go.Op.move (Go.Operand.tmp 10), type := 3, pos := "law.go:125", after := #[{ on := 13, ground := Go.Ground.guard }], guard := some (13, false) }) (v := ?va0015) rfl (by kernel_rfl) (by kernel_rfl) (by kernel_rfl) (fun _ _ _ h => h) (Or.inl ⟨by rfl, ?ya0015⟩) (by assumption) ?_
                    case ya0015 => (intro wX hSw; (try dsimp only at hSw); go_simp <;> with_reducible rfl)
                    try simp only [Act.put, List.setIfInBounds_toArray, List.set_cons_zero, List.set_cons_succ]
                    refine wpAnyH_take (i := 16) (oi := { dst := some 77, op := Go.Op.indexAddr 35 (Go.Operand.tmp 75) (Go.Operand.tmp 76), type := 0, pos := "law.go:125", after := #[{ on := 14, ground := Go.Ground.data }, { on := 15, ground := Go.Ground.data }, { on := 13, ground := Go.Ground.guard }], guard := some (13, false) }) (v := ?va0016) rfl (by kernel_rfl) (by kernel_rfl) (by kernel_rfl) (fun _ _ _ h => h) (Or.inl ⟨by rfl, ?ya0016⟩) (by assumption) ?_
                    case ya0016 => (intro wX hSw; (try dsimp only at hSw); go_simp <;> with_reducible rfl)
                    try simp only [Act.put, List.setIfInBounds_toArray, List.set_cons_zero, List.set_cons_succ]
                    refine wpAnyH_take (i := 17) (oi := { dst := some 78, op := Go.Op.load 38 (Go.Operand.tmp 77), type := 38, pos := "law.go:125", after := #[{ on := 16, ground := Go.Ground.data }, { on := 13, ground := Go.Ground.guard }], guard := some (13, false) }) (v := ?va0017) rfl (by kernel_rfl) (by kernel_rfl) (by kernel_rfl) (fun _ _ _ h => h) (Or.inl ⟨by rfl, ?ya0017⟩) (by assumption) ?_
                    case ya0017 => (intro wX hSw; (try dsimp only at hSw); go_simp <;> with_reducible rfl)
                    try simp only [Act.put, List.setIfInBounds_toArray, List.set_cons_zero, List.set_cons_succ]
                    refine wpAnyH_take (i := 18) (oi := { dst := some 79, op := Go.Op.move (Go.Operand.tmp 4), type := 35, pos := "law.go:125", after := #[{ on := 13, ground := Go.Ground.guard }], guard := some (13, false) }) (v := ?va0018) rfl (by kernel_rfl) (by kernel_rfl) (by kernel_rfl) (fun _ _ _ h => h) (Or.inl ⟨by rfl, ?ya0018⟩) (by assumption) ?_
                    case ya0018 => (intro wX hSw; (try dsimp only at hSw); go_simp <;> with_reducible rfl)
                    try simp only [Act.put, List.setIfInBounds_toArray, List.set_cons_zero, List.set_cons_succ]
                    refine wpAnyH_take (i := 19) (oi := { dst := some 80, op := Go.Op.move (Go.Operand.tmp 10), type := 3, pos := "law.go:125", after := #[{ on := 13, ground := Go.Ground.guard }], guard := some (13, false) }) (v := ?va0019) rfl (by kernel_rfl) (by kernel_rfl) (by kernel_rfl) (fun _ _ _ h => h) (Or.inl ⟨by rfl, ?ya0019⟩) (by assumption) ?_
                    case ya0019 => (intro wX hSw; (try dsimp only at hSw); go_simp <;> with_reducible rfl)
                    try simp only [Act.put, List.setIfInBounds_toArray, List.set_cons_zero, List.set_cons_succ]
                    refine wpAnyH_take (i := 20) (oi := { dst := some 81, op := Go.Op.indexAddr 35 (Go.Operand.tmp 79) (Go.Operand.tmp 80), type := 0, pos := "law.go:125", after := #[{ on := 18, ground := Go.Ground.data }, { on := 19, ground := Go.Ground.data }, { on := 13, ground := Go.Ground.guard }], guard := some (13, false) }) (v := ?va0020) rfl (by kernel_rfl) (by kernel_rfl) (by kernel_rfl) (fun _ _ _ h => h) (Or.inl ⟨by rfl, ?ya0020⟩) (by assumption) ?_
                    case ya0020 => (intro wX hSw; (try dsimp only at hSw); go_simp <;> with_reducible rfl)
                    try simp only [Act.put, List.setIfInBounds_toArray, List.set_cons_zero, List.set_cons_succ]
                    refine wpAnyH_take (i := 21) (oi := { dst := some 82, op := Go.Op.load 38 (Go.Operand.tmp 81), type := 38, pos := "law.go:125", after := #[{ on := 20, ground := Go.Ground.data }, { on := 13, ground := Go.Ground.guard }], guard := some (13, false) }) (v := ?va0021) rfl (by kernel_rfl) (by kernel_rfl) (by kernel_rfl) (fun _ _ _ h => h) (Or.inl ⟨by rfl, ?ya0021⟩) (by assumption) ?_
                    case ya0021 => (intro wX hSw; (try dsimp only at hSw); go_simp <;> with_reducible rfl)
                    try simp only [Act.put, List.setIfInBounds_toArray, List.set_cons_zero, List.set_cons_succ]
                    refine wpAnyH_take (i := 22) (oi := { dst := some 83, op := Go.Op.binOp Go.BinOp.neq 38 (Go.Operand.tmp 78) (Go.Operand.tmp 82) 38, type := 4, pos := "law.go:125", after := #[{ on := 17, ground := Go.Ground.data }, { on := 21, ground := Go.Ground.data }, { on := 13, ground := Go.Ground.guard }], guard := some (13, false) }) (v := ?va0022) rfl (by kernel_rfl) (by kernel_rfl) (by kernel_rfl) (fun _ _ _ h => h) (Or.inl ⟨by rfl, ?ya0022⟩) (by assumption) ?_
                    case ya0022 => (intro wX hSw; (try dsimp only at hSw); go_simp <;> with_reducible rfl)
                    try simp only [Act.put, List.setIfInBounds_toArray, List.set_cons_zero, List.set_cons_succ]
                    refine wpAnyH_take (i := 23) (oi := { dst := some 84, op := Go.Op.pick (Go.Operand.tmp 74) (Go.Operand.const (Go.Value.bool true)) (Go.Operand.tmp 83), type := 4, pos := "law.go:125", after := #[{ on := 13, ground := Go.Ground.data }, { on := 22, ground := Go.Ground.data }], guard := none }) (v := ?va0023) rfl (by kernel_rfl) (by kernel_rfl) (by kernel_rfl) (fun _ _ _ h => h) (Or.inl ⟨by rfl, ?ya0023⟩) (by assumption) ?_
                    case ya0023 => (intro wX hSw; (try dsimp only at hSw); go_simp <;> with_reducible rfl)
                    try simp only [Act.put, List.setIfInBounds_toArray, List.set_cons_zero, List.set_cons_succ]
                    refine wpAnyH_take (i := 24) (oi := { dst := some 85, op := Go.Op.move (Go.Operand.tmp 84), type := 4, pos := "law.go:125", after := #[{ on := 23, ground := Go.Ground.data }, { on := 13, ground := Go.Ground.chain }], guard := none }) (v := ?va0024) rfl (by kernel_rfl) (by kernel_rfl) (by kernel_rfl) (fun _ _ _ h => h) (Or.inl ⟨by rfl, ?ya0024⟩) (by assumption) ?_
                    case ya0024 => (intro wX hSw; (try dsimp only at hSw); go_simp <;> with_reducible rfl)
                    try simp only [Act.put, List.setIfInBounds_toArray, List.set_cons_zero, List.set_cons_succ]
                    refine wpAnyH_take (i := 25) (oi := { dst := some 86, op := Go.Op.move (Go.Operand.tmp 10), type := 3, pos := "law.go:125", after := #[{ on := 24, ground := Go.Ground.guard }], guard := some (24, false) }) (v := ?va0025) rfl (by kernel_rfl) (by kernel_rfl) (by kernel_rfl) (fun _ _ _ h => h) (Or.inl ⟨by rfl, ?ya0025⟩) (by assumption) ?_
                    case ya0025 => (intro wX hSw; (try dsimp only at hSw); go_simp <;> with_reducible rfl)
                    try simp only [Act.put, List.setIfInBounds_toArray, List.set_cons_zero, List.set_cons_succ]
                    refine wpAnyH_take (i := 26) (oi := { dst := some 87, op := Go.Op.binOp Go.BinOp.gtr 3 (Go.Operand.tmp 86) (Go.Operand.const (Go.Value.int Go.IntKind.i64 0)) 3, type := 4, pos := "law.go:125", after := #[{ on := 25, ground := Go.Ground.data }, { on := 24, ground := Go.Ground.guard }], guard := some (24, false) }) (v := ?va0026) rfl (by kernel_rfl) (by kernel_rfl) (by kernel_rfl) (fun _ _ _ h => h) (Or.inl ⟨by rfl, ?ya0026⟩) (by assumption) ?_
                    case ya0026 => (intro wX hSw; (try dsimp only at hSw); go_simp <;> with_reducible rfl)
                    try simp only [Act.put, List.setIfInBounds_toArray, List.set_cons_zero, List.set_cons_succ]
                    refine wpAnyH_take (i := 27) (oi := { dst := some 88, op := Go.Op.move (Go.Operand.tmp 87), type := 4, pos := "law.go:125", after := #[{ on := 26, ground := Go.Ground.data }, { on := 24, ground := Go.Ground.chain }, { on := 24, ground := Go.Ground.guard }], guard := some (24, false) }) (v := ?va0027) rfl (by kernel_rfl) (by kernel_rfl) (by kernel_rfl) (fun _ _ _ h => h) (Or.inl ⟨by rfl, ?ya0027⟩) (by assumption) ?_
                    case ya0027 => (intro wX hSw; (try dsimp only at hSw); go_simp <;> with_reducible rfl)
                    try simp only [Act.put, List.setIfInBounds_toArray, List.set_cons_zero, List.set_cons_succ]
                    refine wpAnyH_take (i := 28) (oi := { dst := some 89, op := Go.Op.move (Go.Operand.tmp 4), type := 35, pos := "law.go:125", after := #[{ on := 27, ground := Go.Ground.guard }], guard := some (27, true) }) (v := undef) rfl (by kernel_rfl) (by kernel_rfl) (by kernel_rfl) (fun _ _ _ h => h) (Or.inr ⟨by rfl, rfl⟩) (by assumption) ?_
                    try simp only [Act.put, List.setIfInBounds_toArray, List.set_cons_zero, List.set_cons_succ]
                    refine wpAnyH_take (i := 29) (oi := { dst := some 90, op := Go.Op.move (Go.Operand.tmp 10), type := 3, pos := "law.go:125", after := #[{ on := 27, ground := Go.Ground.guard }], guard := some (27, true) }) (v := undef) rfl (by kernel_rfl) (by kernel_rfl) (by kernel_rfl) (fun _ _ _ h => h) (Or.inr ⟨by rfl, rfl⟩) (by assumption) ?_
                    try simp only [Act.put, List.setIfInBounds_toArray, List.set_cons_zero, List.set_cons_succ]
                    refine wpAnyH_take (i := 30) (oi := { dst := some 91, op := Go.Op.indexAddr 35 (Go.Operand.tmp 89) (Go.Operand.tmp 90), type := 0, pos := "law.go:125", after := #[{ on := 28, ground := Go.Ground.data }, { on := 29, ground := Go.Ground.data }, { on := 27, ground := Go.Ground.guard }], guard := some (27, true) }) (v := undef) rfl (by kernel_rfl) (by kernel_rfl) (by kernel_rfl) (fun _ _ _ h => h) (Or.inr ⟨by rfl, rfl⟩) (by assumption) ?_
                    try simp only [Act.put, List.setIfInBounds_toArray, List.set_cons_zero, List.set_cons_succ]
                    refine wpAnyH_take (i := 31) (oi := { dst := some 92, op := Go.Op.load 38 (Go.Operand.tmp 91), type := 38, pos := "law.go:125", after := #[{ on := 30, ground := Go.Ground.data }, { on := 27, ground := Go.Ground.guard }], guard := some (27, true) }) (v := undef) rfl (by kernel_rfl) (by kernel_rfl) (by kernel_rfl) (fun _ _ _ h => h) (Or.inr ⟨by rfl, rfl⟩) (by assumption) ?_
                    try simp only [Act.put, List.setIfInBounds_toArray, List.set_cons_zero, List.set_cons_succ]
                    refine wpAnyH_take (i := 32) (oi := { dst := some 93, op := Go.Op.move (Go.Operand.tmp 4), type := 35, pos := "law.go:125", after := #[{ on := 27, ground := Go.Ground.guard }], guard := some (27, true) }) (v := undef) rfl (by kernel_rfl) (by kernel_rfl) (by kernel_rfl) (fun _ _ _ h => h) (Or.inr ⟨by rfl, rfl⟩) (by assumption) ?_
                    try simp only [Act.put, List.setIfInBounds_toArray, List.set_cons_zero, List.set_cons_succ]
                    refine wpAnyH_take (i := 33) (oi := { dst := some 94, op := Go.Op.move (Go.Operand.tmp 10), type := 3, pos := "law.go:125", after := #[{ on := 27, ground := Go.Ground.guard }], guard := some (27, true) }) (v := undef) rfl (by kernel_rfl) (by kernel_rfl) (by kernel_rfl) (fun _ _ _ h => h) (Or.inr ⟨by rfl, rfl⟩) (by assumption) ?_
                    try simp only [Act.put, List.setIfInBounds_toArray, List.set_cons_zero, List.set_cons_succ]
                    refine wpAnyH_take (i := 34) (oi := { dst := some 95, op := Go.Op.binOp Go.BinOp.sub 3 (Go.Operand.tmp 94) (Go.Operand.const (Go.Value.int Go.IntKind.i64 1)) 3, type := 3, pos := "law.go:125", after := #[{ on := 33, ground := Go.Ground.data }, { on := 27, ground := Go.Ground.guard }], guard := some (27, true) }) (v := undef) rfl (by kernel_rfl) (by kernel_rfl) (by kernel_rfl) (fun _ _ _ h => h) (Or.inr ⟨by rfl, rfl⟩) (by assumption) ?_
                    try simp only [Act.put, List.setIfInBounds_toArray, List.set_cons_zero, List.set_cons_succ]
                    refine wpAnyH_take (i := 35) (oi := { dst := some 96, op := Go.Op.indexAddr 35 (Go.Operand.tmp 93) (Go.Operand.tmp 95), type := 0, pos := "law.go:125", after := #[{ on := 32, ground := Go.Ground.data }, { on := 34, ground := Go.Ground.data }, { on := 27, ground := Go.Ground.guard }], guard := some (27, true) }) (v := undef) rfl (by kernel_rfl) (by kernel_rfl) (by kernel_rfl) (fun _ _ _ h => h) (Or.inr ⟨by rfl, rfl⟩) (by assumption) ?_
                    try simp only [Act.put, List.setIfInBounds_toArray, List.set_cons_zero, List.set_cons_succ]
                    refine wpAnyH_take (i := 36) (oi := { dst := some 97, op := Go.Op.load 38 (Go.Operand.tmp 96), type := 38, pos := "law.go:125", after := #[{ on := 35, ground := Go.Ground.data }, { on := 27, ground := Go.Ground.guard }], guard := some (27, true) }) (v := undef) rfl (by kernel_rfl) (by kernel_rfl) (by kernel_rfl) (fun _ _ _ h => h) (Or.inr ⟨by rfl, rfl⟩) (by assumption) ?_
                    try simp only [Act.put, List.setIfInBounds_toArray, List.set_cons_zero, List.set_cons_succ]
                    refine wpAnyH_take (i := 37) (oi := { dst := some 98, op := Go.Op.call { callee := Go.Callee.value (Go.Operand.func 16), args := #[Go.Operand.tmp 92, Go.Operand.tmp 97], argTypes := #[38, 38] }, type := 4, pos := "law.go:125", after := #[{ on := 31, ground := Go.Ground.data }, { on := 36, ground := Go.Ground.data }, { on := 27, ground := Go.Ground.chain }, { on := 27, ground := Go.Ground.guard }], guard := some (27, true) }) (v := undef) rfl (by kernel_rfl) (by kernel_rfl) (by kernel_rfl) (fun _ _ _ h => h) (Or.inr ⟨by rfl, rfl⟩) (by assumption) ?_
                    try simp only [Act.put, List.setIfInBounds_toArray, List.set_cons_zero, List.set_cons_succ]
                    refine wpAnyH_take (i := 38) (oi := { dst := some 99, op := Go.Op.pick (Go.Operand.tmp 88) (Go.Operand.tmp 98) (Go.Operand.const (Go.Value.bool false)), type := 4, pos := "law.go:125", after := #[{ on := 27, ground := Go.Ground.data }, { on := 37, ground := Go.Ground.data }, { on := 24, ground := Go.Ground.guard }], guard := some (24, false) }) (v := ?va0038) rfl (by kernel_rfl) (by kernel_rfl) (by kernel_rfl) (fun _ _ _ h => h) (Or.inl ⟨by rfl, ?ya0038⟩) (by assumption) ?_
                    case ya0038 => (intro wX hSw; (try dsimp only at hSw); go_simp <;> with_reducible rfl)
                    try simp only [Act.put, List.setIfInBounds_toArray, List.set_cons_zero, List.set_cons_succ]
                    refine wpAnyH_take (i := 39) (oi := { dst := some 100, op := Go.Op.pick (Go.Operand.tmp 85) (Go.Operand.const (Go.Value.bool true)) (Go.Operand.tmp 99), type := 4, pos := "law.go:125", after := #[{ on := 24, ground := Go.Ground.data }, { on := 38, ground := Go.Ground.data }], guard := none }) (v := ?va0039) rfl (by kernel_rfl) (by kernel_rfl) (by kernel_rfl) (fun _ _ _ h => h) (Or.inl ⟨by rfl, ?ya0039⟩) (by assumption) ?_
                    case ya0039 => (intro wX hSw; (try dsimp only at hSw); go_simp <;> with_reducible rfl)
                    try simp only [Act.put, List.setIfInBounds_toArray, List.set_cons_zero, List.set_cons_succ]
                    refine wpAnyH_take (i := 40) (oi := { dst := some 101, op := Go.Op.move (Go.Operand.tmp 100), type := 4, pos := "law.go:125", after := #[{ on := 39, ground := Go.Ground.data }, { on := 37, ground := Go.Ground.chain }], guard := none }) (v := ?va0040) rfl (by kernel_rfl) (by kernel_rfl) (by kernel_rfl) (fun _ _ _ h => h) (Or.inl ⟨by rfl, ?ya0040⟩) (by assumption) ?_
                    case ya0040 => (intro wX hSw; (try dsimp only at hSw); go_simp <;> with_reducible rfl)
                    try simp only [Act.put, List.setIfInBounds_toArray, List.set_cons_zero, List.set_cons_succ]
                    refine wpAnyH_take (i := 41) (oi := { dst := some 102, op := Go.Op.move (Go.Operand.tmp 9), type := 4, pos := "law.go:125", after := #[{ on := 40, ground := Go.Ground.guard }], guard := some (40, false) }) (v := ?va0041) rfl (by kernel_rfl) (by kernel_rfl) (by kernel_rfl) (fun _ _ _ h => h) (Or.inl ⟨by rfl, ?ya0041⟩) (by assumption) ?_
                    case ya0041 => (intro wX hSw; (try dsimp only at hSw); go_simp <;> with_reducible rfl)
                    try simp only [Act.put, List.setIfInBounds_toArray, List.set_cons_zero, List.set_cons_succ]
                    refine wpAnyH_take (i := 42) (oi := { dst := some 103, op := Go.Op.move (Go.Operand.tmp 102), type := 4, pos := "law.go:125", after := #[{ on := 41, ground := Go.Ground.data }, { on := 40, ground := Go.Ground.chain }, { on := 40, ground := Go.Ground.guard }], guard := some (40, false) }) (v := ?va0042) rfl (by kernel_rfl) (by kernel_rfl) (by kernel_rfl) (fun _ _ _ h => h) (Or.inl ⟨by rfl, ?ya0042⟩) (by assumption) ?_
                    case ya0042 => (intro wX hSw; (try dsimp only at hSw); go_simp <;> with_reducible rfl)
                    try simp only [Act.put, List.setIfInBounds_toArray, List.set_cons_zero, List.set_cons_succ]
                    refine wpAnyH_take (i := 43) (oi := { dst := some 104, op := Go.Op.move (Go.Operand.tmp 7), type := 35, pos := "law.go:125", after := #[{ on := 42, ground := Go.Ground.guard }], guard := some (42, true) }) (v := undef) rfl (by kernel_rfl) (by kernel_rfl) (by kernel_rfl) (fun _ _ _ h => h) (Or.inr ⟨by rfl, rfl⟩) (by assumption) ?_
                    try simp only [Act.put, List.setIfInBounds_toArray, List.set_cons_zero, List.set_cons_succ]
                    refine wpAnyH_take (i := 44) (oi := { dst := some 105, op := Go.Op.move (Go.Operand.tmp 10), type := 3, pos := "law.go:125", after := #[{ on := 42, ground := Go.Ground.guard }], guard := some (42, true) }) (v := undef) rfl (by kernel_rfl) (by kernel_rfl) (by kernel_rfl) (fun _ _ _ h => h) (Or.inr ⟨by rfl, rfl⟩) (by assumption) ?_
                    try simp only [Act.put, List.setIfInBounds_toArray, List.set_cons_zero, List.set_cons_succ]
                    refine wpAnyH_take (i := 45) (oi := { dst := some 106, op := Go.Op.indexAddr 35 (Go.Operand.tmp 104) (Go.Operand.tmp 105), type := 0, pos := "law.go:125", after := #[{ on := 43, ground := Go.Ground.data }, { on := 44, ground := Go.Ground.data }, { on := 42, ground := Go.Ground.guard }], guard := some (42, true) }) (v := undef) rfl (by kernel_rfl) (by kernel_rfl) (by kernel_rfl) (fun _ _ _ h => h) (Or.inr ⟨by rfl, rfl⟩) (by assumption) ?_
                    try simp only [Act.put, List.setIfInBounds_toArray, List.set_cons_zero, List.set_cons_succ]
                    refine wpAnyH_take (i := 46) (oi := { dst := some 107, op := Go.Op.load 38 (Go.Operand.tmp 106), type := 38, pos := "law.go:125", after := #[{ on := 45, ground := Go.Ground.data }, { on := 42, ground := Go.Ground.guard }], guard := some (42, true) }) (v := undef) rfl (by kernel_rfl) (by kernel_rfl) (by kernel_rfl) (fun _ _ _ h => h) (Or.inr ⟨by rfl, rfl⟩) (by assumption) ?_
                    try simp only [Act.put, List.setIfInBounds_toArray, List.set_cons_zero, List.set_cons_succ]
                    refine wpAnyH_take (i := 47) (oi := { dst := some 108, op := Go.Op.move (Go.Operand.tmp 4), type := 35, pos := "law.go:125", after := #[{ on := 42, ground := Go.Ground.guard }], guard := some (42, true) }) (v := undef) rfl (by kernel_rfl) (by kernel_rfl) (by kernel_rfl) (fun _ _ _ h => h) (Or.inr ⟨by rfl, rfl⟩) (by assumption) ?_
                    try simp only [Act.put, List.setIfInBounds_toArray, List.set_cons_zero, List.set_cons_succ]
                    refine wpAnyH_take (i := 48) (oi := { dst := some 109, op := Go.Op.move (Go.Operand.tmp 10), type := 3, pos := "law.go:125", after := #[{ on := 42, ground := Go.Ground.guard }], guard := some (42, true) }) (v := undef) rfl (by kernel_rfl) (by kernel_rfl) (by kernel_rfl) (fun _ _ _ h => h) (Or.inr ⟨by rfl, rfl⟩) (by assumption) ?_
                    try simp only [Act.put, List.setIfInBounds_toArray, List.set_cons_zero, List.set_cons_succ]
                    refine wpAnyH_take (i := 49) (oi := { dst := some 110, op := Go.Op.indexAddr 35 (Go.Operand.tmp 108) (Go.Operand.tmp 109), type := 0, pos := "law.go:125", after := #[{ on := 47, ground := Go.Ground.data }, { on := 48, ground := Go.Ground.data }, { on := 42, ground := Go.Ground.guard }], guard := some (42, true) }) (v := undef) rfl (by kernel_rfl) (by kernel_rfl) (by kernel_rfl) (fun _ _ _ h => h) (Or.inr ⟨by rfl, rfl⟩) (by assumption) ?_
                    try simp only [Act.put, List.setIfInBounds_toArray, List.set_cons_zero, List.set_cons_succ]
                    refine wpAnyH_take (i := 50) (oi := { dst := some 111, op := Go.Op.load 38 (Go.Operand.tmp 110), type := 38, pos := "law.go:125", after := #[{ on := 49, ground := Go.Ground.data }, { on := 42, ground := Go.Ground.guard }], guard := some (42, true) }) (v := undef) rfl (by kernel_rfl) (by kernel_rfl) (by kernel_rfl) (fun _ _ _ h => h) (Or.inr ⟨by rfl, rfl⟩) (by assumption) ?_
                    try simp only [Act.put, List.setIfInBounds_toArray, List.set_cons_zero, List.set_cons_succ]
                    refine wpAnyH_take (i := 51) (oi := { dst := some 112, op := Go.Op.binOp Go.BinOp.neq 38 (Go.Operand.tmp 107) (Go.Operand.tmp 111) 38, type := 4, pos := "law.go:125", after := #[{ on := 46, ground := Go.Ground.data }, { on := 50, ground := Go.Ground.data }, { on := 42, ground := Go.Ground.guard }], guard := some (42, true) }) (v := undef) rfl (by kernel_rfl) (by kernel_rfl) (by kernel_rfl) (fun _ _ _ h => h) (Or.inr ⟨by rfl, rfl⟩) (by assumption) ?_
                    try simp only [Act.put, List.setIfInBounds_toArray, List.set_cons_zero, List.set_cons_succ]
                    refine wpAnyH_take (i := 52) (oi := { dst := some 113, op := Go.Op.move (Go.Operand.tmp 112), type := 4, pos := "law.go:125", after := #[{ on := 51, ground := Go.Ground.data }, { on := 42, ground := Go.Ground.chain }, { on := 42, ground := Go.Ground.guard }], guard := some (42, true) }) (v := undef) rfl (by kernel_rfl) (by kernel_rfl) (by kernel_rfl) (fun _ _ _ h => h) (Or.inr ⟨by rfl, rfl⟩) (by assumption) ?_
                    try simp only [Act.put, List.setIfInBounds_toArray, List.set_cons_zero, List.set_cons_succ]
                    refine wpAnyH_take (i := 53) (oi := { dst := some 114, op := Go.Op.move (Go.Operand.tmp 10), type := 3, pos := "law.go:125", after := #[{ on := 52, ground := Go.Ground.guard }], guard := some (52, false) }) (v := undef) rfl (by kernel_rfl) (by kernel_rfl) (by kernel_rfl) (fun _ _ _ h => h) (Or.inr ⟨by rfl, rfl⟩) (by assumption) ?_
                    try simp only [Act.put, List.setIfInBounds_toArray, List.set_cons_zero, List.set_cons_succ]
                    refine wpAnyH_take (i := 54) (oi := { dst := some 115, op := Go.Op.binOp Go.BinOp.gtr 3 (Go.Operand.tmp 114) (Go.Operand.const (Go.Value.int Go.IntKind.i64 0)) 3, type := 4, pos := "law.go:125", after := #[{ on := 53, ground := Go.Ground.data }, { on := 52, ground := Go.Ground.guard }], guard := some (52, false) }) (v := undef) rfl (by kernel_rfl) (by kernel_rfl) (by kernel_rfl) (fun _ _ _ h => h) (Or.inr ⟨by rfl, rfl⟩) (by assumption) ?_
                    try simp only [Act.put, List.setIfInBounds_toArray, List.set_cons_zero, List.set_cons_succ]
                    refine wpAnyH_take (i := 55) (oi := { dst := some 116, op := Go.Op.move (Go.Operand.tmp 115), type := 4, pos := "law.go:125", after := #[{ on := 54, ground := Go.Ground.data }, { on := 52, ground := Go.Ground.chain }, { on := 52, ground := Go.Ground.guard }], guard := some (52, false) }) (v := undef) rfl (by kernel_rfl) (by kernel_rfl) (by kernel_rfl) (fun _ _ _ h => h) (Or.inr ⟨by rfl, rfl⟩) (by assumption) ?_
                    try simp only [Act.put, List.setIfInBounds_toArray, List.set_cons_zero, List.set_cons_succ]
                    refine wpAnyH_take (i := 56) (oi := { dst := some 117, op := Go.Op.move (Go.Operand.tmp 4), type := 35, pos := "law.go:125", after := #[{ on := 55, ground := Go.Ground.guard }], guard := some (55, true) }) (v := undef) rfl (by kernel_rfl) (by kernel_rfl) (by kernel_rfl) (fun _ _ _ h => h) (Or.inr ⟨by rfl, rfl⟩) (by assumption) ?_
                    try simp only [Act.put, List.setIfInBounds_toArray, List.set_cons_zero, List.set_cons_succ]
                    refine wpAnyH_take (i := 57) (oi := { dst := some 118, op := Go.Op.move (Go.Operand.tmp 10), type := 3, pos := "law.go:125", after := #[{ on := 55, ground := Go.Ground.guard }], guard := some (55, true) }) (v := undef) rfl (by kernel_rfl) (by kernel_rfl) (by kernel_rfl) (fun _ _ _ h => h) (Or.inr ⟨by rfl, rfl⟩) (by assumption) ?_
                    try simp only [Act.put, List.setIfInBounds_toArray, List.set_cons_zero, List.set_cons_succ]
                    refine wpAnyH_take (i := 58) (oi := { dst := some 119, op := Go.Op.binOp Go.BinOp.sub 3 (Go.Operand.tmp 118) (Go.Operand.const (Go.Value.int Go.IntKind.i64 1)) 3, type := 3, pos := "law.go:125", after := #[{ on := 57, ground := Go.Ground.data }, { on := 55, ground := Go.Ground.guard }], guard := some (55, true) }) (v := undef) rfl (by kernel_rfl) (by kernel_rfl) (by kernel_rfl) (fun _ _ _ h => h) (Or.inr ⟨by rfl, rfl⟩) (by assumption) ?_
                    try simp only [Act.put, List.setIfInBounds_toArray, List.set_cons_zero, List.set_cons_succ]
                    refine wpAnyH_take (i := 59) (oi := { dst := some 120, op := Go.Op.indexAddr 35 (Go.Operand.tmp 117) (Go.Operand.tmp 119), type := 0, pos := "law.go:125", after := #[{ on := 56, ground := Go.Ground.data }, { on := 58, ground := Go.Ground.data }, { on := 55, ground := Go.Ground.guard }], guard := some (55, true) }) (v := undef) rfl (by kernel_rfl) (by kernel_rfl) (by kernel_rfl) (fun _ _ _ h => h) (Or.inr ⟨by rfl, rfl⟩) (by assumption) ?_
                    try simp only [Act.put, List.setIfInBounds_toArray, List.set_cons_zero, List.set_cons_succ]
                    refine wpAnyH_take (i := 60) (oi := { dst := some 121, op := Go.Op.load 38 (Go.Operand.tmp 120), type := 38, pos := "law.go:125", after := #[{ on := 59, ground := Go.Ground.data }, { on := 55, ground := Go.Ground.guard }], guard := some (55, true) }) (v := undef) rfl (by kernel_rfl) (by kernel_rfl) (by kernel_rfl) (fun _ _ _ h => h) (Or.inr ⟨by rfl, rfl⟩) (by assumption) ?_
                    try simp only [Act.put, List.setIfInBounds_toArray, List.set_cons_zero, List.set_cons_succ]
                    refine wpAnyH_take (i := 61) (oi := { dst := some 122, op := Go.Op.move (Go.Operand.tmp 4), type := 35, pos := "law.go:125", after := #[{ on := 55, ground := Go.Ground.guard }], guard := some (55, true) }) (v := undef) rfl (by kernel_rfl) (by kernel_rfl) (by kernel_rfl) (fun _ _ _ h => h) (Or.inr ⟨by rfl, rfl⟩) (by assumption) ?_
                    try simp only [Act.put, List.setIfInBounds_toArray, List.set_cons_zero, List.set_cons_succ]
                    refine wpAnyH_take (i := 62) (oi := { dst := some 123, op := Go.Op.move (Go.Operand.tmp 10), type := 3, pos := "law.go:125", after := #[{ on := 55, ground := Go.Ground.guard }], guard := some (55, true) }) (v := undef) rfl (by kernel_rfl) (by kernel_rfl) (by kernel_rfl) (fun _ _ _ h => h) (Or.inr ⟨by rfl, rfl⟩) (by assumption) ?_
                    try simp only [Act.put, List.setIfInBounds_toArray, List.set_cons_zero, List.set_cons_succ]
                    refine wpAnyH_take (i := 63) (oi := { dst := some 124, op := Go.Op.indexAddr 35 (Go.Operand.tmp 122) (Go.Operand.tmp 123), type := 0, pos := "law.go:125", after := #[{ on := 61, ground := Go.Ground.data }, { on := 62, ground := Go.Ground.data }, { on := 55, ground := Go.Ground.guard }], guard := some (55, true) }) (v := undef) rfl (by kernel_rfl) (by kernel_rfl) (by kernel_rfl) (fun _ _ _ h => h) (Or.inr ⟨by rfl, rfl⟩) (by assumption) ?_
                    try simp only [Act.put, List.setIfInBounds_toArray, List.set_cons_zero, List.set_cons_succ]
                    refine wpAnyH_take (i := 64) (oi := { dst := some 125, op := Go.Op.load 38 (Go.Operand.tmp 124), type := 38, pos := "law.go:125", after := #[{ on := 63, ground := Go.Ground.data }, { on := 55, ground := Go.Ground.guard }], guard := some (55, true) }) (v := undef) rfl (by kernel_rfl) (by kernel_rfl) (by kernel_rfl) (fun _ _ _ h => h) (Or.inr ⟨by rfl, rfl⟩) (by assumption) ?_
                    try simp only [Act.put, List.setIfInBounds_toArray, List.set_cons_zero, List.set_cons_succ]
                    refine wpAnyH_take (i := 65) (oi := { dst := some 126, op := Go.Op.call { callee := Go.Callee.value (Go.Operand.func 16), args := #[Go.Operand.tmp 121, Go.Operand.tmp 125], argTypes := #[38, 38] }, type := 4, pos := "law.go:125", after := #[{ on := 60, ground := Go.Ground.data }, { on := 64, ground := Go.Ground.data }, { on := 55, ground := Go.Ground.chain }, { on := 55, ground := Go.Ground.guard }], guard := some (55, true) }) (v := undef) rfl (by kernel_rfl) (by kernel_rfl) (by kernel_rfl) (fun _ _ _ h => h) (Or.inr ⟨by rfl, rfl⟩) (by assumption) ?_
                    try simp only [Act.put, List.setIfInBounds_toArray, List.set_cons_zero, List.set_cons_succ]
                    refine wpAnyH_take (i := 66) (oi := { dst := some 127, op := Go.Op.unOp Go.UnOp.not 4 (Go.Operand.tmp 126), type := 4, pos := "law.go:125", after := #[{ on := 65, ground := Go.Ground.data }, { on := 55, ground := Go.Ground.guard }], guard := some (55, true) }) (v := undef) rfl (by kernel_rfl) (by kernel_rfl) (by kernel_rfl) (fun _ _ _ h => h) (Or.inr ⟨by rfl, rfl⟩) (by assumption) ?_
                    try simp only [Act.put, List.setIfInBounds_toArray, List.set_cons_zero, List.set_cons_succ]
                    refine wpAnyH_take (i := 67) (oi := { dst := some 128, op := Go.Op.pick (Go.Operand.tmp 116) (Go.Operand.tmp 127) (Go.Operand.const (Go.Value.bool false)), type := 4, pos := "law.go:125", after := #[{ on := 55, ground := Go.Ground.data }, { on := 66, ground := Go.Ground.data }, { on := 52, ground := Go.Ground.guard }], guard := some (52, false) }) (v := undef) rfl (by kernel_rfl) (by kernel_rfl) (by kernel_rfl) (fun _ _ _ h => h) (Or.inr ⟨by rfl, rfl⟩) (by assumption) ?_
                    try simp only [Act.put, List.setIfInBounds_toArray, List.set_cons_zero, List.set_cons_succ]
                    refine wpAnyH_take (i := 68) (oi := { dst := some 129, op := Go.Op.pick (Go.Operand.tmp 113) (Go.Operand.const (Go.Value.bool true)) (Go.Operand.tmp 128), type := 4, pos := "law.go:125", after := #[{ on := 52, ground := Go.Ground.data }, { on := 67, ground := Go.Ground.data }, { on := 42, ground := Go.Ground.guard }], guard := some (42, true) }) (v := undef) rfl (by kernel_rfl) (by kernel_rfl) (by kernel_rfl) (fun _ _ _ h => h) (Or.inr ⟨by rfl, rfl⟩) (by assumption) ?_
                    try simp only [Act.put, List.setIfInBounds_toArray, List.set_cons_zero, List.set_cons_succ]
                    refine wpAnyH_take (i := 69) (oi := { dst := some 130, op := Go.Op.pick (Go.Operand.tmp 103) (Go.Operand.tmp 129) (Go.Operand.const (Go.Value.bool false)), type := 4, pos := "law.go:125", after := #[{ on := 42, ground := Go.Ground.data }, { on := 68, ground := Go.Ground.data }, { on := 40, ground := Go.Ground.guard }], guard := some (40, false) }) (v := ?va0069) rfl (by kernel_rfl) (by kernel_rfl) (by kernel_rfl) (fun _ _ _ h => h) (Or.inl ⟨by rfl, ?ya0069⟩) (by assumption) ?_
                    case ya0069 => (intro wX hSw; (try dsimp only at hSw); go_simp <;> with_reducible rfl)
                    try simp only [Act.put, List.setIfInBounds_toArray, List.set_cons_zero, List.set_cons_succ]
                    refine wpAnyH_take (i := 70) (oi := { dst := some 131, op := Go.Op.pick (Go.Operand.tmp 101) (Go.Operand.const (Go.Value.bool true)) (Go.Operand.tmp 130), type := 4, pos := "law.go:125", after := #[{ on := 40, ground := Go.Ground.data }, { on := 69, ground := Go.Ground.data }], guard := none }) (v := ?va0070) rfl (by kernel_rfl) (by kernel_rfl) (by kernel_rfl) (fun _ _ _ h => h) (Or.inl ⟨by rfl, ?ya0070⟩) (by assumption) ?_
                    case ya0070 => (intro wX hSw; (try dsimp only at hSw); go_simp <;> with_reducible rfl)
                    try simp only [Act.put, List.setIfInBounds_toArray, List.set_cons_zero, List.set_cons_succ]
                    refine wpAnyH_done (by kernel_rfl) ?_ _
                    go_wp2
                    go_meet
                    exact ⟨by first | rfl | simp, hHeld.1⟩
              · obtain ⟨i', hi'⟩ : ∃ i', i' + 1 = i := ⟨i - 1, by omega⟩
                have di : decide ((0 : Int) < (i : Int)) = true := decide_eq_true (by omega)
                have diN : decide (0 < i) = true := decide_eq_true (by omega)
                have wi' : IntKind.i64.wrap ((i : Int) - 1) = (i' : Int) := by rw [IntWalk.i64_in _ (by omega)]; omega
                have bi' : (i' : Int) < (n : Int) := by omega
                obtain ⟨Pp, hpi⟩ : ∃ c : Card, X[i']? = some c := ⟨_, List.getElem?_eq_getElem (by have := HXl.out; omega)⟩
                obtain ⟨pi, pb, ps, pt, pa, pr⟩ := Pp
                have HP := Lib.hid hpi
                have cA : ∀ W, Calls Tryd.prog 16 #[.agg #[.string (bs xi), .string (bs xb), .int .i64 xs, .int .i64 xt, .int .i64 xa, .string (bs xr)], .agg #[.string (bs pi), .string (bs pb), .int .i64 ps, .int .i64 pt, .int .i64 pa, .string (bs pr)]] W (BoolPost W false) := fun W => by
                  have := less_any ⟨xi, xb, xs, xt, xa, xr⟩ ⟨pi, pb, ps, pt, pa, pr⟩ W
                  rw [srt_get HS.out HP.out HXi.out (by omega)] at this
                  exact this
                cases ap with
                | true =>
                  have hD := HAP.out rfl
                  have HYi : Hid (Y[i]? = some ⟨xi, xb, xs, xt, xa, xr⟩) := by rw [Hid, HD.out hD]; exact HXi.out
                  have cB : ∀ W, Calls Tryd.prog 16 #[.agg #[.string (bs pi), .string (bs pb), .int .i64 ps, .int .i64 pt, .int .i64 pa, .string (bs pr)], .agg #[.string (bs xi), .string (bs xb), .int .i64 xs, .int .i64 xt, .int .i64 xa, .string (bs xr)]] W (BoolPost W true) := fun W => by
                    have := less_any ⟨pi, pb, ps, pt, pa, pr⟩ ⟨xi, xb, xs, xt, xa, xr⟩ W
                    rw [HDL.out hD i' _ _ HP.out (by rw [hi']; exact HXi.out)] at this
                    exact this
                  clear HD HDL HS HAP HN HM HXl HYl hB6 hi' hi0 hpi hD
                  as_aux_lemma =>
                    have FF : Hid (∀ W, Below wr.heap.size wr W → (W.cell? ⟨b, o + i * 6, none⟩ = some (.string (bs ci)) ∧ W.cell? ⟨b, o + i * 6 + 1, none⟩ = some (.string (bs cb)) ∧ W.cell? ⟨b, o + i * 6 + 2, none⟩ = some (.int .i64 cs) ∧ W.cell? ⟨b, o + i * 6 + 3, none⟩ = some (.int .i64 ct) ∧ W.cell? ⟨b, o + i * 6 + 4, none⟩ = some (.int .i64 ca) ∧ W.cell? ⟨b, o + i * 6 + 5, none⟩ = some (.string (bs cr))) ∧ (W.cell? ⟨b4, o4 + i * 6, none⟩ = some (.string (bs xi)) ∧ W.cell? ⟨b4, o4 + i * 6 + 1, none⟩ = some (.string (bs xb)) ∧ W.cell? ⟨b4, o4 + i * 6 + 2, none⟩ = some (.int .i64 xs) ∧ W.cell? ⟨b4, o4 + i * 6 + 3, none⟩ = some (.int .i64 xt) ∧ W.cell? ⟨b4, o4 + i * 6 + 4, none⟩ = some (.int .i64 xa) ∧ W.cell? ⟨b4, o4 + i * 6 + 5, none⟩ = some (.string (bs xr))) ∧ (W.cell? ⟨b8, o8 + i * 6, none⟩ = some (.string (bs xi)) ∧ W.cell? ⟨b8, o8 + i * 6 + 1, none⟩ = some (.string (bs xb)) ∧ W.cell? ⟨b8, o8 + i * 6 + 2, none⟩ = some (.int .i64 xs) ∧ W.cell? ⟨b8, o8 + i * 6 + 3, none⟩ = some (.int .i64 xt) ∧ W.cell? ⟨b8, o8 + i * 6 + 4, none⟩ = some (.int .i64 xa) ∧ W.cell? ⟨b8, o8 + i * 6 + 5, none⟩ = some (.string (bs xr))) ∧ (W.cell? ⟨b4, o4 + i' * 6, none⟩ = some (.string (bs pi)) ∧ W.cell? ⟨b4, o4 + i' * 6 + 1, none⟩ = some (.string (bs pb)) ∧ W.cell? ⟨b4, o4 + i' * 6 + 2, none⟩ = some (.int .i64 ps) ∧ W.cell? ⟨b4, o4 + i' * 6 + 3, none⟩ = some (.int .i64 pt) ∧ W.cell? ⟨b4, o4 + i' * 6 + 4, none⟩ = some (.int .i64 pa) ∧ W.cell? ⟨b4, o4 + i' * 6 + 5, none⟩ = some (.string (bs pr))) ∧ (W.cell? ⟨b7, o7 + i * 6, none⟩ = some (.string (bs xi)) ∧ W.cell? ⟨b7, o7 + i * 6 + 1, none⟩ = some (.string (bs xb)) ∧ W.cell? ⟨b7, o7 + i * 6 + 2, none⟩ = some (.int .i64 xs) ∧ W.cell? ⟨b7, o7 + i * 6 + 3, none⟩ = some (.int .i64 xt) ∧ W.cell? ⟨b7, o7 + i * 6 + 4, none⟩ = some (.int .i64 xa) ∧ W.cell? ⟨b7, o7 + i * 6 + 5, none⟩ = some (.string (bs xr)))) := fun W hW => by
                      have hbw := HBR.out.trans (hW.mono HBR.out.size)
                      exact ⟨(RL.out.below hbw).cells HC.out, (RX.out.below hbw).cells HXi.out, (RZ.out.below hbw).cells HXi.out, (RX.out.below hbw).cells HP.out, (RY.out.below hbw).cells HYi.out⟩
                    have gx := FF.out _ (Below.refl _ _).drew
                    clear HC HXi RL RX RY RZ HBR HP HYi
                    refine wp_region_held_drew (S := (fun W => Below wr.heap.size wr W ∧ (W.cell? ⟨b, o + i * 6, none⟩ = some (.string (bs ci)) ∧ W.cell? ⟨b, o + i * 6 + 1, none⟩ = some (.string (bs cb)) ∧ W.cell? ⟨b, o + i * 6 + 2, none⟩ = some (.int .i64 cs) ∧ W.cell? ⟨b, o + i * 6 + 3, none⟩ = some (.int .i64 ct) ∧ W.cell? ⟨b, o + i * 6 + 4, none⟩ = some (.int .i64 ca) ∧ W.cell? ⟨b, o + i * 6 + 5, none⟩ = some (.string (bs cr))) ∧ (W.cell? ⟨b4, o4 + i * 6, none⟩ = some (.string (bs xi)) ∧ W.cell? ⟨b4, o4 + i * 6 + 1, none⟩ = some (.string (bs xb)) ∧ W.cell? ⟨b4, o4 + i * 6 + 2, none⟩ = some (.int .i64 xs) ∧ W.cell? ⟨b4, o4 + i * 6 + 3, none⟩ = some (.int .i64 xt) ∧ W.cell? ⟨b4, o4 + i * 6 + 4, none⟩ = some (.int .i64 xa) ∧ W.cell? ⟨b4, o4 + i * 6 + 5, none⟩ = some (.string (bs xr))) ∧ (W.cell? ⟨b8, o8 + i * 6, none⟩ = some (.string (bs xi)) ∧ W.cell? ⟨b8, o8 + i * 6 + 1, none⟩ = some (.string (bs xb)) ∧ W.cell? ⟨b8, o8 + i * 6 + 2, none⟩ = some (.int .i64 xs) ∧ W.cell? ⟨b8, o8 + i * 6 + 3, none⟩ = some (.int .i64 xt) ∧ W.cell? ⟨b8, o8 + i * 6 + 4, none⟩ = some (.int .i64 xa) ∧ W.cell? ⟨b8, o8 + i * 6 + 5, none⟩ = some (.string (bs xr))) ∧ (W.cell? ⟨b4, o4 + i' * 6, none⟩ = some (.string (bs pi)) ∧ W.cell? ⟨b4, o4 + i' * 6 + 1, none⟩ = some (.string (bs pb)) ∧ W.cell? ⟨b4, o4 + i' * 6 + 2, none⟩ = some (.int .i64 ps) ∧ W.cell? ⟨b4, o4 + i' * 6 + 3, none⟩ = some (.int .i64 pt) ∧ W.cell? ⟨b4, o4 + i' * 6 + 4, none⟩ = some (.int .i64 pa) ∧ W.cell? ⟨b4, o4 + i' * 6 + 5, none⟩ = some (.string (bs pr))) ∧ (W.cell? ⟨b7, o7 + i * 6, none⟩ = some (.string (bs xi)) ∧ W.cell? ⟨b7, o7 + i * 6 + 1, none⟩ = some (.string (bs xb)) ∧ W.cell? ⟨b7, o7 + i * 6 + 2, none⟩ = some (.int .i64 xs) ∧ W.cell? ⟨b7, o7 + i * 6 + 3, none⟩ = some (.int .i64 xt) ∧ W.cell? ⟨b7, o7 + i * 6 + 4, none⟩ = some (.int .i64 xa) ∧ W.cell? ⟨b7, o7 + i * 6 + 5, none⟩ = some (.string (bs xr))))) (by kernel_rfl) (⟨(Below.refl _ _).drew, FF.out _ (Below.refl _ _).drew⟩) (fun hHeld => ?_)
                    refine wpAnyH_take (i := 0) (oi := { dst := some 61, op := Go.Op.move (Go.Operand.tmp 4), type := 35, pos := "law.go:125", after := #[], guard := none }) (v := ?va110) rfl (by kernel_rfl) (by kernel_rfl) (by kernel_rfl) (fun _ _ _ h => h) (Or.inl ⟨by rfl, ?ya110⟩) (by assumption) ?_
                    case ya110 => (intro wX hSw; (try dsimp only at hSw); go_simp <;> with_reducible rfl)
                    try simp only [Act.put, List.setIfInBounds_toArray, List.set_cons_zero, List.set_cons_succ]
                    refine wpAnyH_take (i := 1) (oi := { dst := some 62, op := Go.Op.move (Go.Operand.tmp 0), type := 35, pos := "law.go:125", after := #[], guard := none }) (v := ?va111) rfl (by kernel_rfl) (by kernel_rfl) (by kernel_rfl) (fun _ _ _ h => h) (Or.inl ⟨by rfl, ?ya111⟩) (by assumption) ?_
                    case ya111 => (intro wX hSw; (try dsimp only at hSw); go_simp <;> with_reducible rfl)
                    try simp only [Act.put, List.setIfInBounds_toArray, List.set_cons_zero, List.set_cons_succ]
                    refine wpAnyH_take (i := 2) (oi := { dst := some 63, op := Go.Op.move (Go.Operand.tmp 10), type := 3, pos := "law.go:125", after := #[], guard := none }) (v := ?va112) rfl (by kernel_rfl) (by kernel_rfl) (by kernel_rfl) (fun _ _ _ h => h) (Or.inl ⟨by rfl, ?ya112⟩) (by assumption) ?_
                    case ya112 => (intro wX hSw; (try dsimp only at hSw); go_simp <;> with_reducible rfl)
                    try simp only [Act.put, List.setIfInBounds_toArray, List.set_cons_zero, List.set_cons_succ]
                    refine wpAnyH_take (i := 3) (oi := { dst := some 64, op := Go.Op.indexAddr 35 (Go.Operand.tmp 62) (Go.Operand.tmp 63), type := 0, pos := "law.go:125", after := #[{ on := 1, ground := Go.Ground.data }, { on := 2, ground := Go.Ground.data }], guard := none }) (v := ?va113) rfl (by kernel_rfl) (by kernel_rfl) (by kernel_rfl) (fun _ _ _ h => h) (Or.inl ⟨by rfl, ?ya113⟩) (by assumption) ?_
                    case ya113 => (intro wX hSw; (try dsimp only at hSw); go_simp <;> with_reducible rfl)
                    try simp only [Act.put, List.setIfInBounds_toArray, List.set_cons_zero, List.set_cons_succ]
                    refine wpAnyH_take (i := 4) (oi := { dst := some 65, op := Go.Op.load 38 (Go.Operand.tmp 64), type := 38, pos := "law.go:125", after := #[{ on := 3, ground := Go.Ground.data }], guard := none }) (v := ?va114) rfl (by kernel_rfl) (by kernel_rfl) (by kernel_rfl) (fun _ _ _ h => h) (Or.inl ⟨by rfl, ?ya114⟩) (by assumption) ?_
                    case ya114 => (intro wX hSw; (try dsimp only at hSw); go_simp <;> with_reducible rfl)
                    try simp only [Act.put, List.setIfInBounds_toArray, List.set_cons_zero, List.set_cons_succ]
                    refine wpAnyH_take (i := 6) (oi := { dst := some 67, op := Go.Op.move (Go.Operand.tmp 0), type := 35, pos := "law.go:125", after := #[], guard := none }) (v := ?va116) rfl (by kernel_rfl) (by kernel_rfl) (by kernel_rfl) (fun _ _ _ h => h) (Or.inl ⟨by rfl, ?ya116⟩) (by assumption) ?_
                    case ya116 => (intro wX hSw; (try dsimp only at hSw); go_simp <;> with_reducible rfl)
                    try simp only [Act.put, List.setIfInBounds_toArray, List.set_cons_zero, List.set_cons_succ]
                    refine wpAnyH_take (i := 7) (oi := { dst := some 68, op := Go.Op.move (Go.Operand.tmp 0), type := 35, pos := "law.go:125", after := #[], guard := none }) (v := ?va117) rfl (by kernel_rfl) (by kernel_rfl) (by kernel_rfl) (fun _ _ _ h => h) (Or.inl ⟨by rfl, ?ya117⟩) (by assumption) ?_
                    case ya117 => (intro wX hSw; (try dsimp only at hSw); go_simp <;> with_reducible rfl)
                    try simp only [Act.put, List.setIfInBounds_toArray, List.set_cons_zero, List.set_cons_succ]
                    refine wpAnyH_take (i := 8) (oi := { dst := some 69, op := Go.Op.move (Go.Operand.tmp 10), type := 3, pos := "law.go:125", after := #[], guard := none }) (v := ?va118) rfl (by kernel_rfl) (by kernel_rfl) (by kernel_rfl) (fun _ _ _ h => h) (Or.inl ⟨by rfl, ?ya118⟩) (by assumption) ?_
                    case ya118 => (intro wX hSw; (try dsimp only at hSw); go_simp <;> with_reducible rfl)
                    try simp only [Act.put, List.setIfInBounds_toArray, List.set_cons_zero, List.set_cons_succ]
                    refine wpAnyH_take (i := 9) (oi := { dst := some 70, op := Go.Op.indexAddr 35 (Go.Operand.tmp 68) (Go.Operand.tmp 69), type := 0, pos := "law.go:125", after := #[{ on := 7, ground := Go.Ground.data }, { on := 8, ground := Go.Ground.data }], guard := none }) (v := ?va119) rfl (by kernel_rfl) (by kernel_rfl) (by kernel_rfl) (fun _ _ _ h => h) (Or.inl ⟨by rfl, ?ya119⟩) (by assumption) ?_
                    case ya119 => (intro wX hSw; (try dsimp only at hSw); go_simp <;> with_reducible rfl)
                    try simp only [Act.put, List.setIfInBounds_toArray, List.set_cons_zero, List.set_cons_succ]
                    refine wpAnyH_take (i := 10) (oi := { dst := some 71, op := Go.Op.load 38 (Go.Operand.tmp 70), type := 38, pos := "law.go:125", after := #[{ on := 9, ground := Go.Ground.data }], guard := none }) (v := ?va1110) rfl (by kernel_rfl) (by kernel_rfl) (by kernel_rfl) (fun _ _ _ h => h) (Or.inl ⟨by rfl, ?ya1110⟩) (by assumption) ?_
                    case ya1110 => (intro wX hSw; (try dsimp only at hSw); go_simp <;> with_reducible rfl)
                    try simp only [Act.put, List.setIfInBounds_toArray, List.set_cons_zero, List.set_cons_succ]
                    refine wpAnyH_ready (rs := [5]) (by kernel_rfl) (by simp) (AllReadyH.cons (o := { dst := some 66, op := Go.Op.call { callee := Go.Callee.value (Go.Operand.func 24), args := #[Go.Operand.tmp 61, Go.Operand.tmp 65], argTypes := #[35, 38] }, type := 3, pos := "law.go:125", after := #[{ on := 0, ground := Go.Ground.data }, { on := 4, ground := Go.Ground.data }], guard := none }) rfl (fun K hK => ?_) AllReadyH.nil)
                    (go_simp; go_at_call 24; refine (cX _ ((Below.refl _ _).drew)).mono ?_; rintro e wc0 ⟨rfl, hbc0⟩)
                    refine hK.out _ _ (⟨(Below.refl _ _).drew.trans hbc0, FF.out _ ((Below.refl _ _).drew.trans hbc0)⟩) (fun hHeld => ?_)
                    clear hK K
                    try simp only [Act.put, List.setIfInBounds_toArray, List.set_cons_zero, List.set_cons_succ]
                    refine wpAnyH_ready (rs := [11]) (by kernel_rfl) (by simp) (AllReadyH.cons (o := { dst := some 72, op := Go.Op.call { callee := Go.Callee.value (Go.Operand.func 24), args := #[Go.Operand.tmp 67, Go.Operand.tmp 71], argTypes := #[35, 38] }, type := 3, pos := "law.go:125", after := #[{ on := 6, ground := Go.Ground.data }, { on := 10, ground := Go.Ground.data }, { on := 5, ground := Go.Ground.chain }], guard := none }) rfl (fun K hK => ?_) AllReadyH.nil)
                    (go_simp; go_at_call 24; refine (cL _ (hHeld.1)).mono ?_; rintro e wc1 ⟨rfl, hbc1⟩)
                    refine hK.out _ _ (⟨hHeld.1.trans (hbc1.mono hHeld.1.size), FF.out _ (hHeld.1.trans (hbc1.mono hHeld.1.size))⟩) (fun hHeld => ?_)
                    clear hK K
                    try simp only [Act.put, List.setIfInBounds_toArray, List.set_cons_zero, List.set_cons_succ]
                    refine wpAnyH_take (i := 12) (oi := { dst := some 73, op := Go.Op.binOp Go.BinOp.neq 3 (Go.Operand.tmp 66) (Go.Operand.tmp 72) 3, type := 4, pos := "law.go:125", after := #[{ on := 5, ground := Go.Ground.data }, { on := 11, ground := Go.Ground.data }], guard := none }) (v := ?va1112) rfl (by kernel_rfl) (by kernel_rfl) (by kernel_rfl) (fun _ _ _ h => h) (Or.inl ⟨by rfl, ?ya1112⟩) (by assumption) ?_
                    case ya1112 => (intro wX hSw; (try dsimp only at hSw); go_simp <;> with_reducible rfl)
                    try simp only [Act.put, List.setIfInBounds_toArray, List.set_cons_zero, List.set_cons_succ]
                    refine wpAnyH_take (i := 13) (oi := { dst := some 74, op := Go.Op.move (Go.Operand.tmp 73), type := 4, pos := "law.go:125", after := #[{ on := 12, ground := Go.Ground.data }, { on := 11, ground := Go.Ground.chain }], guard := none }) (v := ?va1113) rfl (by kernel_rfl) (by kernel_rfl) (by kernel_rfl) (fun _ _ _ h => h) (Or.inl ⟨by rfl, ?ya1113⟩) (by assumption) ?_
                    case ya1113 => (intro wX hSw; (try dsimp only at hSw); go_simp <;> with_reducible rfl)
                    try simp only [Act.put, List.setIfInBounds_toArray, List.set_cons_zero, List.set_cons_succ]
                    refine wpAnyH_take (i := 14) (oi := { dst := some 75, op := Go.Op.move (Go.Operand.tmp 8), type := 35, pos := "law.go:125", after := #[{ on := 13, ground := Go.Ground.guard }], guard := some (13, false) }) (v := ?va1114) rfl (by kernel_rfl) (by kernel_rfl) (by kernel_rfl) (fun _ _ _ h => h) (Or.inl ⟨by rfl, ?ya1114⟩) (by assumption) ?_
                    case ya1114 => (intro wX hSw; (try dsimp only at hSw); go_simp <;> with_reducible rfl)
                    try simp only [Act.put, List.setIfInBounds_toArray, List.set_cons_zero, List.set_cons_succ]
                    refine wpAnyH_take (i := 15) (oi := { dst := some 76, op := Go.Op.move (Go.Operand.tmp 10), type := 3, pos := "law.go:125", after := #[{ on := 13, ground := Go.Ground.guard }], guard := some (13, false) }) (v := ?va1115) rfl (by kernel_rfl) (by kernel_rfl) (by kernel_rfl) (fun _ _ _ h => h) (Or.inl ⟨by rfl, ?ya1115⟩) (by assumption) ?_
                    case ya1115 => (intro wX hSw; (try dsimp only at hSw); go_simp <;> with_reducible rfl)
                    try simp only [Act.put, List.setIfInBounds_toArray, List.set_cons_zero, List.set_cons_succ]
                    refine wpAnyH_take (i := 16) (oi := { dst := some 77, op := Go.Op.indexAddr 35 (Go.Operand.tmp 75) (Go.Operand.tmp 76), type := 0, pos := "law.go:125", after := #[{ on := 14, ground := Go.Ground.data }, { on := 15, ground := Go.Ground.data }, { on := 13, ground := Go.Ground.guard }], guard := some (13, false) }) (v := ?va1116) rfl (by kernel_rfl) (by kernel_rfl) (by kernel_rfl) (fun _ _ _ h => h) (Or.inl ⟨by rfl, ?ya1116⟩) (by assumption) ?_
                    case ya1116 => (intro wX hSw; (try dsimp only at hSw); go_simp <;> with_reducible rfl)
                    try simp only [Act.put, List.setIfInBounds_toArray, List.set_cons_zero, List.set_cons_succ]
                    refine wpAnyH_take (i := 17) (oi := { dst := some 78, op := Go.Op.load 38 (Go.Operand.tmp 77), type := 38, pos := "law.go:125", after := #[{ on := 16, ground := Go.Ground.data }, { on := 13, ground := Go.Ground.guard }], guard := some (13, false) }) (v := ?va1117) rfl (by kernel_rfl) (by kernel_rfl) (by kernel_rfl) (fun _ _ _ h => h) (Or.inl ⟨by rfl, ?ya1117⟩) (by assumption) ?_
                    case ya1117 => (intro wX hSw; (try dsimp only at hSw); go_simp <;> with_reducible rfl)
                    try simp only [Act.put, List.setIfInBounds_toArray, List.set_cons_zero, List.set_cons_succ]
                    refine wpAnyH_take (i := 18) (oi := { dst := some 79, op := Go.Op.move (Go.Operand.tmp 4), type := 35, pos := "law.go:125", after := #[{ on := 13, ground := Go.Ground.guard }], guard := some (13, false) }) (v := ?va1118) rfl (by kernel_rfl) (by kernel_rfl) (by kernel_rfl) (fun _ _ _ h => h) (Or.inl ⟨by rfl, ?ya1118⟩) (by assumption) ?_
                    case ya1118 => (intro wX hSw; (try dsimp only at hSw); go_simp <;> with_reducible rfl)
                    try simp only [Act.put, List.setIfInBounds_toArray, List.set_cons_zero, List.set_cons_succ]
                    refine wpAnyH_take (i := 19) (oi := { dst := some 80, op := Go.Op.move (Go.Operand.tmp 10), type := 3, pos := "law.go:125", after := #[{ on := 13, ground := Go.Ground.guard }], guard := some (13, false) }) (v := ?va1119) rfl (by kernel_rfl) (by kernel_rfl) (by kernel_rfl) (fun _ _ _ h => h) (Or.inl ⟨by rfl, ?ya1119⟩) (by assumption) ?_
                    case ya1119 => (intro wX hSw; (try dsimp only at hSw); go_simp <;> with_reducible rfl)
                    try simp only [Act.put, List.setIfInBounds_toArray, List.set_cons_zero, List.set_cons_succ]
                    refine wpAnyH_take (i := 20) (oi := { dst := some 81, op := Go.Op.indexAddr 35 (Go.Operand.tmp 79) (Go.Operand.tmp 80), type := 0, pos := "law.go:125", after := #[{ on := 18, ground := Go.Ground.data }, { on := 19, ground := Go.Ground.data }, { on := 13, ground := Go.Ground.guard }], guard := some (13, false) }) (v := ?va1120) rfl (by kernel_rfl) (by kernel_rfl) (by kernel_rfl) (fun _ _ _ h => h) (Or.inl ⟨by rfl, ?ya1120⟩) (by assumption) ?_
                    case ya1120 => (intro wX hSw; (try dsimp only at hSw); go_simp <;> with_reducible rfl)
                    try simp only [Act.put, List.setIfInBounds_toArray, List.set_cons_zero, List.set_cons_succ]
                    refine wpAnyH_take (i := 21) (oi := { dst := some 82, op := Go.Op.load 38 (Go.Operand.tmp 81), type := 38, pos := "law.go:125", after := #[{ on := 20, ground := Go.Ground.data }, { on := 13, ground := Go.Ground.guard }], guard := some (13, false) }) (v := ?va1121) rfl (by kernel_rfl) (by kernel_rfl) (by kernel_rfl) (fun _ _ _ h => h) (Or.inl ⟨by rfl, ?ya1121⟩) (by assumption) ?_
                    case ya1121 => (intro wX hSw; (try dsimp only at hSw); go_simp <;> with_reducible rfl)
                    try simp only [Act.put, List.setIfInBounds_toArray, List.set_cons_zero, List.set_cons_succ]
                    refine wpAnyH_take (i := 22) (oi := { dst := some 83, op := Go.Op.binOp Go.BinOp.neq 38 (Go.Operand.tmp 78) (Go.Operand.tmp 82) 38, type := 4, pos := "law.go:125", after := #[{ on := 17, ground := Go.Ground.data }, { on := 21, ground := Go.Ground.data }, { on := 13, ground := Go.Ground.guard }], guard := some (13, false) }) (v := ?va1122) rfl (by kernel_rfl) (by kernel_rfl) (by kernel_rfl) (fun _ _ _ h => h) (Or.inl ⟨by rfl, ?ya1122⟩) (by assumption) ?_
                    case ya1122 => (intro wX hSw; (try dsimp only at hSw); go_simp <;> with_reducible rfl)
                    try simp only [Act.put, List.setIfInBounds_toArray, List.set_cons_zero, List.set_cons_succ]
                    refine wpAnyH_take (i := 23) (oi := { dst := some 84, op := Go.Op.pick (Go.Operand.tmp 74) (Go.Operand.const (Go.Value.bool true)) (Go.Operand.tmp 83), type := 4, pos := "law.go:125", after := #[{ on := 13, ground := Go.Ground.data }, { on := 22, ground := Go.Ground.data }], guard := none }) (v := ?va1123) rfl (by kernel_rfl) (by kernel_rfl) (by kernel_rfl) (fun _ _ _ h => h) (Or.inl ⟨by rfl, ?ya1123⟩) (by assumption) ?_
                    case ya1123 => (intro wX hSw; (try dsimp only at hSw); go_simp <;> with_reducible rfl)
                    try simp only [Act.put, List.setIfInBounds_toArray, List.set_cons_zero, List.set_cons_succ]
                    refine wpAnyH_take (i := 24) (oi := { dst := some 85, op := Go.Op.move (Go.Operand.tmp 84), type := 4, pos := "law.go:125", after := #[{ on := 23, ground := Go.Ground.data }, { on := 13, ground := Go.Ground.chain }], guard := none }) (v := ?va1124) rfl (by kernel_rfl) (by kernel_rfl) (by kernel_rfl) (fun _ _ _ h => h) (Or.inl ⟨by rfl, ?ya1124⟩) (by assumption) ?_
                    case ya1124 => (intro wX hSw; (try dsimp only at hSw); go_simp <;> with_reducible rfl)
                    try simp only [Act.put, List.setIfInBounds_toArray, List.set_cons_zero, List.set_cons_succ]
                    refine wpAnyH_take (i := 25) (oi := { dst := some 86, op := Go.Op.move (Go.Operand.tmp 10), type := 3, pos := "law.go:125", after := #[{ on := 24, ground := Go.Ground.guard }], guard := some (24, false) }) (v := ?va1125) rfl (by kernel_rfl) (by kernel_rfl) (by kernel_rfl) (fun _ _ _ h => h) (Or.inl ⟨by rfl, ?ya1125⟩) (by assumption) ?_
                    case ya1125 => (intro wX hSw; (try dsimp only at hSw); go_simp <;> with_reducible rfl)
                    try simp only [Act.put, List.setIfInBounds_toArray, List.set_cons_zero, List.set_cons_succ]
                    refine wpAnyH_take (i := 26) (oi := { dst := some 87, op := Go.Op.binOp Go.BinOp.gtr 3 (Go.Operand.tmp 86) (Go.Operand.const (Go.Value.int Go.IntKind.i64 0)) 3, type := 4, pos := "law.go:125", after := #[{ on := 25, ground := Go.Ground.data }, { on := 24, ground := Go.Ground.guard }], guard := some (24, false) }) (v := ?va1126) rfl (by kernel_rfl) (by kernel_rfl) (by kernel_rfl) (fun _ _ _ h => h) (Or.inl ⟨by rfl, ?ya1126⟩) (by assumption) ?_
                    case ya1126 => (intro wX hSw; (try dsimp only at hSw); go_simp <;> with_reducible rfl)
                    try simp only [Act.put, List.setIfInBounds_toArray, List.set_cons_zero, List.set_cons_succ]
                    refine wpAnyH_take (i := 27) (oi := { dst := some 88, op := Go.Op.move (Go.Operand.tmp 87), type := 4, pos := "law.go:125", after := #[{ on := 26, ground := Go.Ground.data }, { on := 24, ground := Go.Ground.chain }, { on := 24, ground := Go.Ground.guard }], guard := some (24, false) }) (v := ?va1127) rfl (by kernel_rfl) (by kernel_rfl) (by kernel_rfl) (fun _ _ _ h => h) (Or.inl ⟨by rfl, ?ya1127⟩) (by assumption) ?_
                    case ya1127 => (intro wX hSw; (try dsimp only at hSw); go_simp <;> with_reducible rfl)
                    try simp only [Act.put, List.setIfInBounds_toArray, List.set_cons_zero, List.set_cons_succ]
                    refine wpAnyH_take (i := 28) (oi := { dst := some 89, op := Go.Op.move (Go.Operand.tmp 4), type := 35, pos := "law.go:125", after := #[{ on := 27, ground := Go.Ground.guard }], guard := some (27, true) }) (v := ?va1128) rfl (by kernel_rfl) (by kernel_rfl) (by kernel_rfl) (fun _ _ _ h => h) (Or.inl ⟨by rfl, ?ya1128⟩) (by assumption) ?_
                    case ya1128 => (intro wX hSw; (try dsimp only at hSw); go_simp <;> with_reducible rfl)
                    try simp only [Act.put, List.setIfInBounds_toArray, List.set_cons_zero, List.set_cons_succ]
                    refine wpAnyH_take (i := 29) (oi := { dst := some 90, op := Go.Op.move (Go.Operand.tmp 10), type := 3, pos := "law.go:125", after := #[{ on := 27, ground := Go.Ground.guard }], guard := some (27, true) }) (v := ?va1129) rfl (by kernel_rfl) (by kernel_rfl) (by kernel_rfl) (fun _ _ _ h => h) (Or.inl ⟨by rfl, ?ya1129⟩) (by assumption) ?_
                    case ya1129 => (intro wX hSw; (try dsimp only at hSw); go_simp <;> with_reducible rfl)
                    try simp only [Act.put, List.setIfInBounds_toArray, List.set_cons_zero, List.set_cons_succ]
                    refine wpAnyH_take (i := 30) (oi := { dst := some 91, op := Go.Op.indexAddr 35 (Go.Operand.tmp 89) (Go.Operand.tmp 90), type := 0, pos := "law.go:125", after := #[{ on := 28, ground := Go.Ground.data }, { on := 29, ground := Go.Ground.data }, { on := 27, ground := Go.Ground.guard }], guard := some (27, true) }) (v := ?va1130) rfl (by kernel_rfl) (by kernel_rfl) (by kernel_rfl) (fun _ _ _ h => h) (Or.inl ⟨by rfl, ?ya1130⟩) (by assumption) ?_
                    case ya1130 => (intro wX hSw; (try dsimp only at hSw); go_simp <;> with_reducible rfl)
                    try simp only [Act.put, List.setIfInBounds_toArray, List.set_cons_zero, List.set_cons_succ]
                    refine wpAnyH_take (i := 31) (oi := { dst := some 92, op := Go.Op.load 38 (Go.Operand.tmp 91), type := 38, pos := "law.go:125", after := #[{ on := 30, ground := Go.Ground.data }, { on := 27, ground := Go.Ground.guard }], guard := some (27, true) }) (v := ?va1131) rfl (by kernel_rfl) (by kernel_rfl) (by kernel_rfl) (fun _ _ _ h => h) (Or.inl ⟨by rfl, ?ya1131⟩) (by assumption) ?_
                    case ya1131 => (intro wX hSw; (try dsimp only at hSw); go_simp <;> with_reducible rfl)
                    try simp only [Act.put, List.setIfInBounds_toArray, List.set_cons_zero, List.set_cons_succ]
                    refine wpAnyH_take (i := 32) (oi := { dst := some 93, op := Go.Op.move (Go.Operand.tmp 4), type := 35, pos := "law.go:125", after := #[{ on := 27, ground := Go.Ground.guard }], guard := some (27, true) }) (v := ?va1132) rfl (by kernel_rfl) (by kernel_rfl) (by kernel_rfl) (fun _ _ _ h => h) (Or.inl ⟨by rfl, ?ya1132⟩) (by assumption) ?_
                    case ya1132 => (intro wX hSw; (try dsimp only at hSw); go_simp <;> with_reducible rfl)
                    try simp only [Act.put, List.setIfInBounds_toArray, List.set_cons_zero, List.set_cons_succ]
                    refine wpAnyH_take (i := 33) (oi := { dst := some 94, op := Go.Op.move (Go.Operand.tmp 10), type := 3, pos := "law.go:125", after := #[{ on := 27, ground := Go.Ground.guard }], guard := some (27, true) }) (v := ?va1133) rfl (by kernel_rfl) (by kernel_rfl) (by kernel_rfl) (fun _ _ _ h => h) (Or.inl ⟨by rfl, ?ya1133⟩) (by assumption) ?_
                    case ya1133 => (intro wX hSw; (try dsimp only at hSw); go_simp <;> with_reducible rfl)
                    try simp only [Act.put, List.setIfInBounds_toArray, List.set_cons_zero, List.set_cons_succ]
                    refine wpAnyH_take (i := 34) (oi := { dst := some 95, op := Go.Op.binOp Go.BinOp.sub 3 (Go.Operand.tmp 94) (Go.Operand.const (Go.Value.int Go.IntKind.i64 1)) 3, type := 3, pos := "law.go:125", after := #[{ on := 33, ground := Go.Ground.data }, { on := 27, ground := Go.Ground.guard }], guard := some (27, true) }) (v := ?va1134) rfl (by kernel_rfl) (by kernel_rfl) (by kernel_rfl) (fun _ _ _ h => h) (Or.inl ⟨by rfl, ?ya1134⟩) (by assumption) ?_
                    case ya1134 => (intro wX hSw; (try dsimp only at hSw); go_simp <;> with_reducible rfl)
                    try simp only [Act.put, List.setIfInBounds_toArray, List.set_cons_zero, List.set_cons_succ]
                    refine wpAnyH_take (i := 35) (oi := { dst := some 96, op := Go.Op.indexAddr 35 (Go.Operand.tmp 93) (Go.Operand.tmp 95), type := 0, pos := "law.go:125", after := #[{ on := 32, ground := Go.Ground.data }, { on := 34, ground := Go.Ground.data }, { on := 27, ground := Go.Ground.guard }], guard := some (27, true) }) (v := ?va1135) rfl (by kernel_rfl) (by kernel_rfl) (by kernel_rfl) (fun _ _ _ h => h) (Or.inl ⟨by rfl, ?ya1135⟩) (by assumption) ?_
                    case ya1135 => (intro wX hSw; (try dsimp only at hSw); go_simp <;> with_reducible rfl)
                    try simp only [Act.put, List.setIfInBounds_toArray, List.set_cons_zero, List.set_cons_succ]
                    refine wpAnyH_take (i := 36) (oi := { dst := some 97, op := Go.Op.load 38 (Go.Operand.tmp 96), type := 38, pos := "law.go:125", after := #[{ on := 35, ground := Go.Ground.data }, { on := 27, ground := Go.Ground.guard }], guard := some (27, true) }) (v := ?va1136) rfl (by kernel_rfl) (by kernel_rfl) (by kernel_rfl) (fun _ _ _ h => h) (Or.inl ⟨by rfl, ?ya1136⟩) (by assumption) ?_
                    case ya1136 => (intro wX hSw; (try dsimp only at hSw); go_simp <;> with_reducible rfl)
                    try simp only [Act.put, List.setIfInBounds_toArray, List.set_cons_zero, List.set_cons_succ]
                    refine wpAnyH_ready (rs := [37]) (by kernel_rfl) (by simp) (AllReadyH.cons (o := { dst := some 98, op := Go.Op.call { callee := Go.Callee.value (Go.Operand.func 16), args := #[Go.Operand.tmp 92, Go.Operand.tmp 97], argTypes := #[38, 38] }, type := 4, pos := "law.go:125", after := #[{ on := 31, ground := Go.Ground.data }, { on := 36, ground := Go.Ground.data }, { on := 27, ground := Go.Ground.chain }, { on := 27, ground := Go.Ground.guard }], guard := some (27, true) }) rfl (fun K hK => ?_) AllReadyH.nil)
                    (go_simp; go_at_call 16; refine (cA _).mono ?_; rintro e wc2 ⟨rfl, hbc2⟩)
                    refine hK.out _ _ (⟨hHeld.1.trans (hbc2.mono hHeld.1.size), FF.out _ (hHeld.1.trans (hbc2.mono hHeld.1.size))⟩) (fun hHeld => ?_)
                    clear hK K
                    try simp only [Act.put, List.setIfInBounds_toArray, List.set_cons_zero, List.set_cons_succ]
                    refine wpAnyH_take (i := 38) (oi := { dst := some 99, op := Go.Op.pick (Go.Operand.tmp 88) (Go.Operand.tmp 98) (Go.Operand.const (Go.Value.bool false)), type := 4, pos := "law.go:125", after := #[{ on := 27, ground := Go.Ground.data }, { on := 37, ground := Go.Ground.data }, { on := 24, ground := Go.Ground.guard }], guard := some (24, false) }) (v := ?va1138) rfl (by kernel_rfl) (by kernel_rfl) (by kernel_rfl) (fun _ _ _ h => h) (Or.inl ⟨by rfl, ?ya1138⟩) (by assumption) ?_
                    case ya1138 => (intro wX hSw; (try dsimp only at hSw); go_simp <;> with_reducible rfl)
                    try simp only [Act.put, List.setIfInBounds_toArray, List.set_cons_zero, List.set_cons_succ]
                    refine wpAnyH_take (i := 39) (oi := { dst := some 100, op := Go.Op.pick (Go.Operand.tmp 85) (Go.Operand.const (Go.Value.bool true)) (Go.Operand.tmp 99), type := 4, pos := "law.go:125", after := #[{ on := 24, ground := Go.Ground.data }, { on := 38, ground := Go.Ground.data }], guard := none }) (v := ?va1139) rfl (by kernel_rfl) (by kernel_rfl) (by kernel_rfl) (fun _ _ _ h => h) (Or.inl ⟨by rfl, ?ya1139⟩) (by assumption) ?_
                    case ya1139 => (intro wX hSw; (try dsimp only at hSw); go_simp <;> with_reducible rfl)
                    try simp only [Act.put, List.setIfInBounds_toArray, List.set_cons_zero, List.set_cons_succ]
                    refine wpAnyH_take (i := 40) (oi := { dst := some 101, op := Go.Op.move (Go.Operand.tmp 100), type := 4, pos := "law.go:125", after := #[{ on := 39, ground := Go.Ground.data }, { on := 37, ground := Go.Ground.chain }], guard := none }) (v := ?va1140) rfl (by kernel_rfl) (by kernel_rfl) (by kernel_rfl) (fun _ _ _ h => h) (Or.inl ⟨by rfl, ?ya1140⟩) (by assumption) ?_
                    case ya1140 => (intro wX hSw; (try dsimp only at hSw); go_simp <;> with_reducible rfl)
                    try simp only [Act.put, List.setIfInBounds_toArray, List.set_cons_zero, List.set_cons_succ]
                    refine wpAnyH_take (i := 41) (oi := { dst := some 102, op := Go.Op.move (Go.Operand.tmp 9), type := 4, pos := "law.go:125", after := #[{ on := 40, ground := Go.Ground.guard }], guard := some (40, false) }) (v := ?va1141) rfl (by kernel_rfl) (by kernel_rfl) (by kernel_rfl) (fun _ _ _ h => h) (Or.inl ⟨by rfl, ?ya1141⟩) (by assumption) ?_
                    case ya1141 => (intro wX hSw; (try dsimp only at hSw); go_simp <;> with_reducible rfl)
                    try simp only [Act.put, List.setIfInBounds_toArray, List.set_cons_zero, List.set_cons_succ]
                    refine wpAnyH_take (i := 42) (oi := { dst := some 103, op := Go.Op.move (Go.Operand.tmp 102), type := 4, pos := "law.go:125", after := #[{ on := 41, ground := Go.Ground.data }, { on := 40, ground := Go.Ground.chain }, { on := 40, ground := Go.Ground.guard }], guard := some (40, false) }) (v := ?va1142) rfl (by kernel_rfl) (by kernel_rfl) (by kernel_rfl) (fun _ _ _ h => h) (Or.inl ⟨by rfl, ?ya1142⟩) (by assumption) ?_
                    case ya1142 => (intro wX hSw; (try dsimp only at hSw); go_simp <;> with_reducible rfl)
                    try simp only [Act.put, List.setIfInBounds_toArray, List.set_cons_zero, List.set_cons_succ]
                    refine wpAnyH_take (i := 43) (oi := { dst := some 104, op := Go.Op.move (Go.Operand.tmp 7), type := 35, pos := "law.go:125", after := #[{ on := 42, ground := Go.Ground.guard }], guard := some (42, true) }) (v := ?va1143) rfl (by kernel_rfl) (by kernel_rfl) (by kernel_rfl) (fun _ _ _ h => h) (Or.inl ⟨by rfl, ?ya1143⟩) (by assumption) ?_
                    case ya1143 => (intro wX hSw; (try dsimp only at hSw); go_simp <;> with_reducible rfl)
                    try simp only [Act.put, List.setIfInBounds_toArray, List.set_cons_zero, List.set_cons_succ]
                    refine wpAnyH_take (i := 44) (oi := { dst := some 105, op := Go.Op.move (Go.Operand.tmp 10), type := 3, pos := "law.go:125", after := #[{ on := 42, ground := Go.Ground.guard }], guard := some (42, true) }) (v := ?va1144) rfl (by kernel_rfl) (by kernel_rfl) (by kernel_rfl) (fun _ _ _ h => h) (Or.inl ⟨by rfl, ?ya1144⟩) (by assumption) ?_
                    case ya1144 => (intro wX hSw; (try dsimp only at hSw); go_simp <;> with_reducible rfl)
                    try simp only [Act.put, List.setIfInBounds_toArray, List.set_cons_zero, List.set_cons_succ]
                    refine wpAnyH_take (i := 45) (oi := { dst := some 106, op := Go.Op.indexAddr 35 (Go.Operand.tmp 104) (Go.Operand.tmp 105), type := 0, pos := "law.go:125", after := #[{ on := 43, ground := Go.Ground.data }, { on := 44, ground := Go.Ground.data }, { on := 42, ground := Go.Ground.guard }], guard := some (42, true) }) (v := ?va1145) rfl (by kernel_rfl) (by kernel_rfl) (by kernel_rfl) (fun _ _ _ h => h) (Or.inl ⟨by rfl, ?ya1145⟩) (by assumption) ?_
                    case ya1145 => (intro wX hSw; (try dsimp only at hSw); go_simp <;> with_reducible rfl)
                    try simp only [Act.put, List.setIfInBounds_toArray, List.set_cons_zero, List.set_cons_succ]
                    refine wpAnyH_take (i := 46) (oi := { dst := some 107, op := Go.Op.load 38 (Go.Operand.tmp 106), type := 38, pos := "law.go:125", after := #[{ on := 45, ground := Go.Ground.data }, { on := 42, ground := Go.Ground.guard }], guard := some (42, true) }) (v := ?va1146) rfl (by kernel_rfl) (by kernel_rfl) (by kernel_rfl) (fun _ _ _ h => h) (Or.inl ⟨by rfl, ?ya1146⟩) (by assumption) ?_
                    case ya1146 => (intro wX hSw; (try dsimp only at hSw); go_simp <;> with_reducible rfl)
                    try simp only [Act.put, List.setIfInBounds_toArray, List.set_cons_zero, List.set_cons_succ]
                    refine wpAnyH_take (i := 47) (oi := { dst := some 108, op := Go.Op.move (Go.Operand.tmp 4), type := 35, pos := "law.go:125", after := #[{ on := 42, ground := Go.Ground.guard }], guard := some (42, true) }) (v := ?va1147) rfl (by kernel_rfl) (by kernel_rfl) (by kernel_rfl) (fun _ _ _ h => h) (Or.inl ⟨by rfl, ?ya1147⟩) (by assumption) ?_
                    case ya1147 => (intro wX hSw; (try dsimp only at hSw); go_simp <;> with_reducible rfl)
                    try simp only [Act.put, List.setIfInBounds_toArray, List.set_cons_zero, List.set_cons_succ]
                    refine wpAnyH_take (i := 48) (oi := { dst := some 109, op := Go.Op.move (Go.Operand.tmp 10), type := 3, pos := "law.go:125", after := #[{ on := 42, ground := Go.Ground.guard }], guard := some (42, true) }) (v := ?va1148) rfl (by kernel_rfl) (by kernel_rfl) (by kernel_rfl) (fun _ _ _ h => h) (Or.inl ⟨by rfl, ?ya1148⟩) (by assumption) ?_
                    case ya1148 => (intro wX hSw; (try dsimp only at hSw); go_simp <;> with_reducible rfl)
                    try simp only [Act.put, List.setIfInBounds_toArray, List.set_cons_zero, List.set_cons_succ]
                    refine wpAnyH_take (i := 49) (oi := { dst := some 110, op := Go.Op.indexAddr 35 (Go.Operand.tmp 108) (Go.Operand.tmp 109), type := 0, pos := "law.go:125", after := #[{ on := 47, ground := Go.Ground.data }, { on := 48, ground := Go.Ground.data }, { on := 42, ground := Go.Ground.guard }], guard := some (42, true) }) (v := ?va1149) rfl (by kernel_rfl) (by kernel_rfl) (by kernel_rfl) (fun _ _ _ h => h) (Or.inl ⟨by rfl, ?ya1149⟩) (by assumption) ?_
                    case ya1149 => (intro wX hSw; (try dsimp only at hSw); go_simp <;> with_reducible rfl)
                    try simp only [Act.put, List.setIfInBounds_toArray, List.set_cons_zero, List.set_cons_succ]
                    refine wpAnyH_take (i := 50) (oi := { dst := some 111, op := Go.Op.load 38 (Go.Operand.tmp 110), type := 38, pos := "law.go:125", after := #[{ on := 49, ground := Go.Ground.data }, { on := 42, ground := Go.Ground.guard }], guard := some (42, true) }) (v := ?va1150) rfl (by kernel_rfl) (by kernel_rfl) (by kernel_rfl) (fun _ _ _ h => h) (Or.inl ⟨by rfl, ?ya1150⟩) (by assumption) ?_
                    case ya1150 => (intro wX hSw; (try dsimp only at hSw); go_simp <;> with_reducible rfl)
                    try simp only [Act.put, List.setIfInBounds_toArray, List.set_cons_zero, List.set_cons_succ]
                    refine wpAnyH_take (i := 51) (oi := { dst := some 112, op := Go.Op.binOp Go.BinOp.neq 38 (Go.Operand.tmp 107) (Go.Operand.tmp 111) 38, type := 4, pos := "law.go:125", after := #[{ on := 46, ground := Go.Ground.data }, { on := 50, ground := Go.Ground.data }, { on := 42, ground := Go.Ground.guard }], guard := some (42, true) }) (v := ?va1151) rfl (by kernel_rfl) (by kernel_rfl) (by kernel_rfl) (fun _ _ _ h => h) (Or.inl ⟨by rfl, ?ya1151⟩) (by assumption) ?_
                    case ya1151 => (intro wX hSw; (try dsimp only at hSw); go_simp <;> with_reducible rfl)
                    try simp only [Act.put, List.setIfInBounds_toArray, List.set_cons_zero, List.set_cons_succ]
                    refine wpAnyH_take (i := 52) (oi := { dst := some 113, op := Go.Op.move (Go.Operand.tmp 112), type := 4, pos := "law.go:125", after := #[{ on := 51, ground := Go.Ground.data }, { on := 42, ground := Go.Ground.chain }, { on := 42, ground := Go.Ground.guard }], guard := some (42, true) }) (v := ?va1152) rfl (by kernel_rfl) (by kernel_rfl) (by kernel_rfl) (fun _ _ _ h => h) (Or.inl ⟨by rfl, ?ya1152⟩) (by assumption) ?_
                    case ya1152 => (intro wX hSw; (try dsimp only at hSw); go_simp <;> with_reducible rfl)
                    try simp only [Act.put, List.setIfInBounds_toArray, List.set_cons_zero, List.set_cons_succ]
                    refine wpAnyH_take (i := 53) (oi := { dst := some 114, op := Go.Op.move (Go.Operand.tmp 10), type := 3, pos := "law.go:125", after := #[{ on := 52, ground := Go.Ground.guard }], guard := some (52, false) }) (v := ?va1153) rfl (by kernel_rfl) (by kernel_rfl) (by kernel_rfl) (fun _ _ _ h => h) (Or.inl ⟨by rfl, ?ya1153⟩) (by assumption) ?_
                    case ya1153 => (intro wX hSw; (try dsimp only at hSw); go_simp <;> with_reducible rfl)
                    try simp only [Act.put, List.setIfInBounds_toArray, List.set_cons_zero, List.set_cons_succ]
                    refine wpAnyH_take (i := 54) (oi := { dst := some 115, op := Go.Op.binOp Go.BinOp.gtr 3 (Go.Operand.tmp 114) (Go.Operand.const (Go.Value.int Go.IntKind.i64 0)) 3, type := 4, pos := "law.go:125", after := #[{ on := 53, ground := Go.Ground.data }, { on := 52, ground := Go.Ground.guard }], guard := some (52, false) }) (v := ?va1154) rfl (by kernel_rfl) (by kernel_rfl) (by kernel_rfl) (fun _ _ _ h => h) (Or.inl ⟨by rfl, ?ya1154⟩) (by assumption) ?_
                    case ya1154 => (intro wX hSw; (try dsimp only at hSw); go_simp <;> with_reducible rfl)
                    try simp only [Act.put, List.setIfInBounds_toArray, List.set_cons_zero, List.set_cons_succ]
                    refine wpAnyH_take (i := 55) (oi := { dst := some 116, op := Go.Op.move (Go.Operand.tmp 115), type := 4, pos := "law.go:125", after := #[{ on := 54, ground := Go.Ground.data }, { on := 52, ground := Go.Ground.chain }, { on := 52, ground := Go.Ground.guard }], guard := some (52, false) }) (v := ?va1155) rfl (by kernel_rfl) (by kernel_rfl) (by kernel_rfl) (fun _ _ _ h => h) (Or.inl ⟨by rfl, ?ya1155⟩) (by assumption) ?_
                    case ya1155 => (intro wX hSw; (try dsimp only at hSw); go_simp <;> with_reducible rfl)
                    try simp only [Act.put, List.setIfInBounds_toArray, List.set_cons_zero, List.set_cons_succ]
                    refine wpAnyH_take (i := 56) (oi := { dst := some 117, op := Go.Op.move (Go.Operand.tmp 4), type := 35, pos := "law.go:125", after := #[{ on := 55, ground := Go.Ground.guard }], guard := some (55, true) }) (v := ?va1156) rfl (by kernel_rfl) (by kernel_rfl) (by kernel_rfl) (fun _ _ _ h => h) (Or.inl ⟨by rfl, ?ya1156⟩) (by assumption) ?_
                    case ya1156 => (intro wX hSw; (try dsimp only at hSw); go_simp <;> with_reducible rfl)
                    try simp only [Act.put, List.setIfInBounds_toArray, List.set_cons_zero, List.set_cons_succ]
                    refine wpAnyH_take (i := 57) (oi := { dst := some 118, op := Go.Op.move (Go.Operand.tmp 10), type := 3, pos := "law.go:125", after := #[{ on := 55, ground := Go.Ground.guard }], guard := some (55, true) }) (v := ?va1157) rfl (by kernel_rfl) (by kernel_rfl) (by kernel_rfl) (fun _ _ _ h => h) (Or.inl ⟨by rfl, ?ya1157⟩) (by assumption) ?_
                    case ya1157 => (intro wX hSw; (try dsimp only at hSw); go_simp <;> with_reducible rfl)
                    try simp only [Act.put, List.setIfInBounds_toArray, List.set_cons_zero, List.set_cons_succ]
                    refine wpAnyH_take (i := 58) (oi := { dst := some 119, op := Go.Op.binOp Go.BinOp.sub 3 (Go.Operand.tmp 118) (Go.Operand.const (Go.Value.int Go.IntKind.i64 1)) 3, type := 3, pos := "law.go:125", after := #[{ on := 57, ground := Go.Ground.data }, { on := 55, ground := Go.Ground.guard }], guard := some (55, true) }) (v := ?va1158) rfl (by kernel_rfl) (by kernel_rfl) (by kernel_rfl) (fun _ _ _ h => h) (Or.inl ⟨by rfl, ?ya1158⟩) (by assumption) ?_
                    case ya1158 => (intro wX hSw; (try dsimp only at hSw); go_simp <;> with_reducible rfl)
                    try simp only [Act.put, List.setIfInBounds_toArray, List.set_cons_zero, List.set_cons_succ]
                    refine wpAnyH_take (i := 59) (oi := { dst := some 120, op := Go.Op.indexAddr 35 (Go.Operand.tmp 117) (Go.Operand.tmp 119), type := 0, pos := "law.go:125", after := #[{ on := 56, ground := Go.Ground.data }, { on := 58, ground := Go.Ground.data }, { on := 55, ground := Go.Ground.guard }], guard := some (55, true) }) (v := ?va1159) rfl (by kernel_rfl) (by kernel_rfl) (by kernel_rfl) (fun _ _ _ h => h) (Or.inl ⟨by rfl, ?ya1159⟩) (by assumption) ?_
                    case ya1159 => (intro wX hSw; (try dsimp only at hSw); go_simp <;> with_reducible rfl)
                    try simp only [Act.put, List.setIfInBounds_toArray, List.set_cons_zero, List.set_cons_succ]
                    refine wpAnyH_take (i := 60) (oi := { dst := some 121, op := Go.Op.load 38 (Go.Operand.tmp 120), type := 38, pos := "law.go:125", after := #[{ on := 59, ground := Go.Ground.data }, { on := 55, ground := Go.Ground.guard }], guard := some (55, true) }) (v := ?va1160) rfl (by kernel_rfl) (by kernel_rfl) (by kernel_rfl) (fun _ _ _ h => h) (Or.inl ⟨by rfl, ?ya1160⟩) (by assumption) ?_
                    case ya1160 => (intro wX hSw; (try dsimp only at hSw); go_simp <;> with_reducible rfl)
                    try simp only [Act.put, List.setIfInBounds_toArray, List.set_cons_zero, List.set_cons_succ]
                    refine wpAnyH_take (i := 61) (oi := { dst := some 122, op := Go.Op.move (Go.Operand.tmp 4), type := 35, pos := "law.go:125", after := #[{ on := 55, ground := Go.Ground.guard }], guard := some (55, true) }) (v := ?va1161) rfl (by kernel_rfl) (by kernel_rfl) (by kernel_rfl) (fun _ _ _ h => h) (Or.inl ⟨by rfl, ?ya1161⟩) (by assumption) ?_
                    case ya1161 => (intro wX hSw; (try dsimp only at hSw); go_simp <;> with_reducible rfl)
                    try simp only [Act.put, List.setIfInBounds_toArray, List.set_cons_zero, List.set_cons_succ]
                    refine wpAnyH_take (i := 62) (oi := { dst := some 123, op := Go.Op.move (Go.Operand.tmp 10), type := 3, pos := "law.go:125", after := #[{ on := 55, ground := Go.Ground.guard }], guard := some (55, true) }) (v := ?va1162) rfl (by kernel_rfl) (by kernel_rfl) (by kernel_rfl) (fun _ _ _ h => h) (Or.inl ⟨by rfl, ?ya1162⟩) (by assumption) ?_
                    case ya1162 => (intro wX hSw; (try dsimp only at hSw); go_simp <;> with_reducible rfl)
                    try simp only [Act.put, List.setIfInBounds_toArray, List.set_cons_zero, List.set_cons_succ]
                    refine wpAnyH_take (i := 63) (oi := { dst := some 124, op := Go.Op.indexAddr 35 (Go.Operand.tmp 122) (Go.Operand.tmp 123), type := 0, pos := "law.go:125", after := #[{ on := 61, ground := Go.Ground.data }, { on := 62, ground := Go.Ground.data }, { on := 55, ground := Go.Ground.guard }], guard := some (55, true) }) (v := ?va1163) rfl (by kernel_rfl) (by kernel_rfl) (by kernel_rfl) (fun _ _ _ h => h) (Or.inl ⟨by rfl, ?ya1163⟩) (by assumption) ?_
                    case ya1163 => (intro wX hSw; (try dsimp only at hSw); go_simp <;> with_reducible rfl)
                    try simp only [Act.put, List.setIfInBounds_toArray, List.set_cons_zero, List.set_cons_succ]
                    refine wpAnyH_take (i := 64) (oi := { dst := some 125, op := Go.Op.load 38 (Go.Operand.tmp 124), type := 38, pos := "law.go:125", after := #[{ on := 63, ground := Go.Ground.data }, { on := 55, ground := Go.Ground.guard }], guard := some (55, true) }) (v := ?va1164) rfl (by kernel_rfl) (by kernel_rfl) (by kernel_rfl) (fun _ _ _ h => h) (Or.inl ⟨by rfl, ?ya1164⟩) (by assumption) ?_
                    case ya1164 => (intro wX hSw; (try dsimp only at hSw); go_simp <;> with_reducible rfl)
                    try simp only [Act.put, List.setIfInBounds_toArray, List.set_cons_zero, List.set_cons_succ]
                    refine wpAnyH_ready (rs := [65]) (by kernel_rfl) (by simp) (AllReadyH.cons (o := { dst := some 126, op := Go.Op.call { callee := Go.Callee.value (Go.Operand.func 16), args := #[Go.Operand.tmp 121, Go.Operand.tmp 125], argTypes := #[38, 38] }, type := 4, pos := "law.go:125", after := #[{ on := 60, ground := Go.Ground.data }, { on := 64, ground := Go.Ground.data }, { on := 55, ground := Go.Ground.chain }, { on := 55, ground := Go.Ground.guard }], guard := some (55, true) }) rfl (fun K hK => ?_) AllReadyH.nil)
                    (go_simp; go_at_call 16; refine (cB _).mono ?_; rintro e wc3 ⟨rfl, hbc3⟩)
                    refine hK.out _ _ (⟨hHeld.1.trans (hbc3.mono hHeld.1.size), FF.out _ (hHeld.1.trans (hbc3.mono hHeld.1.size))⟩) (fun hHeld => ?_)
                    clear hK K
                    try simp only [Act.put, List.setIfInBounds_toArray, List.set_cons_zero, List.set_cons_succ]
                    refine wpAnyH_take (i := 66) (oi := { dst := some 127, op := Go.Op.unOp Go.UnOp.not 4 (Go.Operand.tmp 126), type := 4, pos := "law.go:125", after := #[{ on := 65, ground := Go.Ground.data }, { on := 55, ground := Go.Ground.guard }], guard := some (55, true) }) (v := ?va1166) rfl (by kernel_rfl) (by kernel_rfl) (by kernel_rfl) (fun _ _ _ h => h) (Or.inl ⟨by rfl, ?ya1166⟩) (by assumption) ?_
                    case ya1166 => (intro wX hSw; (try dsimp only at hSw); go_simp <;> with_reducible rfl)
                    try simp only [Act.put, List.setIfInBounds_toArray, List.set_cons_zero, List.set_cons_succ]
                    refine wpAnyH_take (i := 67) (oi := { dst := some 128, op := Go.Op.pick (Go.Operand.tmp 116) (Go.Operand.tmp 127) (Go.Operand.const (Go.Value.bool false)), type := 4, pos := "law.go:125", after := #[{ on := 55, ground := Go.Ground.data }, { on := 66, ground := Go.Ground.data }, { on := 52, ground := Go.Ground.guard }], guard := some (52, false) }) (v := ?va1167) rfl (by kernel_rfl) (by kernel_rfl) (by kernel_rfl) (fun _ _ _ h => h) (Or.inl ⟨by rfl, ?ya1167⟩) (by assumption) ?_
                    case ya1167 => (intro wX hSw; (try dsimp only at hSw); go_simp <;> with_reducible rfl)
                    try simp only [Act.put, List.setIfInBounds_toArray, List.set_cons_zero, List.set_cons_succ]
                    refine wpAnyH_take (i := 68) (oi := { dst := some 129, op := Go.Op.pick (Go.Operand.tmp 113) (Go.Operand.const (Go.Value.bool true)) (Go.Operand.tmp 128), type := 4, pos := "law.go:125", after := #[{ on := 52, ground := Go.Ground.data }, { on := 67, ground := Go.Ground.data }, { on := 42, ground := Go.Ground.guard }], guard := some (42, true) }) (v := ?va1168) rfl (by kernel_rfl) (by kernel_rfl) (by kernel_rfl) (fun _ _ _ h => h) (Or.inl ⟨by rfl, ?ya1168⟩) (by assumption) ?_
                    case ya1168 => (intro wX hSw; (try dsimp only at hSw); go_simp <;> with_reducible rfl)
                    try simp only [Act.put, List.setIfInBounds_toArray, List.set_cons_zero, List.set_cons_succ]
                    refine wpAnyH_take (i := 69) (oi := { dst := some 130, op := Go.Op.pick (Go.Operand.tmp 103) (Go.Operand.tmp 129) (Go.Operand.const (Go.Value.bool false)), type := 4, pos := "law.go:125", after := #[{ on := 42, ground := Go.Ground.data }, { on := 68, ground := Go.Ground.data }, { on := 40, ground := Go.Ground.guard }], guard := some (40, false) }) (v := ?va1169) rfl (by kernel_rfl) (by kernel_rfl) (by kernel_rfl) (fun _ _ _ h => h) (Or.inl ⟨by rfl, ?ya1169⟩) (by assumption) ?_
                    case ya1169 => (intro wX hSw; (try dsimp only at hSw); go_simp <;> with_reducible rfl)
                    try simp only [Act.put, List.setIfInBounds_toArray, List.set_cons_zero, List.set_cons_succ]
                    refine wpAnyH_take (i := 70) (oi := { dst := some 131, op := Go.Op.pick (Go.Operand.tmp 101) (Go.Operand.const (Go.Value.bool true)) (Go.Operand.tmp 130), type := 4, pos := "law.go:125", after := #[{ on := 40, ground := Go.Ground.data }, { on := 69, ground := Go.Ground.data }], guard := none }) (v := ?va1170) rfl (by kernel_rfl) (by kernel_rfl) (by kernel_rfl) (fun _ _ _ h => h) (Or.inl ⟨by rfl, ?ya1170⟩) (by assumption) ?_
                    case ya1170 => (intro wX hSw; (try dsimp only at hSw); go_simp <;> with_reducible rfl)
                    try simp only [Act.put, List.setIfInBounds_toArray, List.set_cons_zero, List.set_cons_succ]
                    refine wpAnyH_done (by kernel_rfl) ?_ _
                    go_wp2
                    go_meet
                    exact ⟨by first | rfl | simp, hHeld.1⟩
                | false =>
                  clear HD HDL HS HAP HN HM HXl HYl hB6 hi' hi0 hpi
                  as_aux_lemma =>
                    have FF : Hid (∀ W, Below wr.heap.size wr W → (W.cell? ⟨b, o + i * 6, none⟩ = some (.string (bs ci)) ∧ W.cell? ⟨b, o + i * 6 + 1, none⟩ = some (.string (bs cb)) ∧ W.cell? ⟨b, o + i * 6 + 2, none⟩ = some (.int .i64 cs) ∧ W.cell? ⟨b, o + i * 6 + 3, none⟩ = some (.int .i64 ct) ∧ W.cell? ⟨b, o + i * 6 + 4, none⟩ = some (.int .i64 ca) ∧ W.cell? ⟨b, o + i * 6 + 5, none⟩ = some (.string (bs cr))) ∧ (W.cell? ⟨b4, o4 + i * 6, none⟩ = some (.string (bs xi)) ∧ W.cell? ⟨b4, o4 + i * 6 + 1, none⟩ = some (.string (bs xb)) ∧ W.cell? ⟨b4, o4 + i * 6 + 2, none⟩ = some (.int .i64 xs) ∧ W.cell? ⟨b4, o4 + i * 6 + 3, none⟩ = some (.int .i64 xt) ∧ W.cell? ⟨b4, o4 + i * 6 + 4, none⟩ = some (.int .i64 xa) ∧ W.cell? ⟨b4, o4 + i * 6 + 5, none⟩ = some (.string (bs xr))) ∧ (W.cell? ⟨b8, o8 + i * 6, none⟩ = some (.string (bs xi)) ∧ W.cell? ⟨b8, o8 + i * 6 + 1, none⟩ = some (.string (bs xb)) ∧ W.cell? ⟨b8, o8 + i * 6 + 2, none⟩ = some (.int .i64 xs) ∧ W.cell? ⟨b8, o8 + i * 6 + 3, none⟩ = some (.int .i64 xt) ∧ W.cell? ⟨b8, o8 + i * 6 + 4, none⟩ = some (.int .i64 xa) ∧ W.cell? ⟨b8, o8 + i * 6 + 5, none⟩ = some (.string (bs xr))) ∧ (W.cell? ⟨b4, o4 + i' * 6, none⟩ = some (.string (bs pi)) ∧ W.cell? ⟨b4, o4 + i' * 6 + 1, none⟩ = some (.string (bs pb)) ∧ W.cell? ⟨b4, o4 + i' * 6 + 2, none⟩ = some (.int .i64 ps) ∧ W.cell? ⟨b4, o4 + i' * 6 + 3, none⟩ = some (.int .i64 pt) ∧ W.cell? ⟨b4, o4 + i' * 6 + 4, none⟩ = some (.int .i64 pa) ∧ W.cell? ⟨b4, o4 + i' * 6 + 5, none⟩ = some (.string (bs pr)))) := fun W hW => by
                      have hbw := HBR.out.trans (hW.mono HBR.out.size)
                      exact ⟨(RL.out.below hbw).cells HC.out, (RX.out.below hbw).cells HXi.out, (RZ.out.below hbw).cells HXi.out, (RX.out.below hbw).cells HP.out⟩
                    have gx := FF.out _ (Below.refl _ _).drew
                    clear HC HXi RL RX RY RZ HBR HP
                    refine wp_region_held_drew (S := (fun W => Below wr.heap.size wr W ∧ (W.cell? ⟨b, o + i * 6, none⟩ = some (.string (bs ci)) ∧ W.cell? ⟨b, o + i * 6 + 1, none⟩ = some (.string (bs cb)) ∧ W.cell? ⟨b, o + i * 6 + 2, none⟩ = some (.int .i64 cs) ∧ W.cell? ⟨b, o + i * 6 + 3, none⟩ = some (.int .i64 ct) ∧ W.cell? ⟨b, o + i * 6 + 4, none⟩ = some (.int .i64 ca) ∧ W.cell? ⟨b, o + i * 6 + 5, none⟩ = some (.string (bs cr))) ∧ (W.cell? ⟨b4, o4 + i * 6, none⟩ = some (.string (bs xi)) ∧ W.cell? ⟨b4, o4 + i * 6 + 1, none⟩ = some (.string (bs xb)) ∧ W.cell? ⟨b4, o4 + i * 6 + 2, none⟩ = some (.int .i64 xs) ∧ W.cell? ⟨b4, o4 + i * 6 + 3, none⟩ = some (.int .i64 xt) ∧ W.cell? ⟨b4, o4 + i * 6 + 4, none⟩ = some (.int .i64 xa) ∧ W.cell? ⟨b4, o4 + i * 6 + 5, none⟩ = some (.string (bs xr))) ∧ (W.cell? ⟨b8, o8 + i * 6, none⟩ = some (.string (bs xi)) ∧ W.cell? ⟨b8, o8 + i * 6 + 1, none⟩ = some (.string (bs xb)) ∧ W.cell? ⟨b8, o8 + i * 6 + 2, none⟩ = some (.int .i64 xs) ∧ W.cell? ⟨b8, o8 + i * 6 + 3, none⟩ = some (.int .i64 xt) ∧ W.cell? ⟨b8, o8 + i * 6 + 4, none⟩ = some (.int .i64 xa) ∧ W.cell? ⟨b8, o8 + i * 6 + 5, none⟩ = some (.string (bs xr))) ∧ (W.cell? ⟨b4, o4 + i' * 6, none⟩ = some (.string (bs pi)) ∧ W.cell? ⟨b4, o4 + i' * 6 + 1, none⟩ = some (.string (bs pb)) ∧ W.cell? ⟨b4, o4 + i' * 6 + 2, none⟩ = some (.int .i64 ps) ∧ W.cell? ⟨b4, o4 + i' * 6 + 3, none⟩ = some (.int .i64 pt) ∧ W.cell? ⟨b4, o4 + i' * 6 + 4, none⟩ = some (.int .i64 pa) ∧ W.cell? ⟨b4, o4 + i' * 6 + 5, none⟩ = some (.string (bs pr))))) (by kernel_rfl) (⟨(Below.refl _ _).drew, FF.out _ (Below.refl _ _).drew⟩) (fun hHeld => ?_)
                    refine wpAnyH_take (i := 0) (oi := { dst := some 61, op := Go.Op.move (Go.Operand.tmp 4), type := 35, pos := "law.go:125", after := #[], guard := none }) (v := ?va010) rfl (by kernel_rfl) (by kernel_rfl) (by kernel_rfl) (fun _ _ _ h => h) (Or.inl ⟨by rfl, ?ya010⟩) (by assumption) ?_
                    case ya010 => (intro wX hSw; (try dsimp only at hSw); go_simp <;> with_reducible rfl)
                    try simp only [Act.put, List.setIfInBounds_toArray, List.set_cons_zero, List.set_cons_succ]
                    refine wpAnyH_take (i := 1) (oi := { dst := some 62, op := Go.Op.move (Go.Operand.tmp 0), type := 35, pos := "law.go:125", after := #[], guard := none }) (v := ?va011) rfl (by kernel_rfl) (by kernel_rfl) (by kernel_rfl) (fun _ _ _ h => h) (Or.inl ⟨by rfl, ?ya011⟩) (by assumption) ?_
                    case ya011 => (intro wX hSw; (try dsimp only at hSw); go_simp <;> with_reducible rfl)
                    try simp only [Act.put, List.setIfInBounds_toArray, List.set_cons_zero, List.set_cons_succ]
                    refine wpAnyH_take (i := 2) (oi := { dst := some 63, op := Go.Op.move (Go.Operand.tmp 10), type := 3, pos := "law.go:125", after := #[], guard := none }) (v := ?va012) rfl (by kernel_rfl) (by kernel_rfl) (by kernel_rfl) (fun _ _ _ h => h) (Or.inl ⟨by rfl, ?ya012⟩) (by assumption) ?_
                    case ya012 => (intro wX hSw; (try dsimp only at hSw); go_simp <;> with_reducible rfl)
                    try simp only [Act.put, List.setIfInBounds_toArray, List.set_cons_zero, List.set_cons_succ]
                    refine wpAnyH_take (i := 3) (oi := { dst := some 64, op := Go.Op.indexAddr 35 (Go.Operand.tmp 62) (Go.Operand.tmp 63), type := 0, pos := "law.go:125", after := #[{ on := 1, ground := Go.Ground.data }, { on := 2, ground := Go.Ground.data }], guard := none }) (v := ?va013) rfl (by kernel_rfl) (by kernel_rfl) (by kernel_rfl) (fun _ _ _ h => h) (Or.inl ⟨by rfl, ?ya013⟩) (by assumption) ?_
                    case ya013 => (intro wX hSw; (try dsimp only at hSw); go_simp <;> with_reducible rfl)
                    try simp only [Act.put, List.setIfInBounds_toArray, List.set_cons_zero, List.set_cons_succ]
                    refine wpAnyH_take (i := 4) (oi := { dst := some 65, op := Go.Op.load 38 (Go.Operand.tmp 64), type := 38, pos := "law.go:125", after := #[{ on := 3, ground := Go.Ground.data }], guard := none }) (v := ?va014) rfl (by kernel_rfl) (by kernel_rfl) (by kernel_rfl) (fun _ _ _ h => h) (Or.inl ⟨by rfl, ?ya014⟩) (by assumption) ?_
                    case ya014 => (intro wX hSw; (try dsimp only at hSw); go_simp <;> with_reducible rfl)
                    try simp only [Act.put, List.setIfInBounds_toArray, List.set_cons_zero, List.set_cons_succ]
                    refine wpAnyH_take (i := 6) (oi := { dst := some 67, op := Go.Op.move (Go.Operand.tmp 0), type := 35, pos := "law.go:125", after := #[], guard := none }) (v := ?va016) rfl (by kernel_rfl) (by kernel_rfl) (by kernel_rfl) (fun _ _ _ h => h) (Or.inl ⟨by rfl, ?ya016⟩) (by assumption) ?_
                    case ya016 => (intro wX hSw; (try dsimp only at hSw); go_simp <;> with_reducible rfl)
                    try simp only [Act.put, List.setIfInBounds_toArray, List.set_cons_zero, List.set_cons_succ]
                    refine wpAnyH_take (i := 7) (oi := { dst := some 68, op := Go.Op.move (Go.Operand.tmp 0), type := 35, pos := "law.go:125", after := #[], guard := none }) (v := ?va017) rfl (by kernel_rfl) (by kernel_rfl) (by kernel_rfl) (fun _ _ _ h => h) (Or.inl ⟨by rfl, ?ya017⟩) (by assumption) ?_
                    case ya017 => (intro wX hSw; (try dsimp only at hSw); go_simp <;> with_reducible rfl)
                    try simp only [Act.put, List.setIfInBounds_toArray, List.set_cons_zero, List.set_cons_succ]
                    refine wpAnyH_take (i := 8) (oi := { dst := some 69, op := Go.Op.move (Go.Operand.tmp 10), type := 3, pos := "law.go:125", after := #[], guard := none }) (v := ?va018) rfl (by kernel_rfl) (by kernel_rfl) (by kernel_rfl) (fun _ _ _ h => h) (Or.inl ⟨by rfl, ?ya018⟩) (by assumption) ?_
                    case ya018 => (intro wX hSw; (try dsimp only at hSw); go_simp <;> with_reducible rfl)
                    try simp only [Act.put, List.setIfInBounds_toArray, List.set_cons_zero, List.set_cons_succ]
                    refine wpAnyH_take (i := 9) (oi := { dst := some 70, op := Go.Op.indexAddr 35 (Go.Operand.tmp 68) (Go.Operand.tmp 69), type := 0, pos := "law.go:125", after := #[{ on := 7, ground := Go.Ground.data }, { on := 8, ground := Go.Ground.data }], guard := none }) (v := ?va019) rfl (by kernel_rfl) (by kernel_rfl) (by kernel_rfl) (fun _ _ _ h => h) (Or.inl ⟨by rfl, ?ya019⟩) (by assumption) ?_
                    case ya019 => (intro wX hSw; (try dsimp only at hSw); go_simp <;> with_reducible rfl)
                    try simp only [Act.put, List.setIfInBounds_toArray, List.set_cons_zero, List.set_cons_succ]
                    refine wpAnyH_take (i := 10) (oi := { dst := some 71, op := Go.Op.load 38 (Go.Operand.tmp 70), type := 38, pos := "law.go:125", after := #[{ on := 9, ground := Go.Ground.data }], guard := none }) (v := ?va0110) rfl (by kernel_rfl) (by kernel_rfl) (by kernel_rfl) (fun _ _ _ h => h) (Or.inl ⟨by rfl, ?ya0110⟩) (by assumption) ?_
                    case ya0110 => (intro wX hSw; (try dsimp only at hSw); go_simp <;> with_reducible rfl)
                    try simp only [Act.put, List.setIfInBounds_toArray, List.set_cons_zero, List.set_cons_succ]
                    refine wpAnyH_ready (rs := [5]) (by kernel_rfl) (by simp) (AllReadyH.cons (o := { dst := some 66, op := Go.Op.call { callee := Go.Callee.value (Go.Operand.func 24), args := #[Go.Operand.tmp 61, Go.Operand.tmp 65], argTypes := #[35, 38] }, type := 3, pos := "law.go:125", after := #[{ on := 0, ground := Go.Ground.data }, { on := 4, ground := Go.Ground.data }], guard := none }) rfl (fun K hK => ?_) AllReadyH.nil)
                    (go_simp; go_at_call 24; refine (cX _ ((Below.refl _ _).drew)).mono ?_; rintro e wc0 ⟨rfl, hbc0⟩)
                    refine hK.out _ _ (⟨(Below.refl _ _).drew.trans hbc0, FF.out _ ((Below.refl _ _).drew.trans hbc0)⟩) (fun hHeld => ?_)
                    clear hK K
                    try simp only [Act.put, List.setIfInBounds_toArray, List.set_cons_zero, List.set_cons_succ]
                    refine wpAnyH_ready (rs := [11]) (by kernel_rfl) (by simp) (AllReadyH.cons (o := { dst := some 72, op := Go.Op.call { callee := Go.Callee.value (Go.Operand.func 24), args := #[Go.Operand.tmp 67, Go.Operand.tmp 71], argTypes := #[35, 38] }, type := 3, pos := "law.go:125", after := #[{ on := 6, ground := Go.Ground.data }, { on := 10, ground := Go.Ground.data }, { on := 5, ground := Go.Ground.chain }], guard := none }) rfl (fun K hK => ?_) AllReadyH.nil)
                    (go_simp; go_at_call 24; refine (cL _ (hHeld.1)).mono ?_; rintro e wc1 ⟨rfl, hbc1⟩)
                    refine hK.out _ _ (⟨hHeld.1.trans (hbc1.mono hHeld.1.size), FF.out _ (hHeld.1.trans (hbc1.mono hHeld.1.size))⟩) (fun hHeld => ?_)
                    clear hK K
                    try simp only [Act.put, List.setIfInBounds_toArray, List.set_cons_zero, List.set_cons_succ]
                    refine wpAnyH_take (i := 12) (oi := { dst := some 73, op := Go.Op.binOp Go.BinOp.neq 3 (Go.Operand.tmp 66) (Go.Operand.tmp 72) 3, type := 4, pos := "law.go:125", after := #[{ on := 5, ground := Go.Ground.data }, { on := 11, ground := Go.Ground.data }], guard := none }) (v := ?va0112) rfl (by kernel_rfl) (by kernel_rfl) (by kernel_rfl) (fun _ _ _ h => h) (Or.inl ⟨by rfl, ?ya0112⟩) (by assumption) ?_
                    case ya0112 => (intro wX hSw; (try dsimp only at hSw); go_simp <;> with_reducible rfl)
                    try simp only [Act.put, List.setIfInBounds_toArray, List.set_cons_zero, List.set_cons_succ]
                    refine wpAnyH_take (i := 13) (oi := { dst := some 74, op := Go.Op.move (Go.Operand.tmp 73), type := 4, pos := "law.go:125", after := #[{ on := 12, ground := Go.Ground.data }, { on := 11, ground := Go.Ground.chain }], guard := none }) (v := ?va0113) rfl (by kernel_rfl) (by kernel_rfl) (by kernel_rfl) (fun _ _ _ h => h) (Or.inl ⟨by rfl, ?ya0113⟩) (by assumption) ?_
                    case ya0113 => (intro wX hSw; (try dsimp only at hSw); go_simp <;> with_reducible rfl)
                    try simp only [Act.put, List.setIfInBounds_toArray, List.set_cons_zero, List.set_cons_succ]
                    refine wpAnyH_take (i := 14) (oi := { dst := some 75, op := Go.Op.move (Go.Operand.tmp 8), type := 35, pos := "law.go:125", after := #[{ on := 13, ground := Go.Ground.guard }], guard := some (13, false) }) (v := ?va0114) rfl (by kernel_rfl) (by kernel_rfl) (by kernel_rfl) (fun _ _ _ h => h) (Or.inl ⟨by rfl, ?ya0114⟩) (by assumption) ?_
                    case ya0114 => (intro wX hSw; (try dsimp only at hSw); go_simp <;> with_reducible rfl)
                    try simp only [Act.put, List.setIfInBounds_toArray, List.set_cons_zero, List.set_cons_succ]
                    refine wpAnyH_take (i := 15) (oi := { dst := some 76, op := Go.Op.move (Go.Operand.tmp 10), type := 3, pos := "law.go:125", after := #[{ on := 13, ground := Go.Ground.guard }], guard := some (13, false) }) (v := ?va0115) rfl (by kernel_rfl) (by kernel_rfl) (by kernel_rfl) (fun _ _ _ h => h) (Or.inl ⟨by rfl, ?ya0115⟩) (by assumption) ?_
                    case ya0115 => (intro wX hSw; (try dsimp only at hSw); go_simp <;> with_reducible rfl)
                    try simp only [Act.put, List.setIfInBounds_toArray, List.set_cons_zero, List.set_cons_succ]
                    refine wpAnyH_take (i := 16) (oi := { dst := some 77, op := Go.Op.indexAddr 35 (Go.Operand.tmp 75) (Go.Operand.tmp 76), type := 0, pos := "law.go:125", after := #[{ on := 14, ground := Go.Ground.data }, { on := 15, ground := Go.Ground.data }, { on := 13, ground := Go.Ground.guard }], guard := some (13, false) }) (v := ?va0116) rfl (by kernel_rfl) (by kernel_rfl) (by kernel_rfl) (fun _ _ _ h => h) (Or.inl ⟨by rfl, ?ya0116⟩) (by assumption) ?_
                    case ya0116 => (intro wX hSw; (try dsimp only at hSw); go_simp <;> with_reducible rfl)
                    try simp only [Act.put, List.setIfInBounds_toArray, List.set_cons_zero, List.set_cons_succ]
                    refine wpAnyH_take (i := 17) (oi := { dst := some 78, op := Go.Op.load 38 (Go.Operand.tmp 77), type := 38, pos := "law.go:125", after := #[{ on := 16, ground := Go.Ground.data }, { on := 13, ground := Go.Ground.guard }], guard := some (13, false) }) (v := ?va0117) rfl (by kernel_rfl) (by kernel_rfl) (by kernel_rfl) (fun _ _ _ h => h) (Or.inl ⟨by rfl, ?ya0117⟩) (by assumption) ?_
                    case ya0117 => (intro wX hSw; (try dsimp only at hSw); go_simp <;> with_reducible rfl)
                    try simp only [Act.put, List.setIfInBounds_toArray, List.set_cons_zero, List.set_cons_succ]
                    refine wpAnyH_take (i := 18) (oi := { dst := some 79, op := Go.Op.move (Go.Operand.tmp 4), type := 35, pos := "law.go:125", after := #[{ on := 13, ground := Go.Ground.guard }], guard := some (13, false) }) (v := ?va0118) rfl (by kernel_rfl) (by kernel_rfl) (by kernel_rfl) (fun _ _ _ h => h) (Or.inl ⟨by rfl, ?ya0118⟩) (by assumption) ?_
                    case ya0118 => (intro wX hSw; (try dsimp only at hSw); go_simp <;> with_reducible rfl)
                    try simp only [Act.put, List.setIfInBounds_toArray, List.set_cons_zero, List.set_cons_succ]
                    refine wpAnyH_take (i := 19) (oi := { dst := some 80, op := Go.Op.move (Go.Operand.tmp 10), type := 3, pos := "law.go:125", after := #[{ on := 13, ground := Go.Ground.guard }], guard := some (13, false) }) (v := ?va0119) rfl (by kernel_rfl) (by kernel_rfl) (by kernel_rfl) (fun _ _ _ h => h) (Or.inl ⟨by rfl, ?ya0119⟩) (by assumption) ?_
                    case ya0119 => (intro wX hSw; (try dsimp only at hSw); go_simp <;> with_reducible rfl)
                    try simp only [Act.put, List.setIfInBounds_toArray, List.set_cons_zero, List.set_cons_succ]
                    refine wpAnyH_take (i := 20) (oi := { dst := some 81, op := Go.Op.indexAddr 35 (Go.Operand.tmp 79) (Go.Operand.tmp 80), type := 0, pos := "law.go:125", after := #[{ on := 18, ground := Go.Ground.data }, { on := 19, ground := Go.Ground.data }, { on := 13, ground := Go.Ground.guard }], guard := some (13, false) }) (v := ?va0120) rfl (by kernel_rfl) (by kernel_rfl) (by kernel_rfl) (fun _ _ _ h => h) (Or.inl ⟨by rfl, ?ya0120⟩) (by assumption) ?_
                    case ya0120 => (intro wX hSw; (try dsimp only at hSw); go_simp <;> with_reducible rfl)
                    try simp only [Act.put, List.setIfInBounds_toArray, List.set_cons_zero, List.set_cons_succ]
                    refine wpAnyH_take (i := 21) (oi := { dst := some 82, op := Go.Op.load 38 (Go.Operand.tmp 81), type := 38, pos := "law.go:125", after := #[{ on := 20, ground := Go.Ground.data }, { on := 13, ground := Go.Ground.guard }], guard := some (13, false) }) (v := ?va0121) rfl (by kernel_rfl) (by kernel_rfl) (by kernel_rfl) (fun _ _ _ h => h) (Or.inl ⟨by rfl, ?ya0121⟩) (by assumption) ?_
                    case ya0121 => (intro wX hSw; (try dsimp only at hSw); go_simp <;> with_reducible rfl)
                    try simp only [Act.put, List.setIfInBounds_toArray, List.set_cons_zero, List.set_cons_succ]
                    refine wpAnyH_take (i := 22) (oi := { dst := some 83, op := Go.Op.binOp Go.BinOp.neq 38 (Go.Operand.tmp 78) (Go.Operand.tmp 82) 38, type := 4, pos := "law.go:125", after := #[{ on := 17, ground := Go.Ground.data }, { on := 21, ground := Go.Ground.data }, { on := 13, ground := Go.Ground.guard }], guard := some (13, false) }) (v := ?va0122) rfl (by kernel_rfl) (by kernel_rfl) (by kernel_rfl) (fun _ _ _ h => h) (Or.inl ⟨by rfl, ?ya0122⟩) (by assumption) ?_
                    case ya0122 => (intro wX hSw; (try dsimp only at hSw); go_simp <;> with_reducible rfl)
                    try simp only [Act.put, List.setIfInBounds_toArray, List.set_cons_zero, List.set_cons_succ]
                    refine wpAnyH_take (i := 23) (oi := { dst := some 84, op := Go.Op.pick (Go.Operand.tmp 74) (Go.Operand.const (Go.Value.bool true)) (Go.Operand.tmp 83), type := 4, pos := "law.go:125", after := #[{ on := 13, ground := Go.Ground.data }, { on := 22, ground := Go.Ground.data }], guard := none }) (v := ?va0123) rfl (by kernel_rfl) (by kernel_rfl) (by kernel_rfl) (fun _ _ _ h => h) (Or.inl ⟨by rfl, ?ya0123⟩) (by assumption) ?_
                    case ya0123 => (intro wX hSw; (try dsimp only at hSw); go_simp <;> with_reducible rfl)
                    try simp only [Act.put, List.setIfInBounds_toArray, List.set_cons_zero, List.set_cons_succ]
                    refine wpAnyH_take (i := 24) (oi := { dst := some 85, op := Go.Op.move (Go.Operand.tmp 84), type := 4, pos := "law.go:125", after := #[{ on := 23, ground := Go.Ground.data }, { on := 13, ground := Go.Ground.chain }], guard := none }) (v := ?va0124) rfl (by kernel_rfl) (by kernel_rfl) (by kernel_rfl) (fun _ _ _ h => h) (Or.inl ⟨by rfl, ?ya0124⟩) (by assumption) ?_
                    case ya0124 => (intro wX hSw; (try dsimp only at hSw); go_simp <;> with_reducible rfl)
                    try simp only [Act.put, List.setIfInBounds_toArray, List.set_cons_zero, List.set_cons_succ]
                    refine wpAnyH_take (i := 25) (oi := { dst := some 86, op := Go.Op.move (Go.Operand.tmp 10), type := 3, pos := "law.go:125", after := #[{ on := 24, ground := Go.Ground.guard }], guard := some (24, false) }) (v := ?va0125) rfl (by kernel_rfl) (by kernel_rfl) (by kernel_rfl) (fun _ _ _ h => h) (Or.inl ⟨by rfl, ?ya0125⟩) (by assumption) ?_
                    case ya0125 => (intro wX hSw; (try dsimp only at hSw); go_simp <;> with_reducible rfl)
                    try simp only [Act.put, List.setIfInBounds_toArray, List.set_cons_zero, List.set_cons_succ]
                    refine wpAnyH_take (i := 26) (oi := { dst := some 87, op := Go.Op.binOp Go.BinOp.gtr 3 (Go.Operand.tmp 86) (Go.Operand.const (Go.Value.int Go.IntKind.i64 0)) 3, type := 4, pos := "law.go:125", after := #[{ on := 25, ground := Go.Ground.data }, { on := 24, ground := Go.Ground.guard }], guard := some (24, false) }) (v := ?va0126) rfl (by kernel_rfl) (by kernel_rfl) (by kernel_rfl) (fun _ _ _ h => h) (Or.inl ⟨by rfl, ?ya0126⟩) (by assumption) ?_
                    case ya0126 => (intro wX hSw; (try dsimp only at hSw); go_simp <;> with_reducible rfl)
                    try simp only [Act.put, List.setIfInBounds_toArray, List.set_cons_zero, List.set_cons_succ]
                    refine wpAnyH_take (i := 27) (oi := { dst := some 88, op := Go.Op.move (Go.Operand.tmp 87), type := 4, pos := "law.go:125", after := #[{ on := 26, ground := Go.Ground.data }, { on := 24, ground := Go.Ground.chain }, { on := 24, ground := Go.Ground.guard }], guard := some (24, false) }) (v := ?va0127) rfl (by kernel_rfl) (by kernel_rfl) (by kernel_rfl) (fun _ _ _ h => h) (Or.inl ⟨by rfl, ?ya0127⟩) (by assumption) ?_
                    case ya0127 => (intro wX hSw; (try dsimp only at hSw); go_simp <;> with_reducible rfl)
                    try simp only [Act.put, List.setIfInBounds_toArray, List.set_cons_zero, List.set_cons_succ]
                    refine wpAnyH_take (i := 28) (oi := { dst := some 89, op := Go.Op.move (Go.Operand.tmp 4), type := 35, pos := "law.go:125", after := #[{ on := 27, ground := Go.Ground.guard }], guard := some (27, true) }) (v := ?va0128) rfl (by kernel_rfl) (by kernel_rfl) (by kernel_rfl) (fun _ _ _ h => h) (Or.inl ⟨by rfl, ?ya0128⟩) (by assumption) ?_
                    case ya0128 => (intro wX hSw; (try dsimp only at hSw); go_simp <;> with_reducible rfl)
                    try simp only [Act.put, List.setIfInBounds_toArray, List.set_cons_zero, List.set_cons_succ]
                    refine wpAnyH_take (i := 29) (oi := { dst := some 90, op := Go.Op.move (Go.Operand.tmp 10), type := 3, pos := "law.go:125", after := #[{ on := 27, ground := Go.Ground.guard }], guard := some (27, true) }) (v := ?va0129) rfl (by kernel_rfl) (by kernel_rfl) (by kernel_rfl) (fun _ _ _ h => h) (Or.inl ⟨by rfl, ?ya0129⟩) (by assumption) ?_
                    case ya0129 => (intro wX hSw; (try dsimp only at hSw); go_simp <;> with_reducible rfl)
                    try simp only [Act.put, List.setIfInBounds_toArray, List.set_cons_zero, List.set_cons_succ]
                    refine wpAnyH_take (i := 30) (oi := { dst := some 91, op := Go.Op.indexAddr 35 (Go.Operand.tmp 89) (Go.Operand.tmp 90), type := 0, pos := "law.go:125", after := #[{ on := 28, ground := Go.Ground.data }, { on := 29, ground := Go.Ground.data }, { on := 27, ground := Go.Ground.guard }], guard := some (27, true) }) (v := ?va0130) rfl (by kernel_rfl) (by kernel_rfl) (by kernel_rfl) (fun _ _ _ h => h) (Or.inl ⟨by rfl, ?ya0130⟩) (by assumption) ?_
                    case ya0130 => (intro wX hSw; (try dsimp only at hSw); go_simp <;> with_reducible rfl)
                    try simp only [Act.put, List.setIfInBounds_toArray, List.set_cons_zero, List.set_cons_succ]
                    refine wpAnyH_take (i := 31) (oi := { dst := some 92, op := Go.Op.load 38 (Go.Operand.tmp 91), type := 38, pos := "law.go:125", after := #[{ on := 30, ground := Go.Ground.data }, { on := 27, ground := Go.Ground.guard }], guard := some (27, true) }) (v := ?va0131) rfl (by kernel_rfl) (by kernel_rfl) (by kernel_rfl) (fun _ _ _ h => h) (Or.inl ⟨by rfl, ?ya0131⟩) (by assumption) ?_
                    case ya0131 => (intro wX hSw; (try dsimp only at hSw); go_simp <;> with_reducible rfl)
                    try simp only [Act.put, List.setIfInBounds_toArray, List.set_cons_zero, List.set_cons_succ]
                    refine wpAnyH_take (i := 32) (oi := { dst := some 93, op := Go.Op.move (Go.Operand.tmp 4), type := 35, pos := "law.go:125", after := #[{ on := 27, ground := Go.Ground.guard }], guard := some (27, true) }) (v := ?va0132) rfl (by kernel_rfl) (by kernel_rfl) (by kernel_rfl) (fun _ _ _ h => h) (Or.inl ⟨by rfl, ?ya0132⟩) (by assumption) ?_
                    case ya0132 => (intro wX hSw; (try dsimp only at hSw); go_simp <;> with_reducible rfl)
                    try simp only [Act.put, List.setIfInBounds_toArray, List.set_cons_zero, List.set_cons_succ]
                    refine wpAnyH_take (i := 33) (oi := { dst := some 94, op := Go.Op.move (Go.Operand.tmp 10), type := 3, pos := "law.go:125", after := #[{ on := 27, ground := Go.Ground.guard }], guard := some (27, true) }) (v := ?va0133) rfl (by kernel_rfl) (by kernel_rfl) (by kernel_rfl) (fun _ _ _ h => h) (Or.inl ⟨by rfl, ?ya0133⟩) (by assumption) ?_
                    case ya0133 => (intro wX hSw; (try dsimp only at hSw); go_simp <;> with_reducible rfl)
                    try simp only [Act.put, List.setIfInBounds_toArray, List.set_cons_zero, List.set_cons_succ]
                    refine wpAnyH_take (i := 34) (oi := { dst := some 95, op := Go.Op.binOp Go.BinOp.sub 3 (Go.Operand.tmp 94) (Go.Operand.const (Go.Value.int Go.IntKind.i64 1)) 3, type := 3, pos := "law.go:125", after := #[{ on := 33, ground := Go.Ground.data }, { on := 27, ground := Go.Ground.guard }], guard := some (27, true) }) (v := ?va0134) rfl (by kernel_rfl) (by kernel_rfl) (by kernel_rfl) (fun _ _ _ h => h) (Or.inl ⟨by rfl, ?ya0134⟩) (by assumption) ?_
                    case ya0134 => (intro wX hSw; (try dsimp only at hSw); go_simp <;> with_reducible rfl)
                    try simp only [Act.put, List.setIfInBounds_toArray, List.set_cons_zero, List.set_cons_succ]
                    refine wpAnyH_take (i := 35) (oi := { dst := some 96, op := Go.Op.indexAddr 35 (Go.Operand.tmp 93) (Go.Operand.tmp 95), type := 0, pos := "law.go:125", after := #[{ on := 32, ground := Go.Ground.data }, { on := 34, ground := Go.Ground.data }, { on := 27, ground := Go.Ground.guard }], guard := some (27, true) }) (v := ?va0135) rfl (by kernel_rfl) (by kernel_rfl) (by kernel_rfl) (fun _ _ _ h => h) (Or.inl ⟨by rfl, ?ya0135⟩) (by assumption) ?_
                    case ya0135 => (intro wX hSw; (try dsimp only at hSw); go_simp <;> with_reducible rfl)
                    try simp only [Act.put, List.setIfInBounds_toArray, List.set_cons_zero, List.set_cons_succ]
                    refine wpAnyH_take (i := 36) (oi := { dst := some 97, op := Go.Op.load 38 (Go.Operand.tmp 96), type := 38, pos := "law.go:125", after := #[{ on := 35, ground := Go.Ground.data }, { on := 27, ground := Go.Ground.guard }], guard := some (27, true) }) (v := ?va0136) rfl (by kernel_rfl) (by kernel_rfl) (by kernel_rfl) (fun _ _ _ h => h) (Or.inl ⟨by rfl, ?ya0136⟩) (by assumption) ?_
                    case ya0136 => (intro wX hSw; (try dsimp only at hSw); go_simp <;> with_reducible rfl)
                    try simp only [Act.put, List.setIfInBounds_toArray, List.set_cons_zero, List.set_cons_succ]
                    refine wpAnyH_ready (rs := [37]) (by kernel_rfl) (by simp) (AllReadyH.cons (o := { dst := some 98, op := Go.Op.call { callee := Go.Callee.value (Go.Operand.func 16), args := #[Go.Operand.tmp 92, Go.Operand.tmp 97], argTypes := #[38, 38] }, type := 4, pos := "law.go:125", after := #[{ on := 31, ground := Go.Ground.data }, { on := 36, ground := Go.Ground.data }, { on := 27, ground := Go.Ground.chain }, { on := 27, ground := Go.Ground.guard }], guard := some (27, true) }) rfl (fun K hK => ?_) AllReadyH.nil)
                    (go_simp; go_at_call 16; refine (cA _).mono ?_; rintro e wc2 ⟨rfl, hbc2⟩)
                    refine hK.out _ _ (⟨hHeld.1.trans (hbc2.mono hHeld.1.size), FF.out _ (hHeld.1.trans (hbc2.mono hHeld.1.size))⟩) (fun hHeld => ?_)
                    clear hK K
                    try simp only [Act.put, List.setIfInBounds_toArray, List.set_cons_zero, List.set_cons_succ]
                    refine wpAnyH_take (i := 38) (oi := { dst := some 99, op := Go.Op.pick (Go.Operand.tmp 88) (Go.Operand.tmp 98) (Go.Operand.const (Go.Value.bool false)), type := 4, pos := "law.go:125", after := #[{ on := 27, ground := Go.Ground.data }, { on := 37, ground := Go.Ground.data }, { on := 24, ground := Go.Ground.guard }], guard := some (24, false) }) (v := ?va0138) rfl (by kernel_rfl) (by kernel_rfl) (by kernel_rfl) (fun _ _ _ h => h) (Or.inl ⟨by rfl, ?ya0138⟩) (by assumption) ?_
                    case ya0138 => (intro wX hSw; (try dsimp only at hSw); go_simp <;> with_reducible rfl)
                    try simp only [Act.put, List.setIfInBounds_toArray, List.set_cons_zero, List.set_cons_succ]
                    refine wpAnyH_take (i := 39) (oi := { dst := some 100, op := Go.Op.pick (Go.Operand.tmp 85) (Go.Operand.const (Go.Value.bool true)) (Go.Operand.tmp 99), type := 4, pos := "law.go:125", after := #[{ on := 24, ground := Go.Ground.data }, { on := 38, ground := Go.Ground.data }], guard := none }) (v := ?va0139) rfl (by kernel_rfl) (by kernel_rfl) (by kernel_rfl) (fun _ _ _ h => h) (Or.inl ⟨by rfl, ?ya0139⟩) (by assumption) ?_
                    case ya0139 => (intro wX hSw; (try dsimp only at hSw); go_simp <;> with_reducible rfl)
                    try simp only [Act.put, List.setIfInBounds_toArray, List.set_cons_zero, List.set_cons_succ]
                    refine wpAnyH_take (i := 40) (oi := { dst := some 101, op := Go.Op.move (Go.Operand.tmp 100), type := 4, pos := "law.go:125", after := #[{ on := 39, ground := Go.Ground.data }, { on := 37, ground := Go.Ground.chain }], guard := none }) (v := ?va0140) rfl (by kernel_rfl) (by kernel_rfl) (by kernel_rfl) (fun _ _ _ h => h) (Or.inl ⟨by rfl, ?ya0140⟩) (by assumption) ?_
                    case ya0140 => (intro wX hSw; (try dsimp only at hSw); go_simp <;> with_reducible rfl)
                    try simp only [Act.put, List.setIfInBounds_toArray, List.set_cons_zero, List.set_cons_succ]
                    refine wpAnyH_take (i := 41) (oi := { dst := some 102, op := Go.Op.move (Go.Operand.tmp 9), type := 4, pos := "law.go:125", after := #[{ on := 40, ground := Go.Ground.guard }], guard := some (40, false) }) (v := ?va0141) rfl (by kernel_rfl) (by kernel_rfl) (by kernel_rfl) (fun _ _ _ h => h) (Or.inl ⟨by rfl, ?ya0141⟩) (by assumption) ?_
                    case ya0141 => (intro wX hSw; (try dsimp only at hSw); go_simp <;> with_reducible rfl)
                    try simp only [Act.put, List.setIfInBounds_toArray, List.set_cons_zero, List.set_cons_succ]
                    refine wpAnyH_take (i := 42) (oi := { dst := some 103, op := Go.Op.move (Go.Operand.tmp 102), type := 4, pos := "law.go:125", after := #[{ on := 41, ground := Go.Ground.data }, { on := 40, ground := Go.Ground.chain }, { on := 40, ground := Go.Ground.guard }], guard := some (40, false) }) (v := ?va0142) rfl (by kernel_rfl) (by kernel_rfl) (by kernel_rfl) (fun _ _ _ h => h) (Or.inl ⟨by rfl, ?ya0142⟩) (by assumption) ?_
                    case ya0142 => (intro wX hSw; (try dsimp only at hSw); go_simp <;> with_reducible rfl)
                    try simp only [Act.put, List.setIfInBounds_toArray, List.set_cons_zero, List.set_cons_succ]
                    refine wpAnyH_take (i := 43) (oi := { dst := some 104, op := Go.Op.move (Go.Operand.tmp 7), type := 35, pos := "law.go:125", after := #[{ on := 42, ground := Go.Ground.guard }], guard := some (42, true) }) (v := undef) rfl (by kernel_rfl) (by kernel_rfl) (by kernel_rfl) (fun _ _ _ h => h) (Or.inr ⟨by rfl, rfl⟩) (by assumption) ?_
                    try simp only [Act.put, List.setIfInBounds_toArray, List.set_cons_zero, List.set_cons_succ]
                    refine wpAnyH_take (i := 44) (oi := { dst := some 105, op := Go.Op.move (Go.Operand.tmp 10), type := 3, pos := "law.go:125", after := #[{ on := 42, ground := Go.Ground.guard }], guard := some (42, true) }) (v := undef) rfl (by kernel_rfl) (by kernel_rfl) (by kernel_rfl) (fun _ _ _ h => h) (Or.inr ⟨by rfl, rfl⟩) (by assumption) ?_
                    try simp only [Act.put, List.setIfInBounds_toArray, List.set_cons_zero, List.set_cons_succ]
                    refine wpAnyH_take (i := 45) (oi := { dst := some 106, op := Go.Op.indexAddr 35 (Go.Operand.tmp 104) (Go.Operand.tmp 105), type := 0, pos := "law.go:125", after := #[{ on := 43, ground := Go.Ground.data }, { on := 44, ground := Go.Ground.data }, { on := 42, ground := Go.Ground.guard }], guard := some (42, true) }) (v := undef) rfl (by kernel_rfl) (by kernel_rfl) (by kernel_rfl) (fun _ _ _ h => h) (Or.inr ⟨by rfl, rfl⟩) (by assumption) ?_
                    try simp only [Act.put, List.setIfInBounds_toArray, List.set_cons_zero, List.set_cons_succ]
                    refine wpAnyH_take (i := 46) (oi := { dst := some 107, op := Go.Op.load 38 (Go.Operand.tmp 106), type := 38, pos := "law.go:125", after := #[{ on := 45, ground := Go.Ground.data }, { on := 42, ground := Go.Ground.guard }], guard := some (42, true) }) (v := undef) rfl (by kernel_rfl) (by kernel_rfl) (by kernel_rfl) (fun _ _ _ h => h) (Or.inr ⟨by rfl, rfl⟩) (by assumption) ?_
                    try simp only [Act.put, List.setIfInBounds_toArray, List.set_cons_zero, List.set_cons_succ]
                    refine wpAnyH_take (i := 47) (oi := { dst := some 108, op := Go.Op.move (Go.Operand.tmp 4), type := 35, pos := "law.go:125", after := #[{ on := 42, ground := Go.Ground.guard }], guard := some (42, true) }) (v := undef) rfl (by kernel_rfl) (by kernel_rfl) (by kernel_rfl) (fun _ _ _ h => h) (Or.inr ⟨by rfl, rfl⟩) (by assumption) ?_
                    try simp only [Act.put, List.setIfInBounds_toArray, List.set_cons_zero, List.set_cons_succ]
                    refine wpAnyH_take (i := 48) (oi := { dst := some 109, op := Go.Op.move (Go.Operand.tmp 10), type := 3, pos := "law.go:125", after := #[{ on := 42, ground := Go.Ground.guard }], guard := some (42, true) }) (v := undef) rfl (by kernel_rfl) (by kernel_rfl) (by kernel_rfl) (fun _ _ _ h => h) (Or.inr ⟨by rfl, rfl⟩) (by assumption) ?_
                    try simp only [Act.put, List.setIfInBounds_toArray, List.set_cons_zero, List.set_cons_succ]
                    refine wpAnyH_take (i := 49) (oi := { dst := some 110, op := Go.Op.indexAddr 35 (Go.Operand.tmp 108) (Go.Operand.tmp 109), type := 0, pos := "law.go:125", after := #[{ on := 47, ground := Go.Ground.data }, { on := 48, ground := Go.Ground.data }, { on := 42, ground := Go.Ground.guard }], guard := some (42, true) }) (v := undef) rfl (by kernel_rfl) (by kernel_rfl) (by kernel_rfl) (fun _ _ _ h => h) (Or.inr ⟨by rfl, rfl⟩) (by assumption) ?_
                    try simp only [Act.put, List.setIfInBounds_toArray, List.set_cons_zero, List.set_cons_succ]
                    refine wpAnyH_take (i := 50) (oi := { dst := some 111, op := Go.Op.load 38 (Go.Operand.tmp 110), type := 38, pos := "law.go:125", after := #[{ on := 49, ground := Go.Ground.data }, { on := 42, ground := Go.Ground.guard }], guard := some (42, true) }) (v := undef) rfl (by kernel_rfl) (by kernel_rfl) (by kernel_rfl) (fun _ _ _ h => h) (Or.inr ⟨by rfl, rfl⟩) (by assumption) ?_
                    try simp only [Act.put, List.setIfInBounds_toArray, List.set_cons_zero, List.set_cons_succ]
                    refine wpAnyH_take (i := 51) (oi := { dst := some 112, op := Go.Op.binOp Go.BinOp.neq 38 (Go.Operand.tmp 107) (Go.Operand.tmp 111) 38, type := 4, pos := "law.go:125", after := #[{ on := 46, ground := Go.Ground.data }, { on := 50, ground := Go.Ground.data }, { on := 42, ground := Go.Ground.guard }], guard := some (42, true) }) (v := undef) rfl (by kernel_rfl) (by kernel_rfl) (by kernel_rfl) (fun _ _ _ h => h) (Or.inr ⟨by rfl, rfl⟩) (by assumption) ?_
                    try simp only [Act.put, List.setIfInBounds_toArray, List.set_cons_zero, List.set_cons_succ]
                    refine wpAnyH_take (i := 52) (oi := { dst := some 113, op := Go.Op.move (Go.Operand.tmp 112), type := 4, pos := "law.go:125", after := #[{ on := 51, ground := Go.Ground.data }, { on := 42, ground := Go.Ground.chain }, { on := 42, ground := Go.Ground.guard }], guard := some (42, true) }) (v := undef) rfl (by kernel_rfl) (by kernel_rfl) (by kernel_rfl) (fun _ _ _ h => h) (Or.inr ⟨by rfl, rfl⟩) (by assumption) ?_
                    try simp only [Act.put, List.setIfInBounds_toArray, List.set_cons_zero, List.set_cons_succ]
                    refine wpAnyH_take (i := 53) (oi := { dst := some 114, op := Go.Op.move (Go.Operand.tmp 10), type := 3, pos := "law.go:125", after := #[{ on := 52, ground := Go.Ground.guard }], guard := some (52, false) }) (v := undef) rfl (by kernel_rfl) (by kernel_rfl) (by kernel_rfl) (fun _ _ _ h => h) (Or.inr ⟨by rfl, rfl⟩) (by assumption) ?_
                    try simp only [Act.put, List.setIfInBounds_toArray, List.set_cons_zero, List.set_cons_succ]
                    refine wpAnyH_take (i := 54) (oi := { dst := some 115, op := Go.Op.binOp Go.BinOp.gtr 3 (Go.Operand.tmp 114) (Go.Operand.const (Go.Value.int Go.IntKind.i64 0)) 3, type := 4, pos := "law.go:125", after := #[{ on := 53, ground := Go.Ground.data }, { on := 52, ground := Go.Ground.guard }], guard := some (52, false) }) (v := undef) rfl (by kernel_rfl) (by kernel_rfl) (by kernel_rfl) (fun _ _ _ h => h) (Or.inr ⟨by rfl, rfl⟩) (by assumption) ?_
                    try simp only [Act.put, List.setIfInBounds_toArray, List.set_cons_zero, List.set_cons_succ]
                    refine wpAnyH_take (i := 55) (oi := { dst := some 116, op := Go.Op.move (Go.Operand.tmp 115), type := 4, pos := "law.go:125", after := #[{ on := 54, ground := Go.Ground.data }, { on := 52, ground := Go.Ground.chain }, { on := 52, ground := Go.Ground.guard }], guard := some (52, false) }) (v := undef) rfl (by kernel_rfl) (by kernel_rfl) (by kernel_rfl) (fun _ _ _ h => h) (Or.inr ⟨by rfl, rfl⟩) (by assumption) ?_
                    try simp only [Act.put, List.setIfInBounds_toArray, List.set_cons_zero, List.set_cons_succ]
                    refine wpAnyH_take (i := 56) (oi := { dst := some 117, op := Go.Op.move (Go.Operand.tmp 4), type := 35, pos := "law.go:125", after := #[{ on := 55, ground := Go.Ground.guard }], guard := some (55, true) }) (v := undef) rfl (by kernel_rfl) (by kernel_rfl) (by kernel_rfl) (fun _ _ _ h => h) (Or.inr ⟨by rfl, rfl⟩) (by assumption) ?_
                    try simp only [Act.put, List.setIfInBounds_toArray, List.set_cons_zero, List.set_cons_succ]
                    refine wpAnyH_take (i := 57) (oi := { dst := some 118, op := Go.Op.move (Go.Operand.tmp 10), type := 3, pos := "law.go:125", after := #[{ on := 55, ground := Go.Ground.guard }], guard := some (55, true) }) (v := undef) rfl (by kernel_rfl) (by kernel_rfl) (by kernel_rfl) (fun _ _ _ h => h) (Or.inr ⟨by rfl, rfl⟩) (by assumption) ?_
                    try simp only [Act.put, List.setIfInBounds_toArray, List.set_cons_zero, List.set_cons_succ]
                    refine wpAnyH_take (i := 58) (oi := { dst := some 119, op := Go.Op.binOp Go.BinOp.sub 3 (Go.Operand.tmp 118) (Go.Operand.const (Go.Value.int Go.IntKind.i64 1)) 3, type := 3, pos := "law.go:125", after := #[{ on := 57, ground := Go.Ground.data }, { on := 55, ground := Go.Ground.guard }], guard := some (55, true) }) (v := undef) rfl (by kernel_rfl) (by kernel_rfl) (by kernel_rfl) (fun _ _ _ h => h) (Or.inr ⟨by rfl, rfl⟩) (by assumption) ?_
                    try simp only [Act.put, List.setIfInBounds_toArray, List.set_cons_zero, List.set_cons_succ]
                    refine wpAnyH_take (i := 59) (oi := { dst := some 120, op := Go.Op.indexAddr 35 (Go.Operand.tmp 117) (Go.Operand.tmp 119), type := 0, pos := "law.go:125", after := #[{ on := 56, ground := Go.Ground.data }, { on := 58, ground := Go.Ground.data }, { on := 55, ground := Go.Ground.guard }], guard := some (55, true) }) (v := undef) rfl (by kernel_rfl) (by kernel_rfl) (by kernel_rfl) (fun _ _ _ h => h) (Or.inr ⟨by rfl, rfl⟩) (by assumption) ?_
                    try simp only [Act.put, List.setIfInBounds_toArray, List.set_cons_zero, List.set_cons_succ]
                    refine wpAnyH_take (i := 60) (oi := { dst := some 121, op := Go.Op.load 38 (Go.Operand.tmp 120), type := 38, pos := "law.go:125", after := #[{ on := 59, ground := Go.Ground.data }, { on := 55, ground := Go.Ground.guard }], guard := some (55, true) }) (v := undef) rfl (by kernel_rfl) (by kernel_rfl) (by kernel_rfl) (fun _ _ _ h => h) (Or.inr ⟨by rfl, rfl⟩) (by assumption) ?_
                    try simp only [Act.put, List.setIfInBounds_toArray, List.set_cons_zero, List.set_cons_succ]
                    refine wpAnyH_take (i := 61) (oi := { dst := some 122, op := Go.Op.move (Go.Operand.tmp 4), type := 35, pos := "law.go:125", after := #[{ on := 55, ground := Go.Ground.guard }], guard := some (55, true) }) (v := undef) rfl (by kernel_rfl) (by kernel_rfl) (by kernel_rfl) (fun _ _ _ h => h) (Or.inr ⟨by rfl, rfl⟩) (by assumption) ?_
                    try simp only [Act.put, List.setIfInBounds_toArray, List.set_cons_zero, List.set_cons_succ]
                    refine wpAnyH_take (i := 62) (oi := { dst := some 123, op := Go.Op.move (Go.Operand.tmp 10), type := 3, pos := "law.go:125", after := #[{ on := 55, ground := Go.Ground.guard }], guard := some (55, true) }) (v := undef) rfl (by kernel_rfl) (by kernel_rfl) (by kernel_rfl) (fun _ _ _ h => h) (Or.inr ⟨by rfl, rfl⟩) (by assumption) ?_
                    try simp only [Act.put, List.setIfInBounds_toArray, List.set_cons_zero, List.set_cons_succ]
                    refine wpAnyH_take (i := 63) (oi := { dst := some 124, op := Go.Op.indexAddr 35 (Go.Operand.tmp 122) (Go.Operand.tmp 123), type := 0, pos := "law.go:125", after := #[{ on := 61, ground := Go.Ground.data }, { on := 62, ground := Go.Ground.data }, { on := 55, ground := Go.Ground.guard }], guard := some (55, true) }) (v := undef) rfl (by kernel_rfl) (by kernel_rfl) (by kernel_rfl) (fun _ _ _ h => h) (Or.inr ⟨by rfl, rfl⟩) (by assumption) ?_
                    try simp only [Act.put, List.setIfInBounds_toArray, List.set_cons_zero, List.set_cons_succ]
                    refine wpAnyH_take (i := 64) (oi := { dst := some 125, op := Go.Op.load 38 (Go.Operand.tmp 124), type := 38, pos := "law.go:125", after := #[{ on := 63, ground := Go.Ground.data }, { on := 55, ground := Go.Ground.guard }], guard := some (55, true) }) (v := undef) rfl (by kernel_rfl) (by kernel_rfl) (by kernel_rfl) (fun _ _ _ h => h) (Or.inr ⟨by rfl, rfl⟩) (by assumption) ?_
                    try simp only [Act.put, List.setIfInBounds_toArray, List.set_cons_zero, List.set_cons_succ]
                    refine wpAnyH_take (i := 65) (oi := { dst := some 126, op := Go.Op.call { callee := Go.Callee.value (Go.Operand.func 16), args := #[Go.Operand.tmp 121, Go.Operand.tmp 125], argTypes := #[38, 38] }, type := 4, pos := "law.go:125", after := #[{ on := 60, ground := Go.Ground.data }, { on := 64, ground := Go.Ground.data }, { on := 55, ground := Go.Ground.chain }, { on := 55, ground := Go.Ground.guard }], guard := some (55, true) }) (v := undef) rfl (by kernel_rfl) (by kernel_rfl) (by kernel_rfl) (fun _ _ _ h => h) (Or.inr ⟨by rfl, rfl⟩) (by assumption) ?_
                    try simp only [Act.put, List.setIfInBounds_toArray, List.set_cons_zero, List.set_cons_succ]
                    refine wpAnyH_take (i := 66) (oi := { dst := some 127, op := Go.Op.unOp Go.UnOp.not 4 (Go.Operand.tmp 126), type := 4, pos := "law.go:125", after := #[{ on := 65, ground := Go.Ground.data }, { on := 55, ground := Go.Ground.guard }], guard := some (55, true) }) (v := undef) rfl (by kernel_rfl) (by kernel_rfl) (by kernel_rfl) (fun _ _ _ h => h) (Or.inr ⟨by rfl, rfl⟩) (by assumption) ?_
                    try simp only [Act.put, List.setIfInBounds_toArray, List.set_cons_zero, List.set_cons_succ]
                    refine wpAnyH_take (i := 67) (oi := { dst := some 128, op := Go.Op.pick (Go.Operand.tmp 116) (Go.Operand.tmp 127) (Go.Operand.const (Go.Value.bool false)), type := 4, pos := "law.go:125", after := #[{ on := 55, ground := Go.Ground.data }, { on := 66, ground := Go.Ground.data }, { on := 52, ground := Go.Ground.guard }], guard := some (52, false) }) (v := undef) rfl (by kernel_rfl) (by kernel_rfl) (by kernel_rfl) (fun _ _ _ h => h) (Or.inr ⟨by rfl, rfl⟩) (by assumption) ?_
                    try simp only [Act.put, List.setIfInBounds_toArray, List.set_cons_zero, List.set_cons_succ]
                    refine wpAnyH_take (i := 68) (oi := { dst := some 129, op := Go.Op.pick (Go.Operand.tmp 113) (Go.Operand.const (Go.Value.bool true)) (Go.Operand.tmp 128), type := 4, pos := "law.go:125", after := #[{ on := 52, ground := Go.Ground.data }, { on := 67, ground := Go.Ground.data }, { on := 42, ground := Go.Ground.guard }], guard := some (42, true) }) (v := undef) rfl (by kernel_rfl) (by kernel_rfl) (by kernel_rfl) (fun _ _ _ h => h) (Or.inr ⟨by rfl, rfl⟩) (by assumption) ?_
                    try simp only [Act.put, List.setIfInBounds_toArray, List.set_cons_zero, List.set_cons_succ]
                    refine wpAnyH_take (i := 69) (oi := { dst := some 130, op := Go.Op.pick (Go.Operand.tmp 103) (Go.Operand.tmp 129) (Go.Operand.const (Go.Value.bool false)), type := 4, pos := "law.go:125", after := #[{ on := 42, ground := Go.Ground.data }, { on := 68, ground := Go.Ground.data }, { on := 40, ground := Go.Ground.guard }], guard := some (40, false) }) (v := ?va0169) rfl (by kernel_rfl) (by kernel_rfl) (by kernel_rfl) (fun _ _ _ h => h) (Or.inl ⟨by rfl, ?ya0169⟩) (by assumption) ?_
                    case ya0169 => (intro wX hSw; (try dsimp only at hSw); go_simp <;> with_reducible rfl)
                    try simp only [Act.put, List.setIfInBounds_toArray, List.set_cons_zero, List.set_cons_succ]
                    refine wpAnyH_take (i := 70) (oi := { dst := some 131, op := Go.Op.pick (Go.Operand.tmp 101) (Go.Operand.const (Go.Value.bool true)) (Go.Operand.tmp 130), type := 4, pos := "law.go:125", after := #[{ on := 40, ground := Go.Ground.data }, { on := 69, ground := Go.Ground.data }], guard := none }) (v := ?va0170) rfl (by kernel_rfl) (by kernel_rfl) (by kernel_rfl) (fun _ _ _ h => h) (Or.inl ⟨by rfl, ?ya0170⟩) (by assumption) ?_
                    case ya0170 => (intro wX hSw; (try dsimp only at hSw); go_simp <;> with_reducible rfl)
                    try simp only [Act.put, List.setIfInBounds_toArray, List.set_cons_zero, List.set_cons_succ]
                    refine wpAnyH_done (by kernel_rfl) ?_ _
                    go_wp2
                    go_meet
                    exact ⟨by first | rfl | simp, hHeld.1⟩
          case rest =>
            as_aux_lemma =>
              obtain ⟨rfl, hb9⟩ := hcut
              go_wp2
              go_roundw
              case rel => exact ⟨i + 1, by go_num, hlt, HBR.out.trans (hb9.mono HBR.out.size)⟩
              case measure => simp [intOf]; omega
        · as_aux_lemma =>
          have dlt : decide ((i : Int) < (n : Int)) = false := decide_eq_false (by omega)
          have dltN : decide (i < n) = false := decide_eq_false hlt
          have c25 := cst b4 o4 C4 _ (RL.out.below hb) (RX.out.below hb)
          have hB7 := Lib.hid (hB6.out.trans (hb.mono hB6.out.size))
          clear cst cc1 cc2 HD HDL HS HAP
          go_wp2_with fail
          refine c25.mono ?_
          rintro e w9 ⟨rfl, hb9⟩
          go_wp2
          go_ret
          exact ⟨rfl, hB7.out.trans (hb9.mono hB7.out.size)⟩
theorem sorts_long (A : Option Addr) (n C : Nat) (w : World) (h : ¬ n ≤ 40) (hL : LaidA w) : Calls Tryd.prog 6 #[.slice A n C] w (BoolPost w true) := by
  have cs := fun W hW => small_any W hW
  have d40 : decide (40 < (n : Int)) = true := decide_eq_true (by omega)
  have d40N : decide (40 < n) = true := decide_eq_true (by omega)
  go_enter Tryd.func6, Tryd.ntmps6
  go_wp2_with fail
  refine (cs _ hL).mono ?_
  rintro e w1 ⟨rfl, hb1⟩
  go_wp2
  go_ret
  exact ⟨rfl, hb1⟩
set_option maxRecDepth 100000 in
set_option maxHeartbeats 4000000 in
theorem sorts_zero (A : Option Addr) (C : Nat) (w : World) (hL : LaidA w) : Calls Tryd.prog 6 #[.slice A 0 C] w (BoolPost w true) := by
  have cs := fun W hW => small_any W hW
  have cz := fun A C W => sort_zero A C W
  have cd := fun W => differ_zero A C W
  have ct := fun A2 C2 W => steady_nil A A2 C C2 W
  go_enter Tryd.func6, Tryd.ntmps6
  go_wp2_with fail
  refine (cs _ hL).mono ?_
  rintro e w1 ⟨rfl, hb1⟩
  go_wp2_with fail
  refine (cz _ _ _).mono ?_
  rintro e w2 ⟨A4, C4, rfl, hb2⟩
  replace hb1 := hb1.trans (hb2.mono hb1.size)
  clear hb2
  go_wp2
  obtain ⟨wo, rfl⟩ : ∃ wo : World, wo = w2 := ⟨_, rfl⟩
  go_loopw [5, 6] (fun v5 v6 wr => v5 = .slice none 0 0 ∧ v6 = .int .i64 (-1) ∧ wr = wo) (fun _ _ _ => 0)
  case atStart => exact ⟨rfl, rfl, rfl⟩
  case round =>
    obtain ⟨rfl, rfl, rfl⟩ := hrel
    go_wp2_with fail
    refine (cz _ _ _).mono ?_
    rintro e w3 ⟨A7, C7, rfl, hb2⟩
    replace hb1 := hb1.trans (hb2.mono hb1.size)
    clear hb2
    go_wp2_with fail
    refine (cz _ _ _).mono ?_
    rintro e w4 ⟨A8, C8, rfl, hb2⟩
    replace hb1 := hb1.trans (hb2.mono hb1.size)
    clear hb2
    go_wp2_with fail
    refine (cd _).mono ?_
    rintro e w5 ⟨rfl, hb2⟩
    replace hb1 := hb1.trans (hb2.mono hb1.size)
    clear hb2
    go_wp2
    go_loopw [10] (fun v10 wr => v10 = .int .i64 0 ∧ wr = w5) (fun _ _ => 0)
    case atStart => exact ⟨rfl, rfl⟩
    case round =>
      obtain ⟨rfl, rfl⟩ := hrel
      go_wp2_with fail
      refine (ct _ _ _).mono ?_
      rintro e w6 ⟨rfl, hb2⟩
      go_wp2
      go_ret
      exact ⟨rfl, hb1.trans (hb2.mono hb1.size)⟩
theorem rsorts_any (l : List Card) (A : Option Addr) (C : Nat) (w : World) (hl : CRow w A l) (hL : LaidA w) : Calls Tryd.prog 6 #[.slice A l.length C] w (BoolPost w true) := by
  by_cases h : l.length ≤ 40
  · by_cases h0 : 0 < l.length
    · obtain ⟨b, o, rfl, _⟩ := hl h0
      exact sorts_main l b o C w h0 h hl hL
    · rw [show l.length = 0 by omega]
      exact sorts_zero A C w hL
  · exact sorts_long A _ C w h hL
end Go.Proofs.YtjcaaiikccnpeaaDoor
