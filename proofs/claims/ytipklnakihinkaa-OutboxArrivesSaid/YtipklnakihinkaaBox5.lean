/- Plan, walked. -/
import Derived.Test.YtipklnakihinkaaBox4
namespace Go.Proofs.Ytipklnakihinkaa
open Go.ChangeShapes Go.WideShapes Go.ChangeAt Go.RowKit
set_option linter.unusedVariables false

theorem planGo_len (X : BoxM) (peer : Nat) (now : Int) (ends : List (List Int)) : ∀ (k i : Nat) (st : Int × List Send), st.2.length ≤ 8 → (X.planGo peer now ends k i st).length ≤ 8
  | 0, i, st, h => h
  | k + 1, i, st, h => by
    rw [BoxM.planGo]
    split
    · exact planGo_len X peer now ends k (i + 1) st h
    · split
      · exact h
      · refine planGo_len X peer now ends k (i + 1) _ ?_
        unfold BoxM.planStep
        simp only
        split
        · exact h
        · split
          · simp; omega
          · exact h
theorem planFor_len (X : BoxM) (peer : Nat) (now : Int) (ends : List (List Int)) : (X.planFor peer now ends).length ≤ 8 := planGo_len X peer now ends _ _ _ (by simp)
theorem clampT_bd (n : Int) : 0 ≤ clampT n ∧ clampT n ≤ 1099511627776 := by
  unfold clampT clampI; (repeat' split) <;> omega
theorem pauseI_bd (k : Int) : 1 ≤ pauseI k ∧ pauseI k ≤ 16 := by
  unfold pauseI; (repeat' split) <;> omega
theorem at_set_ne {X : BoxM} {i j : Nat} (p : Peer) (h : i ≠ j) : (X.setPeer j p).at_ i = X.at_ i := by
  simp [BoxM.at_, BoxM.setPeer, List.getD, Ne.symm h]
/-- what planAll has not come to yet is as it was -/
structure Kin (X Y : BoxM) (k : Nat) : Prop where
  me : Y.me = X.me
  budget : Y.budget = X.budget
  m : Y.m = X.m
  len : Y.l.length = X.l.length
  rest : ∀ i, k ≤ i → Y.at_ i = X.at_ i
theorem Kin.refl (X : BoxM) (k : Nat) : Kin X X k := ⟨rfl, rfl, rfl, rfl, fun _ _ => rfl⟩
theorem Kin.succ {X Y : BoxM} {k : Nat} (h : Kin X Y k) : Kin X Y (k + 1) := ⟨h.me, h.budget, h.m, h.len, fun i hi => h.rest i (by omega)⟩
theorem Kin.bump {X Y : BoxM} {k : Nat} (h : Kin X Y k) (now : Int) : Kin X (Y.bump k now) (k + 1) :=
  ⟨h.me, h.budget, h.m, by simp [BoxM.bump, h.len], fun i hi => (at_set_ne (X := Y) _ (by omega)).trans (h.rest i (by omega))⟩
theorem planAll_skip {now : Int} {ends : List (List Int)} {k n : Nat} {st : BoxM × List Send} (hk : k < n) (h : st.1.dueB k now = false) :
    BoxM.planAll now ends (n - k) k st = BoxM.planAll now ends (n - (k + 1)) (k + 1) st := by
  rw [show n - k = (n - (k + 1)) + 1 by omega, BoxM.planAll, if_pos h]
theorem planAll_none {now : Int} {ends : List (List Int)} {k n : Nat} {st : BoxM × List Send} (hk : k < n) (h : st.1.dueB k now = true) (h2 : st.1.planFor k now ends = []) :
    BoxM.planAll now ends (n - k) k st = BoxM.planAll now ends (n - (k + 1)) (k + 1) st := by
  rw [show n - k = (n - (k + 1)) + 1 by omega, BoxM.planAll, if_neg (by simp [h])]
  simp only [h2, if_true]
theorem planAll_some {now : Int} {ends : List (List Int)} {k n : Nat} {st : BoxM × List Send} (hk : k < n) (h : st.1.dueB k now = true) (h2 : st.1.planFor k now ends ≠ []) :
    BoxM.planAll now ends (n - k) k st = BoxM.planAll now ends (n - (k + 1)) (k + 1) (st.1.bump k now, st.2 ++ st.1.planFor k now ends) := by
  rw [show n - k = (n - (k + 1)) + 1 by omega, BoxM.planAll, if_neg (by simp [h])]
  simp only [h2, if_false]
theorem dueB_idem (X : BoxM) (i now : Int) : X.dueB i (clampT now) = X.dueB i now := by
  have : clampT (clampT now) = clampT now := by unfold clampT clampI; (repeat' split) <;> omega
  simp [BoxM.dueB, this]
theorem dueB_lt {X : BoxM} {i : Nat} {now : Int} (h : X.dueB i now = true) : i < X.l.length := by
  unfold BoxM.dueB BoxM.peerB at h
  simp only [Bool.and_eq_true] at h
  have := h.1.1
  simp [srvB] at this
  exact this
theorem sendCells_append (l r : List Send) : sendCells (l ++ r) = sendCells l ++ sendCells r := by
  induction l with
  | nil => rfl
  | cons s t ih => simp [sendCells, ih]
theorem sendCells_one (l : List Send) : ∀ u ∈ sendCells l, u.oneCell' = true := by
  induction l with
  | nil => simp [sendCells]
  | cons s t ih =>
    intro u hu
    simp only [sendCells, List.mem_cons] at hu
    rcases hu with rfl | rfl | rfl | rfl | hu
    · rfl
    · rfl
    · rfl
    · rfl
    · exact ih u hu
theorem sendCells_length (l : List Send) : (sendCells l).length = l.length * 4 := by
  induction l with
  | nil => rfl
  | cons s t ih => simp [sendCells, ih]; omega

theorem own_some {w : World} {base e size n : Nat} {v : Value} {xs : List Value} (h : w.ownsRow base e size v n xs) (hn : 0 < n) : ∃ g c, v = .slice (some ⟨g, 0, none⟩) n c ∧ base ≤ g ∧ g < w.heap.size := by
  rcases h.2 with ⟨rfl, rfl⟩ | ⟨g, cap, cur, rfl, hg, hh, _⟩
  · omega
  · exact ⟨g, cap, rfl, hg, lt_of_heap hh⟩
theorem own_keep {S : List Nat} {w w' : World} {base e size n : Nat} {v : Value} {xs : List Value} (h : w.ownsRow base e size v n xs) (hc : Chg S w w') (hs : ∀ k, v.ownBlock = some k → k ∉ S) : w'.ownsRow base e size v n xs := by
  refine ⟨h.1, ?_⟩
  rcases h.2 with ⟨rfl, rfl⟩ | ⟨g, cap, cur, rfl, hg, hh, q⟩
  · exact .inl ⟨rfl, rfl⟩
  · exact .inr ⟨g, cap, cur, rfl, hg, hc.heap_some (hs g (by simp [Value.ownBlock])) hh, q⟩
theorem Chg.of_grown {w w' : World} {row : Option Nat} (h : w.grownBy w' row) : Chg row.toList w w' :=
  ⟨h.os, h.tape, h.output, h.size, fun k hk hn => h.block k hk (fun e => hn (by rw [← e]; simp))⟩
/-- a plan for a peer is written down -/
theorem BoxAt.bumped {w : World} {bB bP bM n : Nat} {X : BoxM} (h : BoxAt w bB bP bM n X) {j : Nat} (hj : j < X.l.length) (due waiting : Int) :
    BoxAt ((w.setCell ⟨bP, j * 3 + 1, none⟩ (.int .i64 waiting)).setCell ⟨bP, j * 3, none⟩ (.int .i64 due)) bB bP bM n
      { X with l := X.l.set j { due := due, waiting := waiting, gone := (X.at_ j).gone } } ∧
    Chg [bP] w ((w.setCell ⟨bP, j * 3 + 1, none⟩ (.int .i64 waiting)).setCell ⟨bP, j * 3, none⟩ (.int .i64 due)) :=
  ⟨(h.stored hj due waiting h.sizes h.pos (Chg.refl _ w)).1, ((Chg.refl [bP] w).setCell (by simp) _).setCell (by simp) _⟩

set_option maxHeartbeats 1000000 in
theorem plan_any {bB bP bM n : Nat} {X : BoxM} (now : Int) (ends : List (List Int)) (A : Option Addr) (C : Nat) (ok : Nat → Prop) (w : World) (h : BoxAt w bB bP bM n X) (hb : 64 ≤ X.budget) (hb2 : X.budget ≤ 9223372036854775807)
    (he : RowsAt w ok A ends) (hok : ∀ b, ok b → b ≠ bP) (hel : ends.length ≤ 9223372036854775807) (hel2 : ∀ l, l ∈ ends → l.length ≤ 9223372036854775807 ∧ ∀ x, x ∈ l → wf64 x)
    (hwt : ∀ i, 0 ≤ (X.at_ i).waiting ∧ (X.at_ i).waiting ≤ 1000000000000) :
    Calls Try.prog 12 #[.pointer (some ⟨bB, 0, none⟩), .int .i64 now, .slice A ends.length C] w fun e w' => ∃ v, e = .returned v ∧
      w'.ownsRow w.heap.size 34 4 v (X.plan now ends).2.length (sendCells (X.plan now ends).2) ∧ BoxAt w' bB bP bM n (X.plan now ends).1 ∧ Chg [bP] w w' := by
  have h2 := h.c2
  have hfew := h.few
  obtain ⟨i0, hi, hz0, hz1, hz2⟩ := info_parts info34
  obtain ⟨hN0, hN1⟩ := clampT_bd now
  have hdd : ∀ (Y : BoxM) (i : Int), Y.dueB i (clampT now) = Y.dueB i now := fun Y i => dueB_idem Y i now
  have hnb : bB < w.heap.size ∧ bP < w.heap.size ∧ bM < w.heap.size := ⟨lt_of_heap h.box, lt_of_heap h.peers, h.sizes.lt⟩
  obtain ⟨nb1, nb2, nb3⟩ := hnb
  have hplan : X.plan now ends = BoxM.planAll (clampT now) ends X.l.length 0 (X, []) := rfl
  have HP := Lib.hid hplan
  clear hplan hdd
  obtain ⟨N, hN⟩ : ∃ N, N = clampT now := ⟨_, rfl⟩
  have hcl := fun w => clampt_any now w
  rw [← hN] at hN0 hN1 HP
  simp only [← hN] at hcl
  clear hN
  go_enter Try.func12, Try.ntmps12
  go_wp2_with (go_at_call 18; refine (hcl _).mono ?_; rintro e w' ⟨rfl, rfl⟩)
  go_loopw [7, 18] (fun v i wr => ∃ (k : Nat) (Y : BoxM) (l : List Send), i = .int .i64 k ∧ k ≤ X.l.length ∧ wr.ownsRow w.heap.size 34 4 v l.length (sendCells l) ∧ l.length ≤ 8 * k ∧
      BoxAt wr bB bP bM n Y ∧ Kin X Y k ∧ Chg [bP] w wr ∧ BoxM.planAll N ends (X.l.length - k) k (Y, l) = X.plan now ends)
    (fun _ i _ => X.l.length - (intOf i).toNat)
  case atStart => exact ⟨0, X, [], rfl, by omega, ⟨by simp [sendCells], .inl ⟨rfl, rfl⟩⟩, by simp, h, Kin.refl X 0, Chg.refl _ _, HP.out.symm⟩
  case round =>
    obtain ⟨k, Y, l, rfl, hk, hown, hll, hbox, hkin, hchg, hgo⟩ := hrel
    by_cases hlt : k < X.l.length
    · have hlt2 : k < Y.l.length := by rw [hkin.len]; exact hlt
      have hdue := due_any k N wr hbox
      cases hd : Y.dueB k N
      · rw [planAll_skip hlt hd] at hgo
        rw [hd] at hdue
        have HG := Lib.hid hgo
        clear hgo hd h
        go_wp2_with (go_at_call 14; refine hdue.mono ?_; rintro e w' ⟨rfl, q, rfl⟩)
        go_roundw
        case rel => exact ⟨k + 1, Y, l, by go_num, by omega, hown, by omega, hbox.drewN q, hkin.succ, hchg.drewN q, HG.out⟩
        case measure => simp [intOf]; omega
      · rw [hd] at hdue
        have hrows : RowsAt wr ok A ends := he.keep hchg (by simpa using hok)
        have hpf := fun q => planFor_any k N ends A C ok (wr.drewN q) (hbox.drewN q) (by rw [hkin.budget]; exact hb) (by rw [hkin.budget]; exact hb2) hN0 hN1 hlt2 (hrows.keep ((Chg.refl [] wr).drewN q) (by simp)) hel hel2
        have hsl := planFor_len Y k N ends
        cases hs : Y.planFor k N ends with
        | nil =>
          rw [planAll_none hlt hd hs] at hgo
          simp only [hs] at hpf
          have HG := Lib.hid hgo
          clear hgo hd h hs hsl
          go_wp2_with (first | (go_at_call 14; refine hdue.mono ?_; rintro e w' ⟨rfl, q, rfl⟩) | (go_at_call 19; refine (hpf _).mono ?_; rintro e w1 ⟨v1, rfl, hown1, hbel1⟩; obtain ⟨sa, sc, rfl⟩ := own_form hown1))
          go_roundw
          case rel =>
            have hc1 : Chg [] wr w1 := ((Chg.refl [] wr).drewN q).trans (Chg.of_below hbel1 [])
            exact ⟨k + 1, Y, l, by go_num, by omega, own_keep hown hc1 (by simp), by omega, hbox.keep hc1 (by simp) (by simp) (by simp), hkin.succ, hchg.step hc1 (by simp), HG.out⟩
          case measure => simp [intOf]; omega
        | cons s0 sr =>
          rw [planAll_some hlt hd (by simp [hs])] at hgo
          have HG := Lib.hid hgo
          obtain ⟨s, hs2⟩ : ∃ s, s = Y.planFor k N ends := ⟨_, rfl⟩
          rw [← hs2] at HG hsl
          simp only [← hs2] at hpf
          have hne : ((s.length : Int) == 0) = false := by rw [hs2, hs]; simp; omega
          have hpos : 0 < s.length := by rw [hs2, hs]; simp
          clear hgo hd h hs hs2
          have hone := sendCells_one s
          have hlen := sendCells_length s
          have H19 : ∀ (q : Nat) (w1 : World) (v1 : Value), w1.ownsRow (wr.drewN q).heap.size 34 4 v1 s.length (sendCells s) → Below (wr.drewN q).heap.size (wr.drewN q) w1 → ∃ g sc, v1 = .slice (some ⟨g, 0, none⟩) s.length sc ∧
              (∀ (j : Nat) (u : Value), (sendCells s)[j]? = some u → w1.cell? ((⟨g, 0, none⟩ : Addr).add j) = some u) ∧ w1.ownsRow w.heap.size 34 4 u7 l.length (sendCells l) ∧ BoxAt w1 bB bP bM n Y ∧ w.heap.size ≤ w1.heap.size ∧ Chg [bP] w w1 := by
            intro q w1 v1 h1 h2
            obtain ⟨g, sc, rfl, hg1, hg2⟩ := own_some h1 hpos
            have hc1 : Chg [] wr w1 := ((Chg.refl [] wr).drewN q).trans (Chg.of_below h2 [])
            exact ⟨g, sc, rfl, h1.cells rfl, own_keep hown hc1 (by simp), hbox.keep hc1 (by simp) (by simp) (by simp), Nat.le_trans hchg.size hc1.size, hchg.step hc1 (by simp)⟩
          have H19' := Lib.hid H19
          clear H19 hrows
          go_wp2_with (first | (go_at_call 14; refine hdue.mono ?_; rintro e w' ⟨rfl, q, rfl⟩) | (go_at_call 19; refine (hpf _).mono ?_; rintro e w1 ⟨v1, rfl, hown1, hbel1⟩; obtain ⟨g, sc, rfl, hcs, hownp, hbox1, hwz, hchg1⟩ := H19'.out _ _ _ hown1 hbel1; clear hown1 hbel1) | (at_builtin; refine wpList_append_own _ rfl _ _ 31 rfl w.heap.size 34 i0 (.agg #[.int .i64 0, .int .i64 0, .int .i64 0, .int .i64 0]) 4 32 Try.underlying31 hi hz0 hz1 hz2 rfl (by decide) _ _ _ rfl hownp ⟨g, 0, none⟩ s.length sc (sendCells s) rfl hlen ?c1 ?c2 ?c3 ?c4 ?c5 ?_))
          case c1 => exact hcs
          case c2 => exact hone
          case c3 => unfold maxLen; omega
          case c4 => omega
          case c5 => exact hwz
          intro v2 w2 hown2 hgrow2 _
          have hc2 := Chg.of_grown hgrow2
          have hnew : ∀ b, b ∈ u7.ownBlock.toList → w.heap.size ≤ b := by
            intro b hb
            exact own_base hownp b (by simpa using hb)
          have hbox2 : BoxAt w2 bB bP bM n Y := hbox1.keep hc2 (fun hm => by have := hnew _ hm; omega) (fun hm => by have := hnew _ hm; omega) (fun hm => by have := hnew _ hm; omega)
          have hchg2 : Chg [bP] w w2 := hchg1.step hc2 (fun b hb => .inr (hnew b hb))
          obtain ⟨hw1, hw2⟩ := hwt k
          rw [← hkin.rest k (Nat.le_refl k)] at hw1 hw2
          obtain ⟨hfin1, hfin2⟩ := hbox2.bumped hlt2 (N + pauseI ((Y.at_ k).waiting + 1)) ((Y.at_ k).waiting + 1)
          have HB : Hid (BoxAt _ bB bP bM n (Y.bump k N)) := hfin1
          have HC := Lib.hid (hchg2.step hfin2 (by simp))
          have HO : Hid ((((w2.setCell ⟨bP, k * 3 + 1, none⟩ (.int .i64 ((Y.at_ k).waiting + 1))).setCell ⟨bP, k * 3, none⟩ (.int .i64 (N + pauseI ((Y.at_ k).waiting + 1)))).ownsRow w.heap.size 34 4 v2 (l ++ s).length (sendCells (l ++ s)))) := by
            rw [sendCells_append, List.length_append]
            exact own_keep hown2 hfin2 (fun b hb hm => by
              have h1 := own_base hown2 b hb
              simp only [List.mem_singleton] at hm
              omega)
          have d2 := hbox2.c2
          obtain ⟨d10, d11, _⟩ := hbox2.p hlt2
          have f10 := hbox2.fz (k * 3)
          have f11 := hbox2.fz (k * 3 + 1)
          have hd2 : (w2.setCell ⟨bP, k * 3 + 1, none⟩ (.int .i64 ((Y.at_ k).waiting + 1))).cell? ⟨bP, k * 3, none⟩ = some (.int .i64 (Y.at_ k).due) := by
            rw [World.cell?_setCell_other _ _ _ _ (by simp)]; exact d10
          obtain ⟨hp0, hp1⟩ := pauseI_bd ((Y.at_ k).waiting + 1)
          have hpa := fun w => pause_any ((Y.at_ k).waiting + 1) w (by unfold wf64; omega)
          clear hfin1 hfin2 hown2 hgrow2 hc2 hnew hbox2 hbox1 hchg2 hchg1 hownp hcs hone H19' hpf hdue hwt
          go_wp2_with (go_at_call 20; refine (hpa _).mono ?_; rintro e w' ⟨rfl, rfl⟩)
          go_roundw
          case rel => exact ⟨k + 1, Y.bump k N, l ++ s, by go_num, by omega, HO.out, by simp; omega, HB.out, hkin.bump N, HC.out, HG.out⟩
          case measure => simp [intOf]; omega
    · have e0 : X.l.length - k = 0 := by omega
      rw [e0] at hgo
      have HG : Hid ((Y, l) = X.plan now ends) := hgo
      clear hgo e0
      go_wp2
      go_ret
      rw [← HG.out]
      exact ⟨_, rfl, hown, hbox, hchg⟩
end Go.Proofs.Ytipklnakihinkaa
