/- OutboxArrives: the walk. -/
import Derived.Test.YtipklnakihinkaaBudgetWalk
import Derived.Test.YtipklnakihinkaaArrivesModel
import Derived.Test.YtipklnakihinkaaTail
namespace Go.Proofs.Ytipklnakihinkaa
open Go.ChangeShapes Go.WideShapes Go.ChangeAt Go.RowKit
set_option linter.unusedVariables false

theorem allUpto_le {ends : List (List Int)} (h : ∀ l, l ∈ ends → l.length ≤ 40) : ∀ k, k ≤ ends.length → allUpto ends k ≤ 40 * k
  | 0, _ => Nat.le_refl 0
  | k + 1, hk => by
    have := allUpto_le h k (by omega)
    have h2 : (endsAt ends k).length ≤ 40 := by
      unfold endsAt
      simp only [List.getD, List.getElem?_eq_getElem (show k < ends.length by omega), Option.getD_some]
      exact h _ (List.getElem_mem _)
    simp only [allUpto]
    omega
theorem endsAt_get {ends : List (List Int)} {g : Nat} (h : g < ends.length) : ends[g]? = some (endsAt ends g) := by
  unfold endsAt
  simp [List.getD, List.getElem?_eq_getElem h]

theorem lacks_mono {X Y : BoxM} {me : Int} {ends : List (List Int)} {N p : Nat} (h : ∀ g : Nat, X.m p g ≤ Y.m p g) (hl : lacksB Y me ends N p = true) : lacksB X me ends N p = true := by
  unfold lacksB lacksUpto at *
  rw [List.any_eq_true] at *
  obtain ⟨g, hg, hx⟩ := hl
  refine ⟨g, hg, ?_⟩
  simp only [lacksAt, Bool.and_eq_true, decide_eq_true_eq] at *
  have := h g
  exact ⟨hx.1, hx.2.1, by omega⟩
theorem any_take (l : List Send) (p : Nat) (j : Nat) (h : j < l.length) : (l.take (j + 1)).any (fun s => decide (s.peer = p)) = ((l.take j).any (fun s => decide (s.peer = p)) || decide (l[j].peer = p)) := by
  rw [List.take_succ_eq_append_getElem h, List.any_append, List.any_cons, List.any_nil, Bool.or_false]
set_option maxRecDepth 100000 in
set_option maxHeartbeats 4000000 in
theorem arrives_any (me peers bud : Int) (ends : List (List Int)) (now : Int) (A : Option Addr) (C : Nat) (w : World) (he : RowsAt w (fun b => b < w.heap.size) A ends) (hel : EndsOk ends) (hb : wf64 bud) :
    Calls Try.prog 3 #[.int .i64 me, .int .i64 peers, .int .i64 bud, .slice A ends.length C, .int .i64 now] w (LawPost w) := by
  have hs := small_any
  have hfew := fun w1 (h : Below w.heap.size w w1) => few_any ends A C _ w1 (he.keep (Chg.of_below h []) (by simp)) hel.1
  cases hf : fewB ends
  · simp only [hf] at hfew
    have HF := Lib.hid hfew
    clear hf he hel hfew
    go_enter Try.func3, Try.ntmps3
    go_wp2_with (first | (go_at_call 7; refine (hs _).mono ?_; rintro e w1 ⟨rfl, hb1⟩) | (go_at_call 8; refine (HF.out _ hb1).mono ?_; rintro e w' ⟨rfl, rfl⟩))
    go_ret
    exact ⟨rfl, hb1⟩
  · simp only [hf] at hfew
    have HF := Lib.hid hfew
    have hfw : ends.length ≤ 25 ∧ ∀ l, l ∈ ends → l.length ≤ 40 := by
      unfold fewB at hf
      simp only [Bool.and_eq_true, decide_eq_true_eq, List.all_eq_true] at hf
      exact hf
    obtain ⟨h25, h40⟩ := hfw
    clear hf hfew
    have HEL := Lib.hid hel
    have H40 := Lib.hid h40
    have HAL := Lib.hid (allUpto_le h40)
    have HE := Lib.hid he
    have HBW := Lib.hid hb
    clear he hel h40 hb
    go_enter Try.func3, Try.ntmps3
    go_wp2_with (first | (go_at_call 7; refine (hs _).mono ?_; rintro e w1 ⟨rfl, hb1⟩) | (go_at_call 8; refine (HF.out _ hb1).mono ?_; rintro e w' ⟨rfl, rfl⟩))
    clear hs HF
    have hrows : RowsAt w1 (fun b => b < w.heap.size) A ends := HE.out.keep (Chg.of_below hb1 []) (by simp)
    go_loop [12, 13, 14] (fun a i _ => ∃ k : Nat, i = .int .i64 k ∧ k ≤ ends.length ∧ a = .int .i64 (allUpto ends k)) (fun _ i _ => ends.length - (intOf i).toNat)
    case atStart => exact ⟨0, rfl, by omega, rfl⟩
    case round =>
      obtain ⟨k, rfl, hk, rfl⟩ := hrel
      by_cases hlt : k < ends.length
      · obtain ⟨eb, eo, rfl, _, hrow⟩ := hrows (by omega)
        obtain ⟨rv, hrc, ra, rc, rfl, hints⟩ := hrow k (endsAt ends k) (endsAt_get hlt)
        have hA1 := HAL.out k hk
        have hA2 := HAL.out (k + 1) (by omega)
        have hAS : Hid (allUpto ends (k + 1) = allUpto ends k + (endsAt ends k).length) := rfl
        have hl40 : (endsAt ends k).length ≤ 40 := H40.out _ (List.mem_of_getElem? (endsAt_get hlt))
        have hwf := (HEL.out.2 _ (List.mem_of_getElem? (endsAt_get hlt))).2
        generalize endsAt ends k = es at *
        clear hrow hA2
        go_wp2
        go_loop [14] (fun j => ∃ q : Nat, j = .int .i64 q ∧ q ≤ es.length) (fun j => es.length - (intOf j).toNat)
        case atStart => exact ⟨0, rfl, by omega⟩
        case round =>
          obtain ⟨q, rfl, hq⟩ := hrel
          by_cases hql : q < es.length
          · obtain ⟨ib, io, rfl, _, hx⟩ := hints (by omega)
            have hce := hx q es[q] (List.getElem?_eq_getElem hql)
            generalize es[q] = ev at *
            clear hx hints hwf
            by_cases h400 : 400 < ev
            · go_wp2
              go_ret
              exact ⟨rfl, hb1⟩
            · go_wp2
              go_round
              case rel => exact ⟨q + 1, by go_num, by omega⟩
              case measure => simp [intOf]; omega
          · clear hints hwf
            go_wp2
            go_round
            case rel => exact ⟨k + 1, by go_num, by omega, by rw [hAS.out]; go_num⟩
            case measure => simp [intOf]; omega
      · obtain rfl : k = ends.length := by omega
        have hAL := HAL.out ends.length (Nat.le_refl _)
        clear hrows
        by_cases hok : newOk me peers = true
        · have h4 : 1 ≤ peers ∧ peers ≤ 20 ∧ 0 ≤ me ∧ me < peers := by simpa [newOk] using hok
          obtain ⟨N, rfl⟩ : ∃ N : Nat, peers = N := ⟨peers.toNat, by omega⟩
          have hnew : ∀ w, Calls Try.prog 9 #[.int .i64 me, .int .i64 N, .int .i64 bud] w (NewEx w (newBox me N bud)) := fun w => new_ex me N bud w (by omega) (by omega) (by omega) (by omega)
          obtain ⟨hN1, hN2, hme1, hme2⟩ := h4
          have hmk := make_bools N (by omega)
          clear hok
          go_wp2_with (go_at_call 9; refine (hnew _).mono ?_; rintro e w2 ⟨bB, bP, bM, rfl, hbox, hb2, n1, n2, n3⟩)
          have hB2 : Below w.heap.size w w2 := hb1.trans (hb2.mono hb1.size)
          have hm1 := hb1.size
          have m1 : w.heap.size ≤ bB := by omega
          have m2 : w.heap.size ≤ bP := by omega
          have m3 : w.heap.size ≤ bM := by omega
          clear hb1 hb2 n1 n2 n3 hm1 hnew
          have hall : Hid (∀ X : BoxM, ∀ p, phiUpto X ends p ends.length ≤ allUpto ends ends.length) := fun X p => phi_le X ends p _
          generalize hALL : allUpto ends ends.length = all at *
          go_loopw [16] (fun t wr => ∃ (k : Nat) (X : BoxM) (c : Nat), t = .int .i64 k ∧ k ≤ all + 1 ∧ c ≤ k * 161 ∧ AInv me bud now N ends c X ∧ Dued now N X ∧ BoxAt wr bB bP bM c X ∧ Below w.heap.size w wr ∧
              ∀ p, p < N → lacksB X me ends N p = true → phiUpto X ends p ends.length + k ≤ all) (fun t _ => all + 1 - (intOf t).toNat)
          case atStart => exact ⟨0, _, 0, rfl, by omega, by omega, AInv.new me bud now N ends, Dued.new me bud now N, hbox, hB2, fun p _ _ => hall.out _ p⟩
          case round =>
            obtain ⟨k, X, c, rfl, hk, hck, hinv, hdue, hbx, hbel, hphi⟩ := hrel
            clear hbox hB2
            by_cases hka : k ≤ all
            · go_wp2
              obtain ⟨W2, hW2⟩ : ∃ W2, W2 = wr.alloc (.cells (boolCells N (fun _ => false)) 4) := ⟨_, rfl⟩
              have hdu0 : BoolsAt W2 wr.heap.size N (fun _ => false) := by rw [hW2]; exact heap_alloc_new wr _
              have hc2 : Chg [] wr W2 := by rw [hW2]; exact (Chg.refl [] wr).alloc _
              rw [← hW2]
              have hbx2 := hbx.keep hc2 (by simp) (by simp) (by simp)
              have hbel2 := below_of_chg hbel hc2 (by simp)
              have hdW : w.heap.size ≤ wr.heap.size := hbel.size
              have hBP : bP < wr.heap.size := lt_of_heap hbx.peers
              have hBM : bM < wr.heap.size := hbx.sizes.lt
              have hBB : bB < wr.heap.size := lt_of_heap hbx.box
              clear hbx hbel hc2 hW2
              generalize wr.heap.size = dB at *
              have HINV := Lib.hid hinv
              have HDUE := Lib.hid hdue
              have HPHI := Lib.hid hphi
              clear hinv hdue hphi
              obtain ⟨wo, rfl⟩ : ∃ wo : World, wo = wr := ⟨_, rfl⟩
              go_loopw [18, 19] (fun p _ wi => ∃ j : Nat, p = .int .i64 j ∧ j ≤ N ∧ BoolsAt wi dB N (fun i => decide (i < j) && lacksB X me ends N i) ∧ Chg [dB] W2 wi) (fun p _ _ => N - (intOf p).toNat)
              case atStart => exact ⟨0, rfl, by omega, hdu0.congr (fun i _ => by simp), Chg.refl _ _⟩
              case round =>
                obtain ⟨j, rfl, hj, hdu, hcw⟩ := hrel
                clear hdu0
                by_cases hjl : j < N
                · have HDU := Lib.hid hdu
                  have HCW := Lib.hid hcw
                  clear hdu hcw
                  go_wp2
                  obtain ⟨wp, rfl⟩ : ∃ wp : World, wp = wr := ⟨_, rfl⟩
                  go_loopw [19] (fun g wi => ∃ g' : Nat, g = .int .i64 g' ∧ g' ≤ min N ends.length ∧ BoolsAt wi dB N (fun i => (decide (i < j) && lacksB X me ends N i) || (decide (i = j) && lacksUpto X me ends j g')) ∧ Chg [dB] W2 wi) (fun g _ => min N ends.length - (intOf g).toNat)
                  case atStart => exact ⟨0, rfl, by omega, HDU.out.congr (fun i _ => by simp [lacksUpto]), HCW.out⟩
                  case round =>
                    obtain ⟨g, rfl, hg, hdu, hcw⟩ := hrel
                    by_cases hgN : g < N
                    · by_cases hgE : g < ends.length
                      · have hcell := hdu.cell hjl
                        have hfz := hdu.fz j
                        have hcur : (decide (j < j) && lacksB X me ends N j || decide (j = j) && lacksUpto X me ends j g) = lacksUpto X me ends j g := by simp
                        rw [hcur] at hcell
                        have hnext : Hid (∀ v : Bool, v = (lacksUpto X me ends j g || lacksAt X me ends j g) → BoolsAt (wr.setCell ⟨dB, j, none⟩ (.bool v)) dB N (fun i => (decide (i < j) && lacksB X me ends N i) || (decide (i = j) && lacksUpto X me ends j (g + 1))) ∧ Chg [dB] W2 (wr.setCell ⟨dB, j, none⟩ (.bool v))) := by
                          intro v hv
                          refine ⟨(hdu.set j v).congr (fun i hi => ?_), hcw.setCell (by simp) _⟩
                          unfold setB
                          by_cases e : i = j
                          · subst e
                            rw [lacksUpto_succ, hv]; simp
                          · simp [e]
                        have hbxj := hbx2.keep hcw (by simp; omega) (by simp; omega) (by simp; omega)
                        have hbelj := below_of_chg hbel2 hcw (by simp; omega)
                        have hrows : RowsAt wr (fun b => b < w.heap.size) A ends := HE.out.keep (Chg.of_below hbelj []) (by simp)
                        obtain ⟨eb, eo, rfl, _, hrow⟩ := hrows (by omega)
                        obtain ⟨rv, hrc, ra, rc, rfl, hints⟩ := hrow g (endsAt ends g) (endsAt_get hgE)
                        have hesm := HEL.out.2 _ (List.mem_of_getElem? (endsAt_get hgE))
                        have hlast : Calls Try.prog 11 #[.slice ra (endsAt ends g).length rc] wr.drew fun e w' => e = .returned (.int .i64 (lastI (endsAt ends g))) ∧ wr.drew = w' := last_quiet _ _ _ wr ⟨ra, rc, rfl, hints⟩ hesm.1 hesm.2 1
                        have hsent : Calls Try.prog 10 #[.pointer (some ⟨bB, 0, none⟩), .int .i64 j, .int .i64 g] wr.drew fun e w' => e = .returned (.int .i64 (X.m j g)) ∧ wr.drew = w' := sent_any j g wr.drew (hbxj.drewN 1) (by unfold wf64; omega) (by unfold wf64; omega)
                        have hla : Hid (lacksAt X me ends j g = (decide ((j : Int) ≠ me) && (decide (j ≠ g) && decide (X.m j g < lastI (endsAt ends g))))) := rfl
                        have hlen := Lib.hid hesm
                        clear hdu hcw hbxj hbelj hrow hints hesm hcur hrows
                        generalize X.m j g = sm at *
                        generalize lastI (endsAt ends g) = lm at *
                        generalize endsAt ends g = es at *
                        have HN : Hid (∀ v : Bool, v = (lacksUpto X me ends j g || lacksAt X me ends j g) → BoolsAt (wr.setCell ⟨dB, j, none⟩ (.bool v)) dB N (fun i => (decide (i < j) && lacksB X me ends N i) || (decide (i = j) && lacksUpto X me ends j (g + 1))) ∧ Chg [dB] W2 (wr.setCell ⟨dB, j, none⟩ (.bool v))) := hnext
                        clear hnext
                        cases hcb : lacksUpto X me ends j g
                        · rw [hcb] at hcell
                          rw [hcb] at HN
                          by_cases c1 : (j : Int) = me
                          · have hv : Hid (false = (false || lacksAt X me ends j g)) := by unfold Hid; rw [hla.out]; simp [c1]
                            have c2 : ((j : Int) != me) = false := by simp [c1]
                            clear c1 hlast hsent hcb
                            go_wp2
                            refine wp_region_still_tail 29 (by kernel_rfl) (by kernel_rfl) ?_
                            simp only [List.take_succ_cons, List.take_zero, List.drop_succ_cons, List.drop_zero]
                            refine wpStill_of_wpQuiet _ _ ?_
                            repeat (first | go_big_quiet_skip | (go_big_quiet_want; go_big_quiet_op; first | go_big_quiet_on | (apply Exists.intro; refine ⟨?_, ?_⟩; (fail); go_big_quiet_on)))
                            refine wpQuiet_nil ?_
                            change wpList _ _ _ _ _ wr.drew
                            go_wp2
                            go_roundw
                            case rel => exact ⟨g + 1, by go_num, by omega, (HN.out _ hv.out).1, (HN.out _ hv.out).2.drew⟩
                            case measure => simp [intOf]; omega
                          · have c2 : ((j : Int) != me) = true := by simp [c1]
                            by_cases c3 : j = g
                            · have hv : Hid (false = (false || lacksAt X me ends j g)) := by unfold Hid; rw [hla.out]; simp [c3]
                              have c4 : ((j : Int) != (g : Int)) = false := by simp [c3]
                              clear c1 c3 hlast hsent hcb
                              go_wp2
                              refine wp_region_still_tail 29 (by kernel_rfl) (by kernel_rfl) ?_
                              simp only [List.take_succ_cons, List.take_zero, List.drop_succ_cons, List.drop_zero]
                              refine wpStill_of_wpQuiet _ _ ?_
                              repeat (first | go_big_quiet_skip | (go_big_quiet_want; go_big_quiet_op; first | go_big_quiet_on | (apply Exists.intro; refine ⟨?_, ?_⟩; (fail); go_big_quiet_on)))
                              refine wpQuiet_nil ?_
                              change wpList _ _ _ _ _ wr.drew
                              go_wp2
                              go_roundw
                              case rel => exact ⟨g + 1, by go_num, by omega, (HN.out _ hv.out).1, (HN.out _ hv.out).2.drew⟩
                              case measure => simp [intOf]; omega
                            · have c4 : ((j : Int) != (g : Int)) = true := by simp; omega
                              have hv : Hid (decide (sm < lm) = (false || lacksAt X me ends j g)) := by unfold Hid; rw [hla.out]; simp [c1, c3]
                              clear c1 c3 hcb
                              go_wp2
                              refine wp_region_still_tail 29 (by kernel_rfl) (by kernel_rfl) ?_
                              simp only [List.take_succ_cons, List.take_zero, List.drop_succ_cons, List.drop_zero]
                              refine wpStill_of_wpQuiet _ _ ?_
                              repeat (first | go_big_quiet_skip | (go_big_quiet_want; go_big_quiet_op; first | go_big_quiet_on | (apply Exists.intro; refine ⟨?_, ?_⟩; (first | (go_at_call 10; exact hsent.mono fun e w' ⟨he, hw⟩ => ⟨he, hw.symm⟩) | (go_at_call 11; exact hlast.mono fun e w' ⟨he, hw⟩ => ⟨he, hw.symm⟩)); go_big_quiet_on)))
                              refine wpQuiet_nil ?_
                              change wpList _ _ _ _ _ wr.drew
                              go_wp2
                              go_roundw
                              case rel => exact ⟨g + 1, by go_num, by omega, (HN.out _ hv.out).1, (HN.out _ hv.out).2.drew⟩
                              case measure => simp [intOf]; omega
                        · rw [hcb] at hcell
                          rw [hcb] at HN
                          have hv : Hid (true = (true || lacksAt X me ends j g)) := rfl
                          clear hlast hsent hcb
                          go_wp2
                          refine wp_region_still_tail 29 (by kernel_rfl) (by kernel_rfl) ?_
                          simp only [List.take_succ_cons, List.take_zero, List.drop_succ_cons, List.drop_zero]
                          refine wpStill_of_wpQuiet _ _ ?_
                          repeat (first | go_big_quiet_skip | (go_big_quiet_want; go_big_quiet_op; first | go_big_quiet_on | (apply Exists.intro; refine ⟨?_, ?_⟩; (fail); go_big_quiet_on)))
                          refine wpQuiet_nil ?_
                          change wpList _ _ _ _ _ wr.drew
                          go_wp2
                          go_roundw
                          case rel => exact ⟨g + 1, by go_num, by omega, (HN.out _ hv.out).1, (HN.out _ hv.out).2.drew⟩
                          case measure => simp [intOf]; omega
                      · have hge : g = min N ends.length := by omega
                        have hfin : Hid (BoolsAt wr dB N (fun i => decide (i < j + 1) && lacksB X me ends N i)) := hdu.congr (fun i hi => by
                          by_cases e : i = j
                          · subst e; simp [lacksB, hge]
                          · have : decide (i < j + 1) = decide (i < j) := by rw [decide_eq_decide]; omega
                            simp [this, e])
                        clear hge hdu
                        go_wp2
                        go_roundw
                        case rel => exact ⟨j + 1, by go_num, by omega, hfin.out, hcw⟩
                        case measure => simp [intOf]; omega
                    · have hge : g = min N ends.length := by omega
                      have hfin : Hid (BoolsAt wr dB N (fun i => decide (i < j + 1) && lacksB X me ends N i)) := hdu.congr (fun i hi => by
                        by_cases e : i = j
                        · subst e; simp [lacksB, hge]
                        · have : decide (i < j + 1) = decide (i < j) := by rw [decide_eq_decide]; omega
                          simp [this, e])
                      clear hge hdu
                      go_wp2
                      go_roundw
                      case rel => exact ⟨j + 1, by go_num, by omega, hfin.out, hcw⟩
                      case measure => simp [intOf]; omega
                · have hje : j = N := by omega
                  have hduN := hdu.congr (f' := fun i => lacksB X me ends N i) (fun i hi => by have : i < j := (by omega); simp [this])
                  have hbxj := hbx2.keep hcw (by simp; omega) (by simp; omega) (by simp; omega)
                  have hbelj := below_of_chg hbel2 hcw (by simp; omega)
                  have hrows : RowsAt wr (fun b => b < w.heap.size) A ends := HE.out.keep (Chg.of_below hbelj []) (by simp)
                  have hb1 := HINV.out.b
                  have hdBw : dB < wr.heap.size := lt_of_heap hdu
                  have hplan := plan_any now ends A C _ wr hbxj (by rw [hb1.bud_]; omega) (by rw [hb1.bud_]; have := HBW.out.2; omega) hrows (by intro b hb he; omega) HEL.out.1 HEL.out.2 (fun i => ⟨hb1.lo i, by have := hb1.hi i; omega⟩)
                  have hpp := Lib.hid (HINV.out.plan HDUE.out (by omega) hbxj.pos)
                  clear hdu hcw hrows hb1
                  go_wp2_with fail
                  refine hplan.mono ?_
                  rintro e w4 ⟨pv, rfl, hown4, hbx4, hc4⟩
                  have hbel4 := below_of_chg hbelj hc4 (by simp; omega)
                  have hdu4 := hduN.keep hc4 (by simp; omega)
                  obtain ⟨hpart, hS, hany, h160⟩ := hpp.out
                  have hown5 : w4.ownsRow wr.heap.size 34 4 pv (X.plan now ends).2.length (sendCells (X.plan now ends).2) := hown4
                  clear hplan hpp hbxj hbelj hduN hc4 hown4
                  generalize hBASE : wr.heap.size = base at *
                  obtain ⟨pl, hpl⟩ : ∃ pl, pl = (X.plan now ends).2 := ⟨_, rfl⟩
                  obtain ⟨X4, hX4⟩ : ∃ X4, X4 = (X.plan now ends).1 := ⟨_, rfl⟩
                  rw [← hpl] at hpart hS hany h160 hown5
                  rw [← hX4] at hpart hbx4
                  clear hpl hX4
                  obtain ⟨sa, sc, rfl⟩ := own_form hown5
                  have HS := Lib.hid hS
                  have HANY := Lib.hid hany
                  have HP := Lib.hid hpart
                  clear hpart hS hany
                  go_wp2
                  obtain ⟨wv, rfl⟩ : ∃ wv : World, wv = wr := ⟨_, rfl⟩
                  go_loopw [21] (fun i wi => ∃ (q : Nat) (Y : BoxM) (c2 : Nat), i = .int .i64 q ∧ q ≤ pl.length ∧ c2 ≤ c + 1 + q ∧ Part me bud now N ends c2 X Y (pl.drop q) ∧ BoxAt wi bB bP bM c2 Y ∧ BoolsAt wi dB N (lacksB X me ends N) ∧
                      wi.ownsRow base 34 4 (.slice sa pl.length sc) pl.length (sendCells pl) ∧ Below w.heap.size w wi) (fun i _ => pl.length - (intOf i).toNat)
                  case atStart => exact ⟨0, X4, c + 1, rfl, by omega, by omega, HP.out, hbx4.more (by omega), hdu4, hown5, hbel4⟩
                  case round =>
                    obtain ⟨q, Y, c2, rfl, hq, hc2, hpt, hbxY, hduY, hownY, hbelY⟩ := hrel
                    clear hbx4 hdu4 hown5 hbel4
                    by_cases hql : q < pl.length
                    · have hdrop : pl.drop q = pl[q] :: pl.drop (q + 1) := List.drop_eq_getElem_cons hql
                      rw [hdrop] at hpt
                      obtain ⟨p, g, f1, f2, f3, f4, f5, f6, f7, f8, f9, f10, f11⟩ := hpt.each pl[q] List.mem_cons_self
                      have hak := hpt.acks
                      have hnx := Lib.hid hpt.step
                      obtain ⟨p', hp1, hp2, hp3⟩ := HS.out pl[q] (List.getElem_mem hql)
                      have hpe : p' = p := by omega
                      rw [hpe] at hp3
                      obtain ⟨aa, ac, hsv, hcl⟩ := SendsAt.of_own hownY rfl
                      have haa : aa = sa := by injection hsv with h1 h2 h3; exact h1.symm
                      rw [haa] at hcl
                      obtain ⟨b3, o3, hsa, hc3⟩ := hcl (by omega)
                      obtain ⟨s0, s1, s2, s3⟩ := hc3 q pl[q] (List.getElem?_eq_getElem hql)
                      have hwfs := (HEL.out.2 _ (List.mem_of_getElem? (endsAt_get f7))).2 _ f11
                      unfold wf64 at hwfs
                      obtain ⟨hw1, hw2⟩ := hwfs
                      rw [f8, f1, f2] at hnx hak
                      rw [f1] at s0
                      rw [f2] at s1
                      rw [f8] at s2 hw1 hw2
                      have hpos := hbxY.pos p g
                      have hack := ack_w p g (Y.m p g + pl[q].count) now true wr.drew (hbxY.drewN 1) (by unfold maxLen; omega) (by unfold wf64; omega) (by unfold wf64; omega) (by unfold wf64; omega) hak
                      have hlc := hduY.cell f3
                      rw [hp3] at hlc
                      have hdue2 : Hid (∀ w9, Chg [bP, bM] wr.drew w9 → BoolsAt w9 dB N (lacksB X me ends N) ∧ w9.ownsRow base 34 4 (.slice sa pl.length sc) pl.length (sendCells pl) ∧ Below w.heap.size w w9) := by
                        intro w9 h9
                        have h9' : Chg [bP, bM] wr w9 := ((Chg.refl [bP, bM] wr).drew).trans h9
                        exact ⟨hduY.keep h9' (by simp; omega), own_keep hownY h9' (fun b hb hm => by have := own_base hownY b hb; simp at hm; omega), below_of_chg hbelY h9' (by simp; omega)⟩
                      have hsum : 0 ≤ Y.m p g + pl[q].count := by omega
                      generalize Y.m p g = sm at *
                      generalize pl[q].count = sc2 at *
                      rw [hsa]
                      clear hpt hdrop hcl hc3 hsv hbxY hduY hownY hak f11
                      go_wp2
                      refine wp_region_still_tail 33 (by kernel_rfl) (by kernel_rfl) ?_
                      simp only [List.take_succ_cons, List.take_zero, List.drop_succ_cons, List.drop_zero]
                      refine wpStill_of_wpQuiet _ _ ?_
                      repeat (first | go_big_quiet_skip | (go_big_quiet_want; go_big_quiet_op; go_big_quiet_on))
                      refine wpQuiet_nil ?_
                      change wpList _ _ _ _ _ wr.drew
                      go_wp2_with (go_at_call 13; refine hack.mono ?_; rintro e w9 ⟨rfl, hbx9, hc9⟩)
                      obtain ⟨r1, r2, r3⟩ := hdue2.out w9 hc9
                      go_roundw
                      case rel => exact ⟨q + 1, _, c2 + 1, by go_num, by omega, by omega, hnx.out, hbx9, r1, by rw [← hsa]; exact r2, r3⟩
                      case measure => simp [intOf]; omega
                    · have hnil : pl.drop q = [] := List.drop_of_length_le (by omega)
                      rw [hnil] at hpt
                      obtain ⟨hd2, hph1, hph2⟩ := hpt.end_
                      have HD2 := Lib.hid hd2
                      have HA2 := Lib.hid hpt.a
                      have HPH : Hid (∀ p, p < N → lacksB Y me ends N p = true → phiUpto Y ends p ends.length + (k + 1) ≤ all) := by
                        intro p hp hl
                        have hl2 := lacks_mono (fun g => hpt.more p g) hl
                        have h1 := hph1 p hp hl2
                        have h2 := HPHI.out p hp hl2
                        omega
                      have hsends := SendsAt.of_own hownY rfl
                      obtain ⟨aa, ac, hsv, hcl⟩ := hsends
                      have haa : aa = sa := by injection hsv with h1 h2 h3; exact h1.symm
                      rw [haa] at hcl
                      clear hpt hnil hd2 hph1 hph2 hownY hsv haa
                      go_wp2
                      go_loop [22] (fun p => ∃ p' : Nat, p = .int .i64 p' ∧ p' ≤ N) (fun p => N - (intOf p).toNat)
                      case atStart => exact ⟨0, rfl, by omega⟩
                      case round =>
                        obtain ⟨p, rfl, hp⟩ := hrel
                        by_cases hpN : p < N
                        · have hlc := hduY.cell hpN
                          have hAN := Lib.hid (HANY.out p hpN)
                          go_wp2
                          go_loop [23, 24] (fun sv i => ∃ i' : Nat, i = .int .i64 i' ∧ i' ≤ pl.length ∧ sv = .bool ((pl.take i').any (fun s => decide (s.peer = p)))) (fun _ i => pl.length - (intOf i).toNat)
                          case atStart => exact ⟨0, rfl, by omega, rfl⟩
                          case round =>
                            obtain ⟨i, rfl, hi, rfl⟩ := hrel
                            by_cases hil : i < pl.length
                            · obtain ⟨b3, o3, rfl, hc3⟩ := hcl (by omega)
                              obtain ⟨s0, _⟩ := hc3 i pl[i] (List.getElem?_eq_getElem hil)
                              have HT := Lib.hid (any_take pl p i hil)
                              generalize pl[i] = sj at *
                              clear hc3 hcl
                              cases hsj : (pl.take i).any (fun s => decide (s.peer = p))
                              · go_wp2
                                go_round
                                case rel => exact ⟨i + 1, by go_num, by omega, by rw [HT.out, hsj]; rfl⟩
                                case measure => simp [intOf]; omega
                              · go_wp2
                                go_round
                                case rel => exact ⟨i + 1, by go_num, by omega, by rw [HT.out, hsj]; rfl⟩
                                case measure => simp [intOf]; omega
                            · have hie : (pl.take i).any (fun s => decide (s.peer = p)) = lacksB X me ends N p := by rw [List.take_of_length_le (by omega)]; exact hAN.out
                              rw [hie]
                              clear hie hcl
                              generalize lacksB X me ends N p = lk at *
                              cases lk
                              · go_wp2
                                go_round
                                case rel => exact ⟨p + 1, by go_num, by omega⟩
                                case measure => simp [intOf]; omega
                              · go_wp2
                                go_round
                                case rel => exact ⟨p + 1, by go_num, by omega⟩
                                case measure => simp [intOf]; omega
                        · clear hcl
                          go_wp2
                          go_roundw
                          case rel => exact ⟨k + 1, Y, c2, by go_num, by omega, by omega, HA2.out, HD2.out, hbxY, hbelY, HPH.out⟩
                          case measure => simp [intOf]; omega
            · have hke : k = all + 1 := by omega
              have hno : ∀ p : Nat, p < N → lacksB X me ends N p = false := by
                intro p hp
                cases hl : lacksB X me ends N p
                · rfl
                · have := hphi p hp hl
                  omega
              obtain ⟨hpl0, hfull⟩ := hinv.full hdue hno
              have hb1 := hinv.b
              have HFULL := Lib.hid hfull
              have hplan : Hid (∀ q, Calls Try.prog 12 #[.pointer (some ⟨bB, 0, none⟩), .int .i64 now, .slice A ends.length C] (wr.drewN q) fun e w' => (∃ a c, e = .returned (.slice a 0 c)) ∧ Chg [bP] (wr.drewN q) w') := by
                intro q
                have hbelq := below_of_chg hbel ((Chg.refl [] wr).drewN q) (by simp)
                have hrows : RowsAt (wr.drewN q) (fun b => b < w.heap.size) A ends := HE.out.keep (Chg.of_below hbelq []) (by simp)
                refine (plan_any now ends A C _ (wr.drewN q) (hbx.drewN q) (by rw [hb1.bud_]; omega) (by rw [hb1.bud_]; have := HBW.out.2; omega) hrows (by intro b hb he; omega) HEL.out.1 HEL.out.2 (fun i => ⟨hb1.lo i, by have := hb1.hi i; omega⟩)).mono ?_
                rintro e w4 ⟨pv, rfl, hown4, _, hc4⟩
                rw [hpl0] at hown4
                obtain ⟨sa, sc, rfl⟩ := own_form hown4
                exact ⟨⟨sa, sc, rfl⟩, hc4⟩
              have hkey : Hid (∀ p g : Nat, p < N → g < N → g < ends.length → ∃ (eb eo : Nat) (ra : Option Addr) (rc : Nat), A = some ⟨eb, eo, none⟩ ∧ wr.cell? ⟨eb, eo + g, none⟩ = some (.slice ra (endsAt ends g).length rc) ∧
                  (∀ q, Calls Try.prog 11 #[.slice ra (endsAt ends g).length rc] (wr.drewN q) fun e w' => e = .returned (.int .i64 (lastI (endsAt ends g))) ∧ wr.drewN q = w') ∧
                  (∀ q, Calls Try.prog 10 #[.pointer (some ⟨bB, 0, none⟩), .int .i64 p, .int .i64 g] (wr.drewN q) fun e w' => e = .returned (.int .i64 (X.m p g)) ∧ wr.drewN q = w')) := by
                intro p g hp hg hge
                have hrows : RowsAt wr (fun b => b < w.heap.size) A ends := HE.out.keep (Chg.of_below hbel []) (by simp)
                obtain ⟨eb, eo, rfl, _, hrow⟩ := hrows (by omega)
                obtain ⟨rv, hrc, ra, rc, rfl, hints⟩ := hrow g (endsAt ends g) (endsAt_get hge)
                have hesm := HEL.out.2 _ (List.mem_of_getElem? (endsAt_get hge))
                exact ⟨eb, eo, ra, rc, rfl, hrc, fun q => last_quiet _ _ _ wr ⟨ra, rc, rfl, hints⟩ hesm.1 hesm.2 q, fun q => sent_any p g (wr.drewN q) (hbx.drewN q) (by unfold wf64; omega) (by unfold wf64; omega)⟩
              clear hinv hdue hbx hphi hno hpl0 hfull hb1 hke
              go_wp2
              obtain ⟨W0, rfl⟩ : ∃ W0 : World, W0 = wr := ⟨_, rfl⟩
              go_loopw [25, 26] (fun p _ wi => ∃ p' : Nat, p = .int .i64 p' ∧ p' ≤ N ∧ ∃ q, wi = W0.drewN q) (fun p _ _ => N - (intOf p).toNat)
              case atStart => exact ⟨0, rfl, by omega, 0, rfl⟩
              case round =>
                obtain ⟨p, rfl, hp, q, rfl⟩ := hrel
                by_cases hpN : p < N
                · go_wp2
                  go_loopw [26] (fun g wi => ∃ g' : Nat, g = .int .i64 g' ∧ g' ≤ min N ends.length ∧ ∃ q, wi = W0.drewN q) (fun g _ => min N ends.length - (intOf g).toNat)
                  case atStart => exact ⟨0, rfl, by omega, q, rfl⟩
                  case round =>
                    obtain ⟨g, rfl, hg, q2, rfl⟩ := hrel
                    by_cases hgN : g < N
                    · by_cases hgE : g < ends.length
                      · by_cases c1 : (p : Int) = me
                        · have c2 : ((p : Int) != me) = false := by simp [c1]
                          clear c1
                          go_wp2
                          go_quiet (fail)
                          go_wp2
                          go_roundw
                          case rel => exact ⟨g + 1, by go_num, by omega, _, rfl⟩
                          case measure => simp [intOf]; omega
                        · have c2 : ((p : Int) != me) = true := by simp [c1]
                          by_cases c3 : p = g
                          · have c4 : ((p : Int) != (g : Int)) = false := by simp [c3]
                            clear c1 c3
                            go_wp2
                            go_quiet (fail)
                            go_wp2
                            go_roundw
                            case rel => exact ⟨g + 1, by go_num, by omega, _, rfl⟩
                            case measure => simp [intOf]; omega
                          · have c4 : ((p : Int) != (g : Int)) = true := by simp; omega
                            obtain ⟨eb, eo, ra, rc, rfl, hrc, hlast, hsent⟩ := hkey.out p g hpN hgN hgE
                            rw [HFULL.out p g hpN hgN hgE c1 c3] at hsent
                            generalize lastI (endsAt ends g) = lm at *
                            generalize endsAt ends g = es at *
                            clear c1 c3
                            go_wp2
                            go_quiet (first | (go_at_call 10; exact quiet_same (hsent _)) | (go_at_call 11; exact quiet_same (hlast _)))
                            go_wp2
                            go_roundw
                            case rel => exact ⟨g + 1, by go_num, by omega, _, rfl⟩
                            case measure => simp [intOf]; omega
                      · go_wp2
                        go_roundw
                        case rel => exact ⟨p + 1, by go_num, by omega, q2, rfl⟩
                        case measure => simp [intOf]; omega
                    · go_wp2
                      go_roundw
                      case rel => exact ⟨p + 1, by go_num, by omega, q2, rfl⟩
                      case measure => simp [intOf]; omega
                · go_wp2_with (go_at_call 12; refine (hplan.out _).mono ?_; rintro e w9 ⟨⟨fa, fc, rfl⟩, hc9⟩)
                  go_ret
                  exact ⟨rfl, below_of_chg (below_of_chg hbel ((Chg.refl [] W0).drewN q) (by simp)) hc9 (by simp; omega)⟩
        · have hnew := fun w => new_no me peers bud w (by simpa using hok)
          clear hok
          go_wp2_with (go_at_call 9; refine (hnew _).mono ?_; rintro e w' ⟨rfl, rfl⟩)
          go_ret
          exact ⟨rfl, hb1⟩
end Go.Proofs.Ytipklnakihinkaa
