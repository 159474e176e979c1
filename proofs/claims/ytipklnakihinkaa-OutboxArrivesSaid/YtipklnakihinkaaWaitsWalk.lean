/- OutboxWaits: the walk. -/
import Derived.Test.YtipklnakihinkaaLastWalk
import Derived.Test.YtipklnakihinkaaWaitsModel
import Derived.Test.YtipklnakihinkaaMovesWalk
namespace Go.Proofs.Ytipklnakihinkaa
open Go.ChangeShapes Go.WideShapes Go.ChangeAt Go.RowKit
set_option linter.unusedVariables false

/-- lists of numbers that a call may read, of sizes that the form allows -/
def EndsOk (ends : List (List Int)) : Prop := ends.length ≤ 9223372036854775807 ∧ ∀ l, l ∈ ends → l.length ≤ 9223372036854775807 ∧ ∀ x, x ∈ l → wf64 x

theorem last_quiet (l : List Int) (v : Value) (ok : Nat → Prop) (w : World) (hv : IntsAt w ok v l) (hlen : l.length ≤ 9223372036854775807) (hwf : ∀ x, x ∈ l → wf64 x) (q : Nat) :
    Calls Try.prog 11 #[v] (w.drewN q) fun e w' => e = .returned (.int .i64 (lastI l)) ∧ w.drewN q = w' :=
  (last_any l v ok (w.drewN q) (hv.keep ((Chg.refl [] w).drewN q) (by simp)) hlen hwf).mono fun e w' ⟨he, hw⟩ => ⟨he, hw⟩
theorem own_len {w : World} {base e size n : Nat} {v : Value} {xs : List Value} (h : w.ownsRow base e size v n xs) : n ≤ 9223372036854775807 := by
  rcases h.2 with ⟨rfl, rfl⟩ | ⟨g, cap, cur, rfl, hg, hh, h1, h2, _⟩
  · omega
  · unfold maxLen at h2; omega
set_option maxRecDepth 100000 in
set_option maxHeartbeats 2000000 in
theorem waits_main (N : Nat) (budget : Int) (ends : List (List Int)) (l0 : List Int) (hl0 : ends.head? = some l0) (rounds at_ : Int) (A : Option Addr) (C : Nat) (w : World) (he : RowsAt w (fun b => b < w.heap.size) A ends) (hel : EndsOk ends)
    (hb : wf64 budget) (hat : wf64 at_) (h0 : 0 ≤ rounds) (h200 : rounds ≤ 200) (hN : 2 ≤ N) (hN2 : N ≤ 20)
    (HF : Hid (∀ w1, Below w.heap.size w w1 → Calls Try.prog 8 #[.slice A ends.length C] w1 fun e w' => e = .returned (.bool true) ∧ w1 = w')) :
    Calls Try.prog 4 #[.int .i64 N, .int .i64 budget, .slice A ends.length C, .int .i64 rounds, .int .i64 at_] w (LawPost w) := by
  have hs := small_any
  have hnew : ∀ w, Calls Try.prog 9 #[.int .i64 0, .int .i64 N, .int .i64 budget] w (NewEx w (newBox 0 N budget)) := fun w => new_ex 0 N budget w (by omega) (by omega) (by omega) (by omega)
  have hlen0 : 0 < ends.length := by cases ends <;> simp at hl0 ⊢
  have hne : ((ends.length : Int) == 0) = false := by rw [beq_eq_false_iff_ne]; omega
  have hget : ends[0]? = some l0 := by cases ends <;> simp at hl0 ⊢; exact hl0
  have hwl : l0.length ≤ 9223372036854775807 ∧ ∀ x, x ∈ l0 → wf64 x := hel.2 l0 (List.mem_of_getElem? hget)
  obtain ⟨ab, ao, rfl, hab, hrow⟩ := he hlen0
  obtain ⟨rv, hrc, hints⟩ := hrow 0 l0 hget
  have hrv := hints
  obtain ⟨ra, rc, rfl, _⟩ := hrv
  simp only [Nat.add_zero] at hrc
  have hkey : Hid (∀ w1, Below w.heap.size w w1 → w1.cell? ⟨ab, ao, none⟩ = some (.slice ra l0.length rc) ∧ (∀ q, Calls Try.prog 11 #[.slice ra l0.length rc] (w1.drewN q) fun e w' => e = .returned (.int .i64 (lastI l0)) ∧ w1.drewN q = w') ∧ Calls Try.prog 11 #[.slice ra l0.length rc] w1 fun e w' => e = .returned (.int .i64 (lastI l0)) ∧ w1 = w') :=
    fun w1 h => ⟨(Chg.of_below h []).cell_lt hrc, fun q => last_quiet l0 _ _ w1 (hints.keep (Chg.of_below h []) (by simp)) hwl.1 hwl.2 q, (last_any l0 _ _ w1 (hints.keep (Chg.of_below h []) (by simp)) hwl.1 hwl.2).mono fun e w' ⟨he, hw⟩ => ⟨he, hw⟩⟩
  have hek : Hid (∀ w1, Below w.heap.size w w1 → RowsAt w1 (fun b => b < w.heap.size) (some ⟨ab, ao, none⟩) ends) := fun w1 h => he.keep (Chg.of_below h []) (by simp)
  have hL0 : 0 ≤ lastI l0 := (lastI_is l0).1.nonneg
  have hbw : budget ≤ 9223372036854775807 := hb.2
  have hB : Hid (budget ≤ 9223372036854775807) := hbw
  have hAT := Lib.hid hat
  clear he hrow hints hrc hb hbw hat hwl hab
  by_cases hz : lastI l0 = 0
  · have hz2 : (lastI l0 == 0) = true := by simp [hz]
    clear hz
    go_enter Try.func4, Try.ntmps4
    go_wp2_with (first | (go_at_call 7; refine (hs _).mono ?_; rintro e w1 ⟨rfl, hb1⟩) | (go_at_call 8; refine (HF.out _ hb1).mono ?_; rintro e w' ⟨rfl, rfl⟩) | (go_at_call 9; refine (hnew _).mono ?_; rintro e w2 ⟨bB, bP, bM, rfl, hbox, hb2, n1, n2, n3⟩; obtain ⟨hk1, hk2, hk3⟩ := hkey.out w2 (hb1.trans (hb2.mono hb1.size))) | (go_at_call 11; refine hk3.mono ?_; rintro e w' ⟨rfl, rfl⟩))
    go_ret
    exact ⟨rfl, hb1.trans (hb2.mono hb1.size)⟩
  · have hz2 : (lastI l0 == 0) = false := by simp [hz]
    clear hz
    go_enter Try.func4, Try.ntmps4
    go_wp2_with (first | (go_at_call 7; refine (hs _).mono ?_; rintro e w1 ⟨rfl, hb1⟩) | (go_at_call 8; refine (HF.out _ hb1).mono ?_; rintro e w' ⟨rfl, rfl⟩) | (go_at_call 9; refine (hnew _).mono ?_; rintro e w2 ⟨bB, bP, bM, rfl, hbox, hb2, n1, n2, n3⟩; obtain ⟨hk1, hk2, hk3⟩ := hkey.out w2 (hb1.trans (hb2.mono hb1.size))) | (go_at_call 11; refine hk3.mono ?_; rintro e w' ⟨rfl, rfl⟩))
    have hB2 : Below w.heap.size w w2 := hb1.trans (hb2.mono hb1.size)
    have hm1 := hb1.size
    have m1 : w.heap.size ≤ bB := by omega
    have m2 : w.heap.size ≤ bP := by omega
    have m3 : w.heap.size ≤ bM := by omega
    clear hb1 hb2 n1 n2 n3 hm1 hs hnew HF hk1 hk2 hz2
    have hB3 := hB.out
    go_loopw [13, 14, 15] (fun nx wt i wr => ∃ (k : Nat) (X : BoxM) (next wait : Int) (c : Nat), nx = .int .i64 next ∧ wt = .int .i64 wait ∧ i = .int .i64 k ∧ (k : Int) ≤ rounds ∧ c ≤ k ∧ WInv N k next wait X ∧ BoxAt wr bB bP bM c X ∧ Below w.heap.size w wr)
      (fun _ _ i _ => rounds.toNat - (intOf i).toNat)
    case atStart => exact ⟨0, _, 0, 1, 0, rfl, rfl, rfl, by omega, by omega, WInv.new N budget hB3, hbox, hB2⟩
    case round =>
      obtain ⟨k, X, next, wait, c, rfl, rfl, rfl, hk, hck, hinv, hbx, hbel⟩ := hrel
      clear hbox hB2
      by_cases hlt : (k : Int) < rounds
      · by_cases hat : (k : Int) = at_
        · have hat2 : ((k : Int) == at_) = true := by simpa using hat
          have hack := hinv.ackB hN
          by_cases hm1 : X.m 1 0 < 1
          · have hack2 := ack_w 1 0 1 k true wr hbx (by unfold maxLen; omega) (by unfold wf64; omega) (by unfold wf64; omega) (by unfold wf64; omega) (by rw [hack]; simpa using hm1)
            have hinv1 := hinv.acked hN (by omega : k ≤ 200)
            have hXe : X.ack 1 0 1 k = X.acked 1 0 1 k := by unfold BoxM.ack; rw [hack, if_pos (by simpa using hm1)]
            rw [hXe] at hack2
            have HI := Lib.hid hinv1
            clear hack hm1 hat hXe hinv hinv1
            go_wp2_with (go_at_call 13; refine hack2.mono ?_; rintro e W1 ⟨rfl, hbx1, hc9⟩)
            clear hack2
            have hbel1 : Below w.heap.size w W1 := hbel.trans ⟨hc9.os, hc9.tape, hc9.output, hc9.size, fun i hi => hc9.block i (Nat.lt_of_lt_of_le hi hbel.size) (by simp; omega)⟩
            have hinv1 := HI.out
            clear HI hbel hc9 hbx
            generalize X.acked 1 0 1 k = X1 at *
            have hm0 := hbx1.pos 1 0
            obtain ⟨hk1, hk2, _⟩ := hkey.out W1 hbel1
            have hsent := fun q => sent_w 1 0 _ (W1.drewN q) (hbx1.drewN q) (by unfold wf64; omega) (by unfold wf64; omega) rfl
            obtain ⟨hpt, hpf, hpm, hps⟩ := hinv1.plan hN (by omega : k < 200) ends
            have hps := hps l0 hl0
            have hdue := hinv1.dueB hN (by omega : k ≤ 200)
            by_cases hlast : lastI l0 ≤ X1.m 1 0
            · clear hpt hpf hpm hps hdue hinv1
              generalize X1.m 1 0 = sm at *
              go_wp2_with fail
              go_quiet (first | (go_at_call 10; exact (hsent _).mono fun e w' ⟨he, hw⟩ => ⟨he, _, hw.symm⟩) | (go_at_call 11; exact (hk2 _).mono fun e w' ⟨he, hw⟩ => ⟨he, _, hw.symm⟩))
              go_wp2
              go_ret
              exact ⟨rfl, hbel1.trans (((Chg.refl [] W1).drewN _).below.mono hbel1.size)⟩
            · have hplan := fun w3 (hbx3 : BoxAt w3 bB bP bM (c + 1) X1) (hbel3 : Below w.heap.size w w3) => plan_any k ends (some ⟨ab, ao, none⟩) C _ w3 hbx3 hinv1.bud.1 hinv1.bud.2 (hek.out w3 hbel3) (by intro b hb he; omega) hel.1 hel.2 (fun i => ⟨hinv1.lo i, by have := hinv1.hi i; omega⟩)
              have HPL := Lib.hid hplan
              clear hplan
              have hwb := pauseI_rng ((X1.at_ 1).waiting + 1)
              rw [← hinv1.wt] at hwb
              obtain ⟨hwb1, hwb2⟩ := hwb
              have hnxb := hinv1.nx
              obtain ⟨hnxb1, hnxb2⟩ := hnxb
              cases hsv : servedB (X1.plan k ends).2
              · have hnx : ¬ (k : Int) ≤ k := fun h => by
                  have := hps h hm0 (by omega)
                  rw [hsv] at this
                  cases this
                first
                | (exfalso; omega)
                | (
                    have hinv2 := Lib.hid (hpf hsv)
                    rw [show decide ((k : Int) ≤ (k : Int)) = false by simpa using hnx] at hdue
                    have HSV := Lib.hid hsv
                    clear hpt hpf hps hsv hinv1
                    generalize X1.m 1 0 = sm at *
                    have hnx : (k : Int) < (k : Int) := by omega
                    go_wp2_with fail
                    go_quiet (first | (go_at_call 10; exact (hsent _).mono fun e w' ⟨he, hw⟩ => ⟨he, _, hw.symm⟩) | (go_at_call 11; exact (hk2 _).mono fun e w' ⟨he, hw⟩ => ⟨he, _, hw.symm⟩))
                    have HD := Lib.hid hdue
                    clear hdue hsent hk1 hk2
                    go_wp2_with (first | (go_at_call 14; refine (due_w 1 k false _ (hbx1.drewN _) HD.out).mono ?_; rintro e w3 ⟨rfl, hbx3, hc3⟩; have hbel3 := hbel1.trans ((((Chg.refl [] W1).drewN _).trans hc3).below.mono hbel1.size)) | (go_at_call 12; refine (HPL.out _ hbx3 hbel3).mono ?_; rintro e w4 ⟨v4, rfl, hown4, hbx4, hc4⟩; obtain ⟨pa, pc, rfl, hpl⟩ := SendsAt.of_own hown4 rfl))
                    have hbel4 : Below w.heap.size w w4 := hbel3.trans ⟨hc4.os, hc4.tape, hc4.output, hc4.size, fun i hi => hc4.block i (Nat.lt_of_lt_of_le hi hbel3.size) (by simp; omega)⟩
                    have hpll : (X1.plan k ends).2.length ≤ 9223372036854775807 := own_len hown4
                    clear hbel3 hc4 hbx3 hc3 hown4 HD HPL hbx1 hbel1
                    have hpm2 : (X1.plan k ends).1.m = X1.m := hpm
                    generalize (X1.plan k ends).2 = pl at *
                    go_loop [17, 18] (fun sv i => ∃ j : Nat, i = .int .i64 j ∧ j ≤ pl.length ∧ sv = .bool (servedB (pl.take j))) (fun _ i => pl.length - (intOf i).toNat)
                    case atStart => exact ⟨0, rfl, by omega, rfl⟩
                    case round =>
                      obtain ⟨j, rfl, hj, rfl⟩ := hrel
                      by_cases hjl : j < pl.length
                      · obtain ⟨b2, o2, rfl, hcl⟩ := hpl (by omega)
                        obtain ⟨hc0, _⟩ := hcl j pl[j] (List.getElem?_eq_getElem hjl)
                        have HT := Lib.hid (servedB_take pl j hjl)
                        generalize pl[j] = sj at *
                        clear hpl hcl
                        cases hsj : servedB (pl.take j)
                        · go_wp2
                          go_round
                          case rel => exact ⟨j + 1, by go_num, by omega, by rw [HT.out, hsj]; rfl⟩
                          case measure => simp [intOf]; omega
                        · go_wp2
                          go_round
                          case rel => exact ⟨j + 1, by go_num, by omega, by rw [HT.out, hsj]; rfl⟩
                          case measure => simp [intOf]; omega
                      · have hje : pl.take j = pl := List.take_of_length_le (by omega)
                        have hsf : servedB (pl.take j) = false := by rw [hje]; exact HSV.out
                        clear hpl hje
                        go_wp2
                        go_roundw
                        case rel => exact ⟨k + 1, _, (k : Int), 1, (c + 1), rfl, rfl, by go_num, by omega, by omega, hinv2.out, hbx4, hbel4⟩
                        case measure => simp [intOf]; omega)
              · obtain ⟨hnx, hinv2⟩ := hpt hsv
                have hinv2 := Lib.hid hinv2
                rw [show decide ((k : Int) ≤ (k : Int)) = true by simp] at hdue
                have HSV := Lib.hid hsv
                clear hpt hpf hps hsv hinv1
                generalize X1.m 1 0 = sm at *
                go_wp2_with fail
                go_quiet (first | (go_at_call 10; exact (hsent _).mono fun e w' ⟨he, hw⟩ => ⟨he, _, hw.symm⟩) | (go_at_call 11; exact (hk2 _).mono fun e w' ⟨he, hw⟩ => ⟨he, _, hw.symm⟩))
                have HD := Lib.hid hdue
                clear hdue hsent hk1 hk2
                go_wp2_with (first | (go_at_call 14; refine (due_w 1 k true _ (hbx1.drewN _) HD.out).mono ?_; rintro e w3 ⟨rfl, hbx3, hc3⟩; have hbel3 := hbel1.trans ((((Chg.refl [] W1).drewN _).trans hc3).below.mono hbel1.size)) | (go_at_call 12; refine (HPL.out _ hbx3 hbel3).mono ?_; rintro e w4 ⟨v4, rfl, hown4, hbx4, hc4⟩; obtain ⟨pa, pc, rfl, hpl⟩ := SendsAt.of_own hown4 rfl))
                have hbel4 : Below w.heap.size w w4 := hbel3.trans ⟨hc4.os, hc4.tape, hc4.output, hc4.size, fun i hi => hc4.block i (Nat.lt_of_lt_of_le hi hbel3.size) (by simp; omega)⟩
                have hpll : (X1.plan k ends).2.length ≤ 9223372036854775807 := own_len hown4
                clear hbel3 hc4 hbx3 hc3 hown4 HD HPL hbx1 hbel1
                generalize (X1.plan k ends).2 = pl at *
                go_loop [17, 18] (fun sv i => ∃ j : Nat, i = .int .i64 j ∧ j ≤ pl.length ∧ sv = .bool (servedB (pl.take j))) (fun _ i => pl.length - (intOf i).toNat)
                case atStart => exact ⟨0, rfl, by omega, rfl⟩
                case round =>
                  obtain ⟨j, rfl, hj, rfl⟩ := hrel
                  by_cases hjl : j < pl.length
                  · obtain ⟨b2, o2, rfl, hcl⟩ := hpl (by omega)
                    obtain ⟨hc0, _⟩ := hcl j pl[j] (List.getElem?_eq_getElem hjl)
                    have HT := Lib.hid (servedB_take pl j hjl)
                    generalize pl[j] = sj at *
                    clear hpl hcl
                    cases hsj : servedB (pl.take j)
                    · go_wp2
                      go_round
                      case rel => exact ⟨j + 1, by go_num, by omega, by rw [HT.out, hsj]; rfl⟩
                      case measure => simp [intOf]; omega
                    · go_wp2
                      go_round
                      case rel => exact ⟨j + 1, by go_num, by omega, by rw [HT.out, hsj]; rfl⟩
                      case measure => simp [intOf]; omega
                  · have hje : pl.take j = pl := List.take_of_length_le (by omega)
                    have hsf : servedB (pl.take j) = true := by rw [hje]; exact HSV.out
                    clear hpl hje
                    go_wp2
                    go_roundw
                    case rel => exact ⟨k + 1, _, _, _, (c + 1), rfl, rfl, by go_num, by omega, by omega, hinv2.out, hbx4, hbel4⟩
                    case measure => simp [intOf]; omega
          · have hack2 := ack_w 1 0 1 k false wr hbx (by unfold maxLen; omega) (by unfold wf64; omega) (by unfold wf64; omega) (by unfold wf64; omega) (by rw [hack]; simpa using hm1)
            have hXe : X.ack 1 0 1 k = X := by unfold BoxM.ack; rw [hack, if_neg (by simpa using hm1)]
            rw [hXe] at hack2
            have HI := Lib.hid hinv
            clear hack hm1 hat hXe hinv
            go_wp2_with (go_at_call 13; refine hack2.mono ?_; rintro e W1 ⟨rfl, hbx1, hc9⟩)
            clear hack2
            have hbel1 : Below w.heap.size w W1 := hbel.trans ⟨hc9.os, hc9.tape, hc9.output, hc9.size, fun i hi => hc9.block i (Nat.lt_of_lt_of_le hi hbel.size) (by simp; omega)⟩
            have hinv1 := HI.out
            clear HI hbel hc9 hbx

            have hm0 := hbx1.pos 1 0
            obtain ⟨hk1, hk2, _⟩ := hkey.out W1 hbel1
            have hsent := fun q => sent_w 1 0 _ (W1.drewN q) (hbx1.drewN q) (by unfold wf64; omega) (by unfold wf64; omega) rfl
            obtain ⟨hpt, hpf, hpm, hps⟩ := hinv1.plan hN (by omega : k < 200) ends
            have hps := hps l0 hl0
            have hdue := hinv1.dueB hN (by omega : k ≤ 200)
            by_cases hlast : lastI l0 ≤ X.m 1 0
            · clear hpt hpf hpm hps hdue hinv1
              generalize X.m 1 0 = sm at *
              go_wp2_with fail
              go_quiet (first | (go_at_call 10; exact (hsent _).mono fun e w' ⟨he, hw⟩ => ⟨he, _, hw.symm⟩) | (go_at_call 11; exact (hk2 _).mono fun e w' ⟨he, hw⟩ => ⟨he, _, hw.symm⟩))
              go_wp2
              go_ret
              exact ⟨rfl, hbel1.trans (((Chg.refl [] W1).drewN _).below.mono hbel1.size)⟩
            · have hplan := fun w3 (hbx3 : BoxAt w3 bB bP bM (c + 1) X) (hbel3 : Below w.heap.size w w3) => plan_any k ends (some ⟨ab, ao, none⟩) C _ w3 hbx3 hinv1.bud.1 hinv1.bud.2 (hek.out w3 hbel3) (by intro b hb he; omega) hel.1 hel.2 (fun i => ⟨hinv1.lo i, by have := hinv1.hi i; omega⟩)
              have HPL := Lib.hid hplan
              clear hplan
              have hwb := pauseI_rng ((X.at_ 1).waiting + 1)
              rw [← hinv1.wt] at hwb
              obtain ⟨hwb1, hwb2⟩ := hwb
              have hnxb := hinv1.nx
              obtain ⟨hnxb1, hnxb2⟩ := hnxb
              cases hsv : servedB (X.plan k ends).2
              · have hnx : ¬ next ≤ k := fun h => by
                  have := hps h hm0 (by omega)
                  rw [hsv] at this
                  cases this
                first
                | (exfalso; omega)
                | (
                    have hinv2 := Lib.hid (hpf hsv)
                    rw [show decide (next ≤ (k : Int)) = false by simpa using hnx] at hdue
                    have HSV := Lib.hid hsv
                    clear hpt hpf hps hsv hinv1
                    generalize X.m 1 0 = sm at *
                    have hnx : (k : Int) < next := by omega
                    go_wp2_with fail
                    go_quiet (first | (go_at_call 10; exact (hsent _).mono fun e w' ⟨he, hw⟩ => ⟨he, _, hw.symm⟩) | (go_at_call 11; exact (hk2 _).mono fun e w' ⟨he, hw⟩ => ⟨he, _, hw.symm⟩))
                    have HD := Lib.hid hdue
                    clear hdue hsent hk1 hk2
                    go_wp2_with (first | (go_at_call 14; refine (due_w 1 k false _ (hbx1.drewN _) HD.out).mono ?_; rintro e w3 ⟨rfl, hbx3, hc3⟩; have hbel3 := hbel1.trans ((((Chg.refl [] W1).drewN _).trans hc3).below.mono hbel1.size)) | (go_at_call 12; refine (HPL.out _ hbx3 hbel3).mono ?_; rintro e w4 ⟨v4, rfl, hown4, hbx4, hc4⟩; obtain ⟨pa, pc, rfl, hpl⟩ := SendsAt.of_own hown4 rfl))
                    have hbel4 : Below w.heap.size w w4 := hbel3.trans ⟨hc4.os, hc4.tape, hc4.output, hc4.size, fun i hi => hc4.block i (Nat.lt_of_lt_of_le hi hbel3.size) (by simp; omega)⟩
                    have hpll : (X.plan k ends).2.length ≤ 9223372036854775807 := own_len hown4
                    clear hbel3 hc4 hbx3 hc3 hown4 HD HPL hbx1 hbel1
                    have hpm2 : (X.plan k ends).1.m = X.m := hpm
                    generalize (X.plan k ends).2 = pl at *
                    go_loop [17, 18] (fun sv i => ∃ j : Nat, i = .int .i64 j ∧ j ≤ pl.length ∧ sv = .bool (servedB (pl.take j))) (fun _ i => pl.length - (intOf i).toNat)
                    case atStart => exact ⟨0, rfl, by omega, rfl⟩
                    case round =>
                      obtain ⟨j, rfl, hj, rfl⟩ := hrel
                      by_cases hjl : j < pl.length
                      · obtain ⟨b2, o2, rfl, hcl⟩ := hpl (by omega)
                        obtain ⟨hc0, _⟩ := hcl j pl[j] (List.getElem?_eq_getElem hjl)
                        have HT := Lib.hid (servedB_take pl j hjl)
                        generalize pl[j] = sj at *
                        clear hpl hcl
                        cases hsj : servedB (pl.take j)
                        · go_wp2
                          go_round
                          case rel => exact ⟨j + 1, by go_num, by omega, by rw [HT.out, hsj]; rfl⟩
                          case measure => simp [intOf]; omega
                        · go_wp2
                          go_round
                          case rel => exact ⟨j + 1, by go_num, by omega, by rw [HT.out, hsj]; rfl⟩
                          case measure => simp [intOf]; omega
                      · have hje : pl.take j = pl := List.take_of_length_le (by omega)
                        have hsf : servedB (pl.take j) = false := by rw [hje]; exact HSV.out
                        clear hpl hje
                        go_wp2
                        go_roundw
                        case rel => exact ⟨k + 1, _, next, wait, (c + 1), rfl, rfl, by go_num, by omega, by omega, hinv2.out, hbx4, hbel4⟩
                        case measure => simp [intOf]; omega)
              · obtain ⟨hnx, hinv2⟩ := hpt hsv
                have hinv2 := Lib.hid hinv2
                rw [show decide (next ≤ (k : Int)) = true by simpa using hnx] at hdue
                have HSV := Lib.hid hsv
                clear hpt hpf hps hsv hinv1
                generalize X.m 1 0 = sm at *
                go_wp2_with fail
                go_quiet (first | (go_at_call 10; exact (hsent _).mono fun e w' ⟨he, hw⟩ => ⟨he, _, hw.symm⟩) | (go_at_call 11; exact (hk2 _).mono fun e w' ⟨he, hw⟩ => ⟨he, _, hw.symm⟩))
                have HD := Lib.hid hdue
                clear hdue hsent hk1 hk2
                go_wp2_with (first | (go_at_call 14; refine (due_w 1 k true _ (hbx1.drewN _) HD.out).mono ?_; rintro e w3 ⟨rfl, hbx3, hc3⟩; have hbel3 := hbel1.trans ((((Chg.refl [] W1).drewN _).trans hc3).below.mono hbel1.size)) | (go_at_call 12; refine (HPL.out _ hbx3 hbel3).mono ?_; rintro e w4 ⟨v4, rfl, hown4, hbx4, hc4⟩; obtain ⟨pa, pc, rfl, hpl⟩ := SendsAt.of_own hown4 rfl))
                have hbel4 : Below w.heap.size w w4 := hbel3.trans ⟨hc4.os, hc4.tape, hc4.output, hc4.size, fun i hi => hc4.block i (Nat.lt_of_lt_of_le hi hbel3.size) (by simp; omega)⟩
                have hpll : (X.plan k ends).2.length ≤ 9223372036854775807 := own_len hown4
                clear hbel3 hc4 hbx3 hc3 hown4 HD HPL hbx1 hbel1
                generalize (X.plan k ends).2 = pl at *
                go_loop [17, 18] (fun sv i => ∃ j : Nat, i = .int .i64 j ∧ j ≤ pl.length ∧ sv = .bool (servedB (pl.take j))) (fun _ i => pl.length - (intOf i).toNat)
                case atStart => exact ⟨0, rfl, by omega, rfl⟩
                case round =>
                  obtain ⟨j, rfl, hj, rfl⟩ := hrel
                  by_cases hjl : j < pl.length
                  · obtain ⟨b2, o2, rfl, hcl⟩ := hpl (by omega)
                    obtain ⟨hc0, _⟩ := hcl j pl[j] (List.getElem?_eq_getElem hjl)
                    have HT := Lib.hid (servedB_take pl j hjl)
                    generalize pl[j] = sj at *
                    clear hpl hcl
                    cases hsj : servedB (pl.take j)
                    · go_wp2
                      go_round
                      case rel => exact ⟨j + 1, by go_num, by omega, by rw [HT.out, hsj]; rfl⟩
                      case measure => simp [intOf]; omega
                    · go_wp2
                      go_round
                      case rel => exact ⟨j + 1, by go_num, by omega, by rw [HT.out, hsj]; rfl⟩
                      case measure => simp [intOf]; omega
                  · have hje : pl.take j = pl := List.take_of_length_le (by omega)
                    have hsf : servedB (pl.take j) = true := by rw [hje]; exact HSV.out
                    clear hpl hje
                    go_wp2
                    go_roundw
                    case rel => exact ⟨k + 1, _, _, _, (c + 1), rfl, rfl, by go_num, by omega, by omega, hinv2.out, hbx4, hbel4⟩
                    case measure => simp [intOf]; omega
        · have hat2 : ((k : Int) == at_) = false := by simpa using hat
          have hinv1 := hinv
          have hbx1 := hbx
          have hbel1 := hbel
          clear hat hinv hbx hbel

          have hm0 := hbx1.pos 1 0
          obtain ⟨hk1, hk2, _⟩ := hkey.out wr hbel1
          have hsent := fun q => sent_w 1 0 _ (wr.drewN q) (hbx1.drewN q) (by unfold wf64; omega) (by unfold wf64; omega) rfl
          obtain ⟨hpt, hpf, hpm, hps⟩ := hinv1.plan hN (by omega : k < 200) ends
          have hps := hps l0 hl0
          have hdue := hinv1.dueB hN (by omega : k ≤ 200)
          by_cases hlast : lastI l0 ≤ X.m 1 0
          · clear hpt hpf hpm hps hdue hinv1
            generalize X.m 1 0 = sm at *
            go_wp2_with fail
            go_quiet (first | (go_at_call 10; exact (hsent _).mono fun e w' ⟨he, hw⟩ => ⟨he, _, hw.symm⟩) | (go_at_call 11; exact (hk2 _).mono fun e w' ⟨he, hw⟩ => ⟨he, _, hw.symm⟩))
            go_wp2
            go_ret
            exact ⟨rfl, hbel1.trans (((Chg.refl [] wr).drewN _).below.mono hbel1.size)⟩
          · have hplan := fun w3 (hbx3 : BoxAt w3 bB bP bM c X) (hbel3 : Below w.heap.size w w3) => plan_any k ends (some ⟨ab, ao, none⟩) C _ w3 hbx3 hinv1.bud.1 hinv1.bud.2 (hek.out w3 hbel3) (by intro b hb he; omega) hel.1 hel.2 (fun i => ⟨hinv1.lo i, by have := hinv1.hi i; omega⟩)
            have HPL := Lib.hid hplan
            clear hplan
            have hwb := pauseI_rng ((X.at_ 1).waiting + 1)
            rw [← hinv1.wt] at hwb
            obtain ⟨hwb1, hwb2⟩ := hwb
            have hnxb := hinv1.nx
            obtain ⟨hnxb1, hnxb2⟩ := hnxb
            cases hsv : servedB (X.plan k ends).2
            · have hnx : ¬ next ≤ k := fun h => by
                have := hps h hm0 (by omega)
                rw [hsv] at this
                cases this
              first
              | (exfalso; omega)
              | (
                  have hinv2 := Lib.hid (hpf hsv)
                  rw [show decide (next ≤ (k : Int)) = false by simpa using hnx] at hdue
                  have HSV := Lib.hid hsv
                  clear hpt hpf hps hsv hinv1
                  generalize X.m 1 0 = sm at *
                  have hnx : (k : Int) < next := by omega
                  go_wp2_with fail
                  go_quiet (first | (go_at_call 10; exact (hsent _).mono fun e w' ⟨he, hw⟩ => ⟨he, _, hw.symm⟩) | (go_at_call 11; exact (hk2 _).mono fun e w' ⟨he, hw⟩ => ⟨he, _, hw.symm⟩))
                  have HD := Lib.hid hdue
                  clear hdue hsent hk1 hk2
                  go_wp2_with (first | (go_at_call 14; refine (due_w 1 k false _ (hbx1.drewN _) HD.out).mono ?_; rintro e w3 ⟨rfl, hbx3, hc3⟩; have hbel3 := hbel1.trans ((((Chg.refl [] wr).drewN _).trans hc3).below.mono hbel1.size)) | (go_at_call 12; refine (HPL.out _ hbx3 hbel3).mono ?_; rintro e w4 ⟨v4, rfl, hown4, hbx4, hc4⟩; obtain ⟨pa, pc, rfl, hpl⟩ := SendsAt.of_own hown4 rfl))
                  have hbel4 : Below w.heap.size w w4 := hbel3.trans ⟨hc4.os, hc4.tape, hc4.output, hc4.size, fun i hi => hc4.block i (Nat.lt_of_lt_of_le hi hbel3.size) (by simp; omega)⟩
                  have hpll : (X.plan k ends).2.length ≤ 9223372036854775807 := own_len hown4
                  clear hbel3 hc4 hbx3 hc3 hown4 HD HPL hbx1 hbel1
                  have hpm2 : (X.plan k ends).1.m = X.m := hpm
                  generalize (X.plan k ends).2 = pl at *
                  go_loop [17, 18] (fun sv i => ∃ j : Nat, i = .int .i64 j ∧ j ≤ pl.length ∧ sv = .bool (servedB (pl.take j))) (fun _ i => pl.length - (intOf i).toNat)
                  case atStart => exact ⟨0, rfl, by omega, rfl⟩
                  case round =>
                    obtain ⟨j, rfl, hj, rfl⟩ := hrel
                    by_cases hjl : j < pl.length
                    · obtain ⟨b2, o2, rfl, hcl⟩ := hpl (by omega)
                      obtain ⟨hc0, _⟩ := hcl j pl[j] (List.getElem?_eq_getElem hjl)
                      have HT := Lib.hid (servedB_take pl j hjl)
                      generalize pl[j] = sj at *
                      clear hpl hcl
                      cases hsj : servedB (pl.take j)
                      · go_wp2
                        go_round
                        case rel => exact ⟨j + 1, by go_num, by omega, by rw [HT.out, hsj]; rfl⟩
                        case measure => simp [intOf]; omega
                      · go_wp2
                        go_round
                        case rel => exact ⟨j + 1, by go_num, by omega, by rw [HT.out, hsj]; rfl⟩
                        case measure => simp [intOf]; omega
                    · have hje : pl.take j = pl := List.take_of_length_le (by omega)
                      have hsf : servedB (pl.take j) = false := by rw [hje]; exact HSV.out
                      clear hpl hje
                      go_wp2
                      go_roundw
                      case rel => exact ⟨k + 1, _, next, wait, c, rfl, rfl, by go_num, by omega, by omega, hinv2.out, hbx4, hbel4⟩
                      case measure => simp [intOf]; omega)
            · obtain ⟨hnx, hinv2⟩ := hpt hsv
              have hinv2 := Lib.hid hinv2
              rw [show decide (next ≤ (k : Int)) = true by simpa using hnx] at hdue
              have HSV := Lib.hid hsv
              clear hpt hpf hps hsv hinv1
              generalize X.m 1 0 = sm at *
              go_wp2_with fail
              go_quiet (first | (go_at_call 10; exact (hsent _).mono fun e w' ⟨he, hw⟩ => ⟨he, _, hw.symm⟩) | (go_at_call 11; exact (hk2 _).mono fun e w' ⟨he, hw⟩ => ⟨he, _, hw.symm⟩))
              have HD := Lib.hid hdue
              clear hdue hsent hk1 hk2
              go_wp2_with (first | (go_at_call 14; refine (due_w 1 k true _ (hbx1.drewN _) HD.out).mono ?_; rintro e w3 ⟨rfl, hbx3, hc3⟩; have hbel3 := hbel1.trans ((((Chg.refl [] wr).drewN _).trans hc3).below.mono hbel1.size)) | (go_at_call 12; refine (HPL.out _ hbx3 hbel3).mono ?_; rintro e w4 ⟨v4, rfl, hown4, hbx4, hc4⟩; obtain ⟨pa, pc, rfl, hpl⟩ := SendsAt.of_own hown4 rfl))
              have hbel4 : Below w.heap.size w w4 := hbel3.trans ⟨hc4.os, hc4.tape, hc4.output, hc4.size, fun i hi => hc4.block i (Nat.lt_of_lt_of_le hi hbel3.size) (by simp; omega)⟩
              have hpll : (X.plan k ends).2.length ≤ 9223372036854775807 := own_len hown4
              clear hbel3 hc4 hbx3 hc3 hown4 HD HPL hbx1 hbel1
              generalize (X.plan k ends).2 = pl at *
              go_loop [17, 18] (fun sv i => ∃ j : Nat, i = .int .i64 j ∧ j ≤ pl.length ∧ sv = .bool (servedB (pl.take j))) (fun _ i => pl.length - (intOf i).toNat)
              case atStart => exact ⟨0, rfl, by omega, rfl⟩
              case round =>
                obtain ⟨j, rfl, hj, rfl⟩ := hrel
                by_cases hjl : j < pl.length
                · obtain ⟨b2, o2, rfl, hcl⟩ := hpl (by omega)
                  obtain ⟨hc0, _⟩ := hcl j pl[j] (List.getElem?_eq_getElem hjl)
                  have HT := Lib.hid (servedB_take pl j hjl)
                  generalize pl[j] = sj at *
                  clear hpl hcl
                  cases hsj : servedB (pl.take j)
                  · go_wp2
                    go_round
                    case rel => exact ⟨j + 1, by go_num, by omega, by rw [HT.out, hsj]; rfl⟩
                    case measure => simp [intOf]; omega
                  · go_wp2
                    go_round
                    case rel => exact ⟨j + 1, by go_num, by omega, by rw [HT.out, hsj]; rfl⟩
                    case measure => simp [intOf]; omega
                · have hje : pl.take j = pl := List.take_of_length_le (by omega)
                  have hsf : servedB (pl.take j) = true := by rw [hje]; exact HSV.out
                  clear hpl hje
                  go_wp2
                  go_roundw
                  case rel => exact ⟨k + 1, _, _, _, c, rfl, rfl, by go_num, by omega, by omega, hinv2.out, hbx4, hbel4⟩
                  case measure => simp [intOf]; omega
      · have hF : rounds = (k : Int) := by omega
        clear hbx hinv
        go_wp2
        go_ret
        exact ⟨rfl, hbel⟩
set_option maxRecDepth 100000 in
set_option maxHeartbeats 1000000 in
theorem waits_any (peers budget : Int) (ends : List (List Int)) (rounds at_ : Int) (A : Option Addr) (C : Nat) (w : World) (he : RowsAt w (fun b => b < w.heap.size) A ends) (hel : EndsOk ends)
    (hb : wf64 budget) (hat : wf64 at_) (hr : wf64 rounds) :
    Calls Try.prog 4 #[.int .i64 peers, .int .i64 budget, .slice A ends.length C, .int .i64 rounds, .int .i64 at_] w (LawPost w) := by
  have hs := small_any
  have hfew := fun w1 (h : Below w.heap.size w w1) => few_any ends A C _ w1 (he.keep (Chg.of_below h []) (by simp)) hel.1
  cases hf : fewB ends
  · simp only [hf] at hfew
    have HF := Lib.hid hfew
    clear hf he hel hfew
    go_enter Try.func4, Try.ntmps4
    go_wp2_with (first | (go_at_call 7; refine (hs _).mono ?_; rintro e w1 ⟨rfl, hb1⟩) | (go_at_call 8; refine (HF.out _ hb1).mono ?_; rintro e w' ⟨rfl, rfl⟩))
    go_ret
    exact ⟨rfl, hb1⟩
  · simp only [hf] at hfew
    have HF := Lib.hid hfew
    clear hf hfew
    by_cases hr0 : rounds < 0
    · clear he hel
      go_enter Try.func4, Try.ntmps4
      go_wp2_with (first | (go_at_call 7; refine (hs _).mono ?_; rintro e w1 ⟨rfl, hb1⟩) | (go_at_call 8; refine (HF.out _ hb1).mono ?_; rintro e w' ⟨rfl, rfl⟩))
      go_ret
      exact ⟨rfl, hb1⟩
    · by_cases hr2 : 200 < rounds
      · clear he hel
        go_enter Try.func4, Try.ntmps4
        go_wp2_with (first | (go_at_call 7; refine (hs _).mono ?_; rintro e w1 ⟨rfl, hb1⟩) | (go_at_call 8; refine (HF.out _ hb1).mono ?_; rintro e w' ⟨rfl, rfl⟩))
        go_ret
        exact ⟨rfl, hb1⟩
      · by_cases hok : newOk 0 peers = true
        · have h4 : 1 ≤ peers ∧ peers ≤ 20 := by simp [newOk] at hok; omega
          obtain ⟨N, rfl⟩ : ∃ N : Nat, peers = N := ⟨peers.toNat, by omega⟩
          have hnew : ∀ w, Calls Try.prog 9 #[.int .i64 0, .int .i64 N, .int .i64 budget] w (NewEx w (newBox 0 N budget)) := fun w => new_ex 0 N budget w (by omega) (by omega) (by omega) (by omega)
          obtain ⟨hN1, hN2⟩ := h4
          clear hok
          by_cases hn2 : N < 2
          · clear he hel
            go_enter Try.func4, Try.ntmps4
            go_wp2_with (first | (go_at_call 7; refine (hs _).mono ?_; rintro e w1 ⟨rfl, hb1⟩) | (go_at_call 8; refine (HF.out _ hb1).mono ?_; rintro e w' ⟨rfl, rfl⟩) | (go_at_call 9; refine (hnew _).mono ?_; rintro e w2 ⟨bB, bP, bM, rfl, hbox, hb2, n1, n2, n3⟩))
            go_ret
            exact ⟨rfl, hb1.trans (hb2.mono hb1.size)⟩
          · cases hends : ends with
            | nil =>
              simp only [hends] at HF
              clear he hel
              go_enter Try.func4, Try.ntmps4
              go_wp2_with (first | (go_at_call 7; refine (hs _).mono ?_; rintro e w1 ⟨rfl, hb1⟩) | (go_at_call 8; refine (HF.out _ hb1).mono ?_; rintro e w' ⟨rfl, rfl⟩) | (go_at_call 9; refine (hnew _).mono ?_; rintro e w2 ⟨bB, bP, bM, rfl, hbox, hb2, n1, n2, n3⟩))
              go_ret
              exact ⟨rfl, hb1.trans (hb2.mono hb1.size)⟩
            | cons l0 rest =>
              have HF2 : Hid (∀ w1, Below w.heap.size w w1 → Calls Try.prog 8 #[.slice A (l0 :: rest).length C] w1 fun e w' => e = .returned (.bool true) ∧ w1 = w') := by
                rw [← hends]; exact HF.out
              exact waits_main N budget (l0 :: rest) l0 rfl rounds at_ A C w (by rw [← hends]; exact he) (by rw [← hends]; exact hel) hb hat (by omega) (by omega) (by omega) (by omega) HF2
        · have hnew := fun w => new_no 0 peers budget w (by simpa using hok)
          clear hok he hel
          go_enter Try.func4, Try.ntmps4
          go_wp2_with (first | (go_at_call 7; refine (hs _).mono ?_; rintro e w1 ⟨rfl, hb1⟩) | (go_at_call 8; refine (HF.out _ hb1).mono ?_; rintro e w' ⟨rfl, rfl⟩) | (go_at_call 9; refine (hnew _).mono ?_; rintro e w' ⟨rfl, rfl⟩))
          go_ret
          exact ⟨rfl, hb1⟩
end Go.Proofs.Ytipklnakihinkaa
