/- OutboxBudget: the walk. -/
import Derived.Test.YtipklnakihinkaaWithinWalk
import Derived.Test.YtipklnakihinkaaWaitsWalk
import Derived.Test.YtipklnakihinkaaBudgetModel
namespace Go.Proofs.Ytipklnakihinkaa
open Go.ChangeShapes Go.WideShapes Go.ChangeAt Go.RowKit
set_option linter.unusedVariables false

/-- the cells of a slice of bools -/
def boolCells (N : Nat) (g : Nat → Bool) : Array Value := ((List.range N).map fun i => Value.bool (g i)).toArray
theorem boolCells_get {N j : Nat} (g : Nat → Bool) (h : j < N) : (boolCells N g)[j]? = some (.bool (g j)) := by
  simp [boolCells, h]
theorem boolCells_set {N j : Nat} (g : Nat → Bool) (v : Bool) : (boolCells N g).setIfInBounds j (.bool v) = boolCells N (setB g j v) := by
  unfold boolCells
  rw [List.setIfInBounds_toArray]
  congr 1
  apply List.ext_getElem?
  intro i
  rw [List.getElem?_set]
  by_cases hi : j = i
  · subst hi
    by_cases hl : j < N
    · simp [hl, setB]
    · simp [hl]
  · by_cases hl : i < N
    · have hi2 : ¬ i = j := fun h => hi h.symm
      simp [hi, hi2, hl, setB]
    · simp [hi, hl]
theorem made_bools (N : Nat) : madeCells #[.bool false] (N * 1) = boolCells N (fun _ => false) := by
  apply Array.ext
  · simp [size_madeCells, boolCells]
  · intro j h1 h2
    simp [madeCells, boolCells]
    rw [Nat.mod_one j]
    rfl
theorem info4 : (Try.prog.info? 4).map (fun i => (i.zero, i.size, i.bytes)) = some (some (.bool false), 1, 1) := by kernel_rfl
theorem make_bools (N : Nat) (hN : N ≤ 20) (W : World) : (Instr.makeSlice 28 (.int .i64 N) (.int .i64 N)).run Try.prog W = .ok (.slice (some ⟨W.heap.size, 0, none⟩) N N) (W.alloc (.cells (boolCells N (fun _ => false)) 4)) := by
  obtain ⟨i0, hi, hz0, hz1, hz2⟩ := info_parts info4
  have := run_make (P := Try.prog) W 28 4 i0 _ Try.underlying28 hi hz0 .i64 .i64 N N (by omega) (by omega) (by rw [hz2]; omega) (by omega)
  rw [hz1] at this
  have e : madeCells #[.bool false] N = boolCells N (fun _ => false) := by have := made_bools N; rwa [Nat.mul_one] at this
  simpa [Value.cells, e] using this
/-- block g holds the bools f -/
def BoolsAt (w : World) (g N : Nat) (f : Nat → Bool) : Prop := w.heap[g]? = some (.cells (boolCells N f) 4 (0, 0))
theorem BoolsAt.keep {S : List Nat} {w w' : World} {g N : Nat} {f : Nat → Bool} (h : BoolsAt w g N f) (hc : Chg S w w') (hs : g ∉ S) : BoolsAt w' g N f := hc.heap_some hs h
theorem BoolsAt.congr {w : World} {g N : Nat} {f f' : Nat → Bool} (h : BoolsAt w g N f) (he : ∀ i, i < N → f i = f' i) : BoolsAt w g N f' := by
  have : boolCells N f = boolCells N f' := by
    unfold boolCells
    congr 1
    apply List.map_congr_left
    intro i hi
    rw [he i (by simpa using hi)]
  unfold BoolsAt at h ⊢
  rw [h, this]
theorem BoolsAt.ne {w : World} {bB bP bM n g N : Nat} {X : BoxM} {f : Nat → Bool} (h : BoolsAt w g N f) (hb : BoxAt w bB bP bM n X) : g ≠ bB ∧ g ≠ bP ∧ g ≠ bM := by
  unfold BoolsAt at h
  obtain ⟨D, ⟨es, clock, hm, _⟩, _⟩ := hb.sizes
  refine ⟨?_, ?_, ?_⟩
  · rintro rfl
    have := h.symm.trans hb.box
    simp at this
  · rintro rfl
    have := h.symm.trans hb.peers
    simp at this
  · rintro rfl
    have := h.symm.trans hm
    simp at this
theorem BoolsAt.cell {w : World} {g N j : Nat} {f : Nat → Bool} (h : BoolsAt w g N f) (hj : j < N) : w.cell? ⟨g, j, none⟩ = some (.bool (f j)) := by
  rw [cell_row h, boolCells_get f hj]
theorem BoolsAt.fz {w : World} {g N : Nat} {f : Nat → Bool} (h : BoolsAt w g N f) (j : Nat) : w.frozen? ⟨g, j, none⟩ = false := frozen_row h j
theorem BoolsAt.set {w : World} {g N : Nat} {f : Nat → Bool} (h : BoolsAt w g N f) (j : Nat) (v : Bool) : BoolsAt (w.setCell ⟨g, j, none⟩ (.bool v)) g N (setB f j v) := by
  have := set_row h j (.bool v)
  rw [boolCells_set] at this
  exact this
theorem below_of_chg {S : List Nat} {w w1 w2 : World} (h : Below w.heap.size w w1) (hc : Chg S w1 w2) (hs : ∀ b, b ∈ S → w.heap.size ≤ b) : Below w.heap.size w w2 :=
  h.trans ⟨hc.os, hc.tape, hc.output, hc.size, fun i hi => hc.block i (Nat.lt_of_lt_of_le hi h.size) (fun hm => by have := hs i hm; omega)⟩

theorem BoxAt.more {w : World} {bB bP bM n n' : Nat} {X : BoxM} (h : BoxAt w bB bP bM n X) (hn : n ≤ n') : BoxAt w bB bP bM n' X := ⟨h.box, h.peers, h.sizes.more hn, h.few, h.pos⟩
theorem quiet_due {P : Program} {f : FuncId} {args : Array Value} {w : World} {a n : Nat} {v : Value}
    (h : Calls P f args (w.drewN (a + n)) fun e w' => e = .returned v ∧ ∃ k, w' = (w.drewN (a + n)).drewN k) :
    Calls P f args (w.drewN (a + n)) fun e w'' => e = .returned v ∧ ∃ m, w'' = w.drewN (a + m) :=
  h.mono fun _ _ ⟨he, k, hm⟩ => ⟨he, n + k, by rw [hm, World.drewN_drewN, Nat.add_assoc]⟩
set_option maxRecDepth 100000 in
set_option maxHeartbeats 2000000 in
theorem budget_any (me peers bud : Int) (ends : List (List Int)) (l : List Act) (A : Option Addr) (C : Nat) (A2 : Option Addr) (C2 : Nat) (w : World) (he : RowsAt w (fun b => b < w.heap.size) A ends) (hel : EndsOk ends)
    (ha : ActsAt w A2 l) (hwf : ∀ x, x ∈ l → x.wf) (hlen : l.length ≤ 9223372036854775807) (hb : wf64 bud) :
    Calls Try.prog 6 #[.int .i64 me, .int .i64 peers, .int .i64 bud, .slice A ends.length C, .slice A2 l.length C2] w (LawPost w) := by
  have hs := small_any
  have hfew := fun w1 (h : Below w.heap.size w w1) => few_any ends A C _ w1 (he.keep (Chg.of_below h []) (by simp)) hel.1
  cases hf : fewB ends
  · simp only [hf] at hfew
    have HF := Lib.hid hfew
    clear hf he hel hfew ha hwf
    go_enter Try.func6, Try.ntmps6
    go_wp2_with (first | (go_at_call 7; refine (hs _).mono ?_; rintro e w1 ⟨rfl, hb1⟩) | (go_at_call 8; refine (HF.out _ hb1).mono ?_; rintro e w' ⟨rfl, rfl⟩))
    go_ret
    exact ⟨rfl, hb1⟩
  · simp only [hf] at hfew
    have HF := Lib.hid hfew
    clear hf hfew
    by_cases h60 : 60 < l.length
    · clear he hel ha hwf
      go_enter Try.func6, Try.ntmps6
      go_wp2_with (first | (go_at_call 7; refine (hs _).mono ?_; rintro e w1 ⟨rfl, hb1⟩) | (go_at_call 8; refine (HF.out _ hb1).mono ?_; rintro e w' ⟨rfl, rfl⟩))
      go_ret
      exact ⟨rfl, hb1⟩
    · by_cases hok : newOk me peers = true
      · have h4 : 1 ≤ peers ∧ peers ≤ 20 ∧ 0 ≤ me ∧ me < peers := by simpa [newOk] using hok
        obtain ⟨N, rfl⟩ : ∃ N : Nat, peers = N := ⟨peers.toNat, by omega⟩
        have hnew : ∀ w, Calls Try.prog 9 #[.int .i64 me, .int .i64 N, .int .i64 bud] w (NewEx w (newBox me N bud)) := fun w => new_ex me N bud w (by omega) (by omega) (by omega) (by omega)
        obtain ⟨hN1, hN2, hme1, hme2⟩ := h4
        have hmk := make_bools N (by omega)
        clear hok
        have HB := Lib.hid hb
        have HE := Lib.hid he
        have HEL := Lib.hid hel
        clear he hel hb
        go_enter Try.func6, Try.ntmps6
        go_wp2_with (first | (go_at_call 7; refine (hs _).mono ?_; rintro e w1 ⟨rfl, hb1⟩) | (go_at_call 8; refine (HF.out _ hb1).mono ?_; rintro e w' ⟨rfl, rfl⟩) | (go_at_call 9; refine (hnew _).mono ?_; rintro e w2 ⟨bB, bP, bM, rfl, hbox, hb2, n1, n2, n3⟩))
        have hB2 : Below w.heap.size w w2 := hb1.trans (hb2.mono hb1.size)
        have hm1 := hb1.size
        have m1 : w.heap.size ≤ bB := by omega
        have m2 : w.heap.size ≤ bP := by omega
        have m3 : w.heap.size ≤ bM := by omega
        obtain ⟨W0, hW0⟩ : ∃ W0, W0 = w2.alloc (.cells (boolCells N (fun _ => false)) 4) := ⟨_, rfl⟩
        have hg0 : BoolsAt W0 w2.heap.size N (fun _ => false) := by rw [hW0]; exact heap_alloc_new w2 _
        have hc0 : Chg [] w2 W0 := by rw [hW0]; exact (Chg.refl [] w2).alloc _
        rw [← hW0]
        have hB0 : Below w.heap.size w W0 := below_of_chg hB2 hc0 (by simp)
        have hbx0 := hbox.keep hc0 (by simp) (by simp) (by simp)
        have m4 : w.heap.size ≤ w2.heap.size := hB2.size
        clear hb1 hb2 n1 n2 n3 hm1 hs hnew HF hB2 hW0 hc0 hbox
        generalize w2.heap.size = gB at *
        go_loopw [14] (fun i wr => ∃ (k : Nat) (X : BoxM) (gone : Nat → Bool), i = .int .i64 k ∧ k ≤ l.length ∧ BInv me N bud k gone X ∧ BoxAt wr bB bP bM k X ∧ BoolsAt wr gB N gone ∧ Below w.heap.size w wr) (fun i _ => l.length - (intOf i).toNat)
        case atStart => exact ⟨0, _, _, rfl, by omega, BInv.new me bud N, hbx0, hg0, hB0⟩
        case round =>
          obtain ⟨k, X, gone, rfl, hk, hinv, hbx, hgo, hbel⟩ := hrel
          clear hbx0 hg0 hB0
          by_cases hlt : k < l.length
          · obtain ⟨ab, ao, rfl, hax⟩ := (ha.keep (Chg.of_below hbel [])) (by omega)
            obtain ⟨x, hx⟩ : ∃ x, x = l[k] := ⟨_, rfl⟩
            obtain ⟨a0, a1, a2, a3, a4⟩ := hax k x (by rw [hx]; exact List.getElem?_eq_getElem hlt)
            have hxw : x.wf := hwf x (by rw [hx]; exact List.getElem_mem hlt)
            unfold Act.wf wf64 at hxw
            obtain ⟨⟨_, _⟩, ⟨p1, p2⟩, ⟨g1, g2⟩, ⟨z1, z2⟩, ⟨t1, t2⟩⟩ := hxw
            clear hax hx
            have hd : ∃ d, bits .and .i64 x.kind 7 = d := ⟨_, rfl⟩
            obtain ⟨d, hd⟩ := hd
            obtain ⟨W, hW⟩ : ∃ W, W = wr.alloc (.cells #[.int .i64 x.kind, .int .i64 x.peer, .int .i64 x.log, .int .i64 x.n, .int .i64 x.now] 41) := ⟨_, rfl⟩
            have hWx : ∀ i, W.cell? ⟨wr.heap.size, i, none⟩ = #[Value.int .i64 x.kind, .int .i64 x.peer, .int .i64 x.log, .int .i64 x.n, .int .i64 x.now][i]? := fun i => by rw [hW]; exact cell_new1 wr _ 41 i
            have hWc : Chg [] wr W := by rw [hW]; exact (Chg.refl [] wr).alloc _
            have e1 : W.cell? ⟨wr.heap.size, 1, none⟩ = some (.int .i64 x.peer) := hWx 1
            have e2 : W.cell? ⟨wr.heap.size, 2, none⟩ = some (.int .i64 x.log) := hWx 2
            have e3 : W.cell? ⟨wr.heap.size, 3, none⟩ = some (.int .i64 x.n) := hWx 3
            have e4 : W.cell? ⟨wr.heap.size, 4, none⟩ = some (.int .i64 x.now) := hWx 4
            have hbelW := below_of_chg hbel hWc (by simp)
            have hbxW := hbx.keep hWc (by simp) (by simp) (by simp)
            have hgoW := hgo.keep hWc (by simp)
            have hBg : gB < wr.heap.size := lt_of_heap hgo
            have hBP : bP < wr.heap.size := lt_of_heap hbx.peers
            have hBM : bM < wr.heap.size := hbx.sizes.lt
            have hBB : bB < wr.heap.size := lt_of_heap hbx.box
            have HWC := Lib.hid hWc
            have HWE := Lib.hid hW
            clear hWx hWc hW
            by_cases d4 : d = 4
            · have q1 : (d == 4) = true := by simpa using d4
              clear d4
              have hack := ack_any x.peer x.log x.n x.now W hbxW (by unfold maxLen; omega) ⟨p1, p2⟩ ⟨g1, g2⟩ ⟨z1, z2⟩
              have hnx := Lib.hid (hinv.ack x.peer x.log x.n x.now)
              clear hinv
              go_wp2_with fail
              rw [← HWE.out]
              refine hack.mono ?_
              rintro e w9 ⟨rfl, hbx9, hc9⟩
              have hgo9 := hgoW.keep hc9 (by have := hgoW.ne hbxW; simp; omega)
              have hbel9 := below_of_chg hbelW hc9 (by simp; omega)
              clear hack hbxW hgoW hbelW hc9
              go_wp2
              go_roundw
              case rel => exact ⟨k + 1, _, _, by go_num, by omega, hnx.out, hbx9, hgo9, hbel9⟩
              case measure => simp [intOf]; omega
            · have q1 : (d == 4) = false := by simpa using d4
              clear d4
              by_cases d5 : d = 5
              · have q2 : (d == 5) = true := by simpa using d5
                clear d5
                have hack := ack_any x.peer x.log x.n x.now W hbxW (by unfold maxLen; omega) ⟨p1, p2⟩ ⟨g1, g2⟩ ⟨z1, z2⟩
                have hnx := Lib.hid (hinv.ack x.peer x.log x.n x.now)
                clear hinv
                go_wp2_with fail
                rw [← HWE.out]
                refine hack.mono ?_
                rintro e w9 ⟨rfl, hbx9, hc9⟩
                have hgo9 := hgoW.keep hc9 (by have := hgoW.ne hbxW; simp; omega)
                have hbel9 := below_of_chg hbelW hc9 (by simp; omega)
                clear hack hbxW hgoW hbelW hc9
                go_wp2
                go_roundw
                case rel => exact ⟨k + 1, _, _, by go_num, by omega, hnx.out, hbx9, hgo9, hbel9⟩
                case measure => simp [intOf]; omega
              · have q2 : (d == 5) = false := by simpa using d5
                clear d5
                by_cases d6 : d = 6
                · have q3 : (d == 6) = true := by simpa using d6
                  clear d6
                  have hgive := give_any x.peer W hbxW
                  by_cases hpn : 0 ≤ x.peer ∧ x.peer < N
                  · obtain ⟨pn, hpn1⟩ : ∃ pn : Nat, x.peer = pn := ⟨x.peer.toNat, by omega⟩
                    have hnx := Lib.hid (hinv.give_in pn)
                    rw [← hpn1] at hnx
                    obtain ⟨hp1, hp2⟩ := hpn
                    have HPN := Lib.hid hpn1
                    clear hinv hpn1
                    go_wp2_with fail
                    rw [← HWE.out]
                    refine hgive.mono ?_
                    rintro e w9 ⟨⟨gv, rfl⟩, hbx9, hc9⟩
                    have hne := hgoW.ne hbxW
                    have hgo9 := hgoW.keep hc9 (by simp; omega)
                    have hbel9 := below_of_chg hbelW hc9 (by simp; omega)
                    have e19 := hc9.cell_some (by simp; omega) e1
                    have hpt : x.peer.toNat = pn := by have := HPN.out; omega
                    have hgc := hgo9.cell (j := pn) (by omega)
                    have hgf := hgo9.fz pn
                    have hpl : pn < N := by have := HPN.out; omega
                    clear hgive hbxW hgoW hbelW hc9
                    go_wp2
                    go_roundw
                    case rel =>
                      have hcs : Chg [gB] w9 (w9.setCell ⟨gB, pn, none⟩ (.bool true)) := (Chg.refl [gB] w9).setCell (by simp) _
                      exact ⟨k + 1, _, _, by go_num, by omega, hnx.out, (hbx9.keep hcs (by simp; omega) (by simp; omega) (by simp; omega)).more (by omega), hgo9.set pn true, below_of_chg hbel9 hcs (by simp; omega)⟩
                    case measure => simp [intOf]; omega
                  · have hnx := Lib.hid (hinv.give_out hpn)
                    have ho : x.peer < 0 ∨ (0 ≤ x.peer ∧ (N : Int) ≤ x.peer) := by omega
                    clear hinv hpn
                    rcases ho with o1 | ⟨o1, o2⟩
                    all_goals
                      go_wp2_with fail
                      rw [← HWE.out]
                      refine hgive.mono ?_
                      rintro e w9 ⟨⟨gv, rfl⟩, hbx9, hc9⟩
                      have hne := hgoW.ne hbxW
                      have hgo9 := hgoW.keep hc9 (by simp; omega)
                      have hbel9 := below_of_chg hbelW hc9 (by simp; omega)
                      have e19 := hc9.cell_some (by simp; omega) e1
                      clear hgive hbxW hgoW hbelW hc9
                      go_wp2
                      go_roundw
                      case rel => exact ⟨k + 1, _, _, by go_num, by omega, hnx.out, hbx9.more (by omega), hgo9, hbel9⟩
                      case measure => simp [intOf]; omega
                · have q3 : (d == 6) = false := by simpa using d6
                  clear d6
                  by_cases d7 : d = 7
                  · have q4 : (d == 7) = true := by simpa using d7
                    clear d7
                    have hnx := Lib.hid hinv.more
                    clear hinv
                    go_wp2
                    go_roundw
                    case rel => exact ⟨k + 1, _, _, by go_num, by omega, hnx.out, by rw [← HWE.out]; exact hbxW.more (by omega), by rw [← HWE.out]; exact hgoW, by rw [← HWE.out]; exact hbelW⟩
                    case measure => simp [intOf]; omega
                  · have q4 : (d == 7) = false := by simpa using d7
                    clear d7
                    go_wp2_with fail
                    rw [← HWE.out]
                    obtain ⟨W2, hW2⟩ : ∃ W2, W2 = W.alloc (.cells (boolCells N (fun _ => false)) 4) := ⟨_, rfl⟩
                    have hdu0 : BoolsAt W2 W.heap.size N (fun _ => false) := by rw [hW2]; exact heap_alloc_new W _
                    have hc2 : Chg [] W W2 := by rw [hW2]; exact (Chg.refl [] W).alloc _
                    have hWs : W.heap.size = wr.heap.size + 1 := by rw [HWE.out]; simp
                    rw [show wr.heap.size + 1 = W.heap.size from hWs.symm, ← hW2]
                    have hbx2 := hbxW.keep hc2 (by simp) (by simp) (by simp)
                    have hgo2 := hgoW.keep hc2 (by simp)
                    have hbel2 := below_of_chg hbelW hc2 (by simp)
                    have e42 := hc2.cell_lt e4
                    have hdB : wr.heap.size < W.heap.size := by omega
                    have hdW : w.heap.size ≤ W.heap.size := hbelW.size
                    clear e1 e2 e3 e4 hbxW hgoW hbelW hc2 hW2 HWE HWC hWs
                    generalize W.heap.size = dB at *
                    obtain ⟨wo, rfl⟩ : ∃ wo : World, wo = wr := ⟨_, rfl⟩
                    go_loopw [17] (fun p wi => ∃ j : Nat, p = .int .i64 j ∧ j ≤ N ∧ BoolsAt wi dB N (fun i => decide (i < j) && X.dueB i x.now) ∧ Chg [dB] W2 wi) (fun p _ => N - (intOf p).toNat)
                    case atStart => exact ⟨0, rfl, by omega, hdu0.congr (fun i _ => by simp), Chg.refl _ _⟩
                    case round =>
                      obtain ⟨j, rfl, hj, hdu, hcw⟩ := hrel
                      clear hdu0
                      have hbxj := hbx2.keep hcw (by simp; omega) (by simp; omega) (by simp; omega)
                      have e4j := hcw.cell_some (by simp; omega) e42
                      by_cases hjl : j < N
                      · have hdue := due_w j x.now _ wr hbxj rfl
                        have HR := Lib.hid (rfl : X.dueB j x.now = X.dueB j x.now)
                        have hstep : Hid (∀ w3, Chg [] wr w3 → w3.cell? ⟨dB, j, none⟩ = some (.bool (decide (j < j) && X.dueB j x.now)) ∧ w3.frozen? ⟨dB, j, none⟩ = false ∧
                            BoolsAt (w3.setCell ⟨dB, j, none⟩ (.bool (X.dueB j x.now))) dB N (fun i => decide (i < j + 1) && X.dueB i x.now) ∧ Chg [dB] W2 (w3.setCell ⟨dB, j, none⟩ (.bool (X.dueB j x.now)))) := by
                          intro w3 h3
                          have hd3 := hdu.keep h3 (by simp)
                          refine ⟨hd3.cell hjl, hd3.fz j, (hd3.set j _).congr (fun i hi => ?_), (hcw.step h3 (by simp)).setCell (by simp) _⟩
                          unfold setB
                          by_cases e : i = j
                          · subst e; simp
                          · have : decide (i < j + 1) = decide (i < j) := by rw [decide_eq_decide]; omega
                            rw [if_neg e, this]
                        generalize X.dueB j x.now = r at *
                        clear hdu hbxj hbx2 hgo2
                        go_wp2_with (go_at_call 14; refine hdue.mono ?_; rintro e w3 ⟨rfl, _, hc3⟩; obtain ⟨f1, f2, f3, f4⟩ := hstep.out w3 hc3)
                        go_roundw
                        case rel => exact ⟨j + 1, by go_num, by omega, f3, f4⟩
                        case measure => simp [intOf]; omega
                      · have hdu := hdu.congr (f' := fun i => X.dueB i x.now) (fun i hi => by have : i < j := by omega
                                                                                              simp [this])
                        have hgoj := hgo2.keep hcw (by simp; omega)
                        have hbelj := below_of_chg hbel2 hcw (by simp; omega)
                        have hne4 := hgoj.ne hbxj
                        have hrows : RowsAt wr (fun b => b < w.heap.size) A ends := HE.out.keep (Chg.of_below hbelj []) (by simp)
                        obtain ⟨hpinv, hpok, hpall⟩ := hinv.plan (by omega) hbxj.pos x.now ends
                        have hplan := plan_any x.now ends A C _ wr hbxj (by rw [hinv.bud_]; omega) (by rw [hinv.bud_]; have := HB.out.2; omega) hrows (by intro b hb he; omega) HEL.out.1 HEL.out.2 (fun i => ⟨hinv.lo i, by have := hinv.hi i; omega⟩)
                        clear hbx2 hgo2 hcw hinv hbel2
                        go_wp2_with fail
                        refine hplan.mono ?_
                        rintro e w4 ⟨pv, rfl, hown4, hbx4, hc4⟩
                        have hpl4 := SendsAt.of_own hown4 rfl
                        have hpll := own_len hown4
                        have hdu4 := hdu.keep hc4 (by simp; omega)
                        have hgo4 := hgoj.keep hc4 (by simp; omega)
                        have hbel4 := below_of_chg hbelj hc4 (by simp; omega)
                        have e44 := hc4.cell_some (by simp; omega) e4j
                        have hrows4 : RowsAt w4 (fun b => b < w.heap.size) A ends := HE.out.keep (Chg.of_below hbel4 []) (by simp)
                        have hwith := within_any me bud ends A C _ _ pv w4 hbx4 hrows4 HEL.out.1 HEL.out.2 hpl4 hpll hpok HB.out.2
                        have HINV := Lib.hid hpinv
                        clear hown4 hplan hrows hrows4 hc4 hdu hgoj hbelj hbxj hpok e4j hpinv
                        obtain ⟨pl, hpl⟩ : ∃ pl, pl = (X.plan x.now ends).2 := ⟨_, rfl⟩
                        obtain ⟨X4, hX4⟩ : ∃ X4, X4 = (X.plan x.now ends).1 := ⟨_, rfl⟩
                        rw [← hpl] at hpl4 hpll hpall
                        rw [← hX4] at hpall hbx4 HINV
                        clear hpl hX4
                        go_wp2_with (go_at_call 16; refine hwith.mono ?_; rintro e w5 ⟨rfl, hb5⟩)
                        have hc5 := Chg.of_below hb5 []
                        have hbx5 := hbx4.keep hc5 (by simp) (by simp) (by simp)
                        have hdu5 := hdu4.keep hc5 (by simp)
                        have hgo5 := hgo4.keep hc5 (by simp)
                        have hpl5 := hpl4.keep (S := []) hc5
                        have e45 := hc5.cell_lt e44
                        have hbel5 := hbel4.trans (hb5.mono hbel4.size)
                        clear hc5 hbx4 hdu4 hgo4 hpl4 e44 hbel4 hwith hb5
                        obtain ⟨sa, sc, rfl, hcl⟩ := hpl5
                        go_loopw [19] (fun i wi => ∃ j : Nat, i = .int .i64 j ∧ j ≤ pl.length ∧ ∃ q, wi = w5.drewN q) (fun i _ => pl.length - (intOf i).toNat)
                        case atStart => exact ⟨0, rfl, by omega, 0, rfl⟩
                        case round =>
                          obtain ⟨i, rfl, hi, q, rfl⟩ := hrel
                          by_cases hil : i < pl.length
                          · obtain ⟨b3, o3, rfl, hc3⟩ := hcl (by omega)
                            obtain ⟨c0, _⟩ := hc3 i pl[i] (List.getElem?_eq_getElem hil)
                            obtain ⟨pn, g1, g2, g3, g4, g5⟩ := hpall pl[i] (List.getElem_mem hil)
                            rw [g1] at c0
                            have hdc := hdu5.cell g2
                            have hgc := hgo5.cell g2
                            simp only [g3, g4] at hdc hgc
                            have hdue := fun q => due_any pn x.now (w5.drewN q) (hbx5.drewN q)
                            simp only [g5] at hdue
                            clear g1 g3 g4 g5 hc3 hcl hpall
                            go_wp2
                            go_quiet ((go_at_call 14; exact quiet_due (hdue _)))
                            go_wp2
                            go_roundw
                            case rel => exact ⟨i + 1, by go_num, by omega, _, rfl⟩
                            case measure => simp [intOf]; omega
                          · clear hcl
                            go_wp2
                            go_roundw
                            case rel => exact ⟨k + 1, X4, gone, by go_num, by omega, HINV.out, (hbx5.drewN q).more (by omega), hgo5, below_of_chg hbel5 ((Chg.refl [] w5).drewN q) (by simp)⟩
                            case measure => simp [intOf]; omega
          · obtain rfl : k = l.length := by omega
            have hdm := due_w me 0 false wr hbx (due_me hinv 0)
            clear hbx hinv hgo
            go_wp2_with (go_at_call 14; refine hdm.mono ?_; rintro e w3 ⟨rfl, _, hc3⟩)
            go_ret
            exact ⟨rfl, below_of_chg hbel hc3 (by simp)⟩
      · have hnew := fun w => new_no me peers bud w (by simpa using hok)
        clear hok he hel ha hwf
        go_enter Try.func6, Try.ntmps6
        go_wp2_with (first | (go_at_call 7; refine (hs _).mono ?_; rintro e w1 ⟨rfl, hb1⟩) | (go_at_call 8; refine (HF.out _ hb1).mono ?_; rintro e w' ⟨rfl, rfl⟩) | (go_at_call 9; refine (hnew _).mono ?_; rintro e w' ⟨rfl, rfl⟩))
        go_ret
        exact ⟨rfl, hb1⟩
end Go.Proofs.Ytipklnakihinkaa
