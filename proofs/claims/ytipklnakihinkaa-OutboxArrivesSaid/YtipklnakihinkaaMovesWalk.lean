/- OutboxMoves: the walk. -/
import Derived.Test.YtipklnakihinkaaBox7
import Derived.Test.YtipklnakihinkaaMovesModel
namespace Go.Proofs.Ytipklnakihinkaa
open Go.ChangeShapes Go.WideShapes Go.ChangeAt Go.RowKit
set_option linter.unusedVariables false

/-- acts lie at an address -/
def ActsAt (w : World) (a : Option Addr) (l : List Act) : Prop :=
  0 < l.length → ∃ b o, a = some ⟨b, o, none⟩ ∧ ∀ i x, l[i]? = some x →
    w.cell? ⟨b, o + i * 5, none⟩ = some (.int .i64 x.kind) ∧ w.cell? ⟨b, o + i * 5 + 1, none⟩ = some (.int .i64 x.peer) ∧ w.cell? ⟨b, o + i * 5 + 2, none⟩ = some (.int .i64 x.log) ∧
    w.cell? ⟨b, o + i * 5 + 3, none⟩ = some (.int .i64 x.n) ∧ w.cell? ⟨b, o + i * 5 + 4, none⟩ = some (.int .i64 x.now)
theorem ActsAt.keep {w w' : World} {a : Option Addr} {l : List Act} (h : ActsAt w a l) (hc : Chg [] w w') : ActsAt w' a l := by
  intro hl
  obtain ⟨b, o, rfl, hx⟩ := h hl
  exact ⟨b, o, rfl, fun i s hs => by
    obtain ⟨r0, r1, r2, r3, r4⟩ := hx i s hs
    exact ⟨hc.cell_lt r0, hc.cell_lt r1, hc.cell_lt r2, hc.cell_lt r3, hc.cell_lt r4⟩⟩
def Act.wf (x : Act) : Prop := wf64 x.kind ∧ wf64 x.peer ∧ wf64 x.log ∧ wf64 x.n ∧ wf64 x.now
def LawPost (w : World) (e : Ending) (w' : World) : Prop := e = .returned (.bool true) ∧ Below w.heap.size w w'

def NewEx (w : World) (X : BoxM) (e : Ending) (w' : World) : Prop :=
  ∃ bB bP bM, e = .returned (.pointer (some ⟨bB, 0, none⟩)) ∧ BoxAt w' bB bP bM 0 X ∧ Below w.heap.size w w' ∧ w.heap.size ≤ bB ∧ w.heap.size ≤ bP ∧ w.heap.size ≤ bM
theorem new_ex (me : Int) (p : Nat) (budget : Int) (w : World) (h1 : 1 ≤ p) (h2 : p ≤ 20) (h3 : 0 ≤ me) (h4 : me < p) :
    Calls Try.prog 9 #[.int .i64 me, .int .i64 p, .int .i64 budget] w (NewEx w (newBox me p budget)) :=
  (new_yes me p budget w h1 h2 h3 h4).mono fun e w' ⟨he, hb, hB⟩ => ⟨_, _, _, he, hb, hB, by omega, by omega, by omega⟩
set_option maxRecDepth 100000 in
set_option maxHeartbeats 1000000 in
theorem moves_any (me peers : Int) (l : List Act) (A : Option Addr) (C : Nat) (w : World) (ha : ActsAt w A l) (hwf : ∀ x, x ∈ l → x.wf) (hlen : l.length ≤ 9223372036854775807) :
    Calls Try.prog 5 #[.int .i64 me, .int .i64 peers, .slice A l.length C] w (LawPost w) := by
  have hs := small_any
  by_cases hok : newOk me peers = true
  · have h4 : 1 ≤ peers ∧ peers ≤ 20 ∧ 0 ≤ me ∧ me < peers := by simpa [newOk] using hok
    obtain ⟨N, rfl⟩ : ∃ N : Nat, peers = N := ⟨peers.toNat, by omega⟩
    have hnew : ∀ w, Calls Try.prog 9 #[.int .i64 me, .int .i64 N, .int .i64 0] w (NewEx w (newBox me N 0)) := fun w => new_ex me N 0 w (by omega) (by omega) (by omega) (by omega)
    obtain ⟨hN1, hN2, hme1, hme2⟩ := h4
    clear hok
    by_cases h60 : 60 < l.length
    · go_enter Try.func5, Try.ntmps5
      go_wp2_with (first | (go_at_call 7; refine (hs _).mono ?_; rintro e w1 ⟨rfl, hb1⟩) | (go_at_call 9; refine (hnew _).mono ?_; rintro e w2 ⟨bB, bP, bM, rfl, hbox, hb2, n1, n2, n3⟩))
      go_ret
      exact ⟨rfl, hb1.trans (hb2.mono hb1.size)⟩
    · go_enter Try.func5, Try.ntmps5
      go_wp2_with (first | (go_at_call 7; refine (hs _).mono ?_; rintro e w1 ⟨rfl, hb1⟩) | (go_at_call 9; refine (hnew _).mono ?_; rintro e w2 ⟨bB, bP, bM, rfl, hbox, hb2, n1, n2, n3⟩))
      have hB2 : Below w.heap.size w w2 := hb1.trans (hb2.mono hb1.size)
      have hm1 := hb1.size
      have m1 : w.heap.size ≤ bB := by omega
      have m2 : w.heap.size ≤ bP := by omega
      have m3 : w.heap.size ≤ bM := by omega
      clear hb1 hb2 n1 n2 n3 hm1 hs hnew
      go_loopw [9] (fun i wr => ∃ (k : Nat) (X : BoxM), i = .int .i64 k ∧ k ≤ l.length ∧ BoxAt wr bB bP bM k X ∧ MovesInv me N (l.take k) X ∧ Below w.heap.size w wr) (fun i _ => l.length - (intOf i).toNat)
      case atStart => exact ⟨0, _, rfl, by omega, hbox, MovesInv.new me N _, hB2⟩
      case round =>
        obtain ⟨k, X, rfl, hk, hbx, hinv, hbel⟩ := hrel
        clear hbox hB2
        by_cases hlt : k < l.length
        · obtain ⟨ab, ao, rfl, hax⟩ := (ha.keep (Chg.of_below hbel [])) (by omega)
          obtain ⟨x, hx⟩ : ∃ x, x = l[k] := ⟨_, rfl⟩
          obtain ⟨a0, a1, a2, a3, a4⟩ := hax k x (by rw [hx]; exact List.getElem?_eq_getElem hlt)
          have hxw : x.wf := hwf x (by rw [hx]; exact List.getElem_mem hlt)
          unfold Act.wf wf64 at hxw
          obtain ⟨⟨_, _⟩, ⟨p1, p2⟩, ⟨g1, g2⟩, ⟨z1, z2⟩, ⟨t1, t2⟩⟩ := hxw
          have HX := Lib.hid hx
          have HAX := Lib.hid hax
          clear hax hx
          go_wp2
          obtain ⟨W, hW⟩ : ∃ W, W = wr.alloc (.cells #[.int .i64 x.kind, .int .i64 x.peer, .int .i64 x.log, .int .i64 x.n, .int .i64 x.now] 41) := ⟨_, rfl⟩
          have hWx : ∀ i, W.cell? ⟨wr.heap.size, i, none⟩ = #[Value.int .i64 x.kind, .int .i64 x.peer, .int .i64 x.log, .int .i64 x.n, .int .i64 x.now][i]? := fun i => by rw [hW]; exact cell_new1 wr _ 41 i
          have hWc : Chg [] wr W := by rw [hW]; exact (Chg.refl [] wr).alloc _
          have e1 : W.cell? ⟨wr.heap.size, 1, none⟩ = some (.int .i64 x.peer) := hWx 1
          have e2 : W.cell? ⟨wr.heap.size, 2, none⟩ = some (.int .i64 x.log) := hWx 2
          have e3 : W.cell? ⟨wr.heap.size, 3, none⟩ = some (.int .i64 x.n) := hWx 3
          have e4 : W.cell? ⟨wr.heap.size, 4, none⟩ = some (.int .i64 x.now) := hWx 4
          rw [← hW]
          clear hW hWx
          have hbelW := hbel.trans ((hWc.below).mono hbel.size)
          have hbxW := hbx.keep hWc (by simp) (by simp) (by simp)
          have HWC := Lib.hid hWc
          have hBP : bP < wr.heap.size := lt_of_heap hbx.peers
          have hBM : bM < wr.heap.size := hbx.sizes.lt
          clear hbel hbx hWc a0 a1 a2 a3 a4
          generalize wr.heap.size = B at *
          go_loopw [11, 12] (fun b i wi => ∃ j : Nat, i = .int .i64 j ∧ j ≤ k ∧ b = .int .i64 (best (l.take j) x.peer x.log) ∧ ∃ q, wi = W.drewN q) (fun _ i _ => k - (intOf i).toNat)
          case atStart => exact ⟨0, rfl, by omega, rfl, 0, rfl⟩
          case round =>
            obtain ⟨j, rfl, hj, rfl, q, rfl⟩ := hrel
            by_cases hjk : j < k
            · obtain ⟨y, hy⟩ : ∃ y, y = l[j] := ⟨_, rfl⟩
              obtain ⟨_, y1, y2, y3, _⟩ := HAX.out j y (by rw [hy]; exact List.getElem?_eq_getElem (by omega))
              have y1 := HWC.out.cell_lt y1
              have y2 := HWC.out.cell_lt y2
              have y3 := HWC.out.cell_lt y3
              have hbt := best_take l j (by omega) x.peer x.log
              rw [← hy] at hbt
              have HBT := Lib.hid hbt
              clear hbt hy
              by_cases t1 : y.peer = x.peer
              · by_cases t2 : y.log = x.log
                · have u1 : (y.peer == x.peer) = true := by simp [t1]
                  have u2 : (y.log == x.log) = true := by simp [t2]
                  have HB2 := Lib.hid (HBT.out.trans (if_pos (And.intro t1 t2)))
                  clear t1 t2
                  go_wp2
                  go_quiet (fail)
                  go_wp2
                  go_roundw
                  case rel => exact ⟨j + 1, by go_num, by omega, by rw [HB2.out]; congr 1; split <;> omega, _, rfl⟩
                  case measure => simp [intOf]; omega
                · have u1 : (y.peer == x.peer) = true := by simp [t1]
                  have u2 : (y.log == x.log) = false := by simp [t2]
                  have HB2 := Lib.hid (HBT.out.trans (if_neg (fun h => t2 h.2)))
                  clear t1 t2
                  go_wp2
                  go_quiet (fail)
                  go_wp2
                  go_roundw
                  case rel => exact ⟨j + 1, by go_num, by omega, by rw [HB2.out], _, rfl⟩
                  case measure => simp [intOf]; omega
              · have u1 : (y.peer == x.peer) = false := by simp [t1]
                have HB2 := Lib.hid (HBT.out.trans (if_neg (fun h => t1 h.1)))
                clear t1
                go_wp2
                go_quiet (fail)
                go_wp2
                go_roundw
                case rel => exact ⟨j + 1, by go_num, by omega, by rw [HB2.out], _, rfl⟩
                case measure => simp [intOf]; omega
            · obtain rfl : j = k := by omega
              have hmm := hinv.m x.peer x.log
              have hack := hinv.ackB x.peer x.log x.n
              have hnext : Hid (MovesInv me N (l.take (j + 1)) (X.ack x.peer x.log x.n x.now)) := by
                have := hinv.step x
                rw [HX.out, ← List.take_succ_eq_append_getElem hlt, ← HX.out] at this
                exact this
              clear hinv
              have hBelN : ∀ w9, Chg [bP, bM] (W.drewN q) w9 → Below w.heap.size w w9 := by
                intro w9 hc
                refine hbelW.trans ?_
                exact ⟨hc.os, hc.tape, hc.output, hc.size, fun i hi => hc.block i (Nat.lt_of_lt_of_le hi hbelW.size) (by simp; omega)⟩
              by_cases ho : okB me N x.peer x.log = true
              · rw [if_pos ho] at hmm
                rw [ho] at hack
                have hsent := sent_w x.peer x.log _ (W.drewN q) (hbxW.drewN q) ⟨p1, p2⟩ ⟨g1, g2⟩ hmm
                have ho2 : 0 ≤ x.peer ∧ x.peer < N ∧ x.peer ≠ me ∧ 0 ≤ x.log ∧ x.log < N ∧ x.log ≠ x.peer := by simpa [okB] using ho
                obtain ⟨o1, o2, o3, o4, o5, o6⟩ := ho2
                have o3 : (x.peer != me) = true := by simpa using o3
                have o6 : (x.log != x.peer) = true := by simpa using o6
                rw [hmm] at hack
                generalize best (l.take j) x.peer x.log = bst at *
                have HM := Lib.hid hmm
                clear ho hmm
                by_cases hlt2 : bst < x.n
                · have hack2 := ack_w x.peer x.log x.n x.now true (W.drewN q) (hbxW.drewN q) (by unfold maxLen; omega) ⟨p1, p2⟩ ⟨g1, g2⟩ ⟨z1, z2⟩ (by rw [hack]; simp [hlt2])
                  clear hack
                  go_wp2_with (first | (go_at_call 10; refine hsent.mono ?_; rintro e w' ⟨rfl, rfl⟩) | (go_at_call 13; refine hack2.mono ?_; rintro e w9 ⟨rfl, hbx9, hc9⟩; have e39 := hc9.cell_some (by simp; omega) (show (W.drewN q).cell? ⟨B, 3, none⟩ = _ from e3)))
                  go_roundw
                  case rel => exact ⟨j + 1, _, by go_num, by omega, hbx9, hnext.out, hBelN _ hc9⟩
                  case measure => simp [intOf]; omega
                · have hack2 := ack_w x.peer x.log x.n x.now false (W.drewN q) (hbxW.drewN q) (by unfold maxLen; omega) ⟨p1, p2⟩ ⟨g1, g2⟩ ⟨z1, z2⟩ (by rw [hack]; simp [hlt2])
                  clear hack
                  go_wp2_with (first | (go_at_call 10; refine hsent.mono ?_; rintro e w' ⟨rfl, rfl⟩) | (go_at_call 13; refine hack2.mono ?_; rintro e w9 ⟨rfl, hbx9, hc9⟩; have e39 := hc9.cell_some (by simp; omega) (show (W.drewN q).cell? ⟨B, 3, none⟩ = _ from e3)))
                  go_roundw
                  case rel => exact ⟨j + 1, _, by go_num, by omega, hbx9, hnext.out, hBelN _ hc9⟩
                  case measure => simp [intOf]; omega
              · rw [if_neg ho] at hmm
                have ho' : okB me N x.peer x.log = false := by simpa using ho
                rw [ho'] at hack
                have hsent := sent_w x.peer x.log _ (W.drewN q) (hbxW.drewN q) ⟨p1, p2⟩ ⟨g1, g2⟩ hmm
                have hack2 := ack_w x.peer x.log x.n x.now false (W.drewN q) (hbxW.drewN q) (by unfold maxLen; omega) ⟨p1, p2⟩ ⟨g1, g2⟩ ⟨z1, z2⟩ (by rw [hack]; rfl)
                have ho2 : x.peer < 0 ∨ (0 ≤ x.peer ∧ (N : Int) ≤ x.peer) ∨ (0 ≤ x.peer ∧ x.peer < N ∧ (x.peer != me) = false) ∨ (0 ≤ x.peer ∧ x.peer < N ∧ (x.peer != me) = true ∧ x.log < 0) ∨
                    (0 ≤ x.peer ∧ x.peer < N ∧ (x.peer != me) = true ∧ 0 ≤ x.log ∧ (N : Int) ≤ x.log) ∨ (0 ≤ x.peer ∧ x.peer < N ∧ (x.peer != me) = true ∧ 0 ≤ x.log ∧ x.log < N ∧ (x.log != x.peer) = false) := by
                  simp [okB] at ho'
                  simp only [bne_iff_ne, ne_eq, bne_eq_false_iff_eq]
                  omega
                clear ho ho' hmm hack
                rcases ho2 with o1 | ⟨o1, o2⟩ | ⟨o1, o2, o3⟩ | ⟨o1, o2, o3, o4⟩ | ⟨o1, o2, o3, o4, o5⟩ | ⟨o1, o2, o3, o4, o5, o6⟩
                all_goals
                  go_wp2_with (first | (go_at_call 10; refine hsent.mono ?_; rintro e w' ⟨rfl, rfl⟩) | (go_at_call 13; refine hack2.mono ?_; rintro e w9 ⟨rfl, hbx9, hc9⟩; have e39 := hc9.cell_some (by simp; omega) (show (W.drewN q).cell? ⟨B, 3, none⟩ = _ from e3)))
                  go_roundw
                  case rel => exact ⟨j + 1, _, by go_num, by omega, hbx9, hnext.out, hBelN _ hc9⟩
                  case measure => simp [intOf]; omega
        · obtain rfl : k = l.length := by omega
          clear hbx hinv
          go_wp2
          go_ret
          exact ⟨rfl, hbel⟩
  · have hnew := fun w => new_no me peers 0 w (by simpa using hok)
    clear hok
    go_enter Try.func5, Try.ntmps5
    go_wp2_with (first | (go_at_call 7; refine (hs _).mono ?_; rintro e w1 ⟨rfl, hb1⟩) | (go_at_call 9; refine (hnew _).mono ?_; rintro e w' ⟨rfl, rfl⟩))
    go_ret
    exact ⟨rfl, hb1⟩
end Go.Proofs.Ytipklnakihinkaa
