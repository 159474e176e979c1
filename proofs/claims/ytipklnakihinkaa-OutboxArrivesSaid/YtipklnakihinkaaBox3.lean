/- The walks of Ack (where it takes), Give, pause. -/
import Derived.Test.YtipklnakihinkaaBox2
import Derived.LoopTactic
namespace Go.Proofs.Ytipklnakihinkaa
open Go.ChangeShapes Go.WideShapes Go.ChangeAt Go.RowKit
set_option linter.unusedVariables false

theorem ack_yes {bB bP bM n : Nat} {X : BoxM} (i log size now : Int) (w : World) (h : BoxAt w bB bP bM n X) (hn : n < maxLen) (hi : wf64 i) (hl : wf64 log) (hz : wf64 size) (hyes : X.ackB i log size = true) :
    Calls Try.prog 13 #[.pointer (some ⟨bB, 0, none⟩), .int .i64 i, .int .i64 log, .int .i64 size, .int .i64 now] w fun e w' => e = .returned (.bool true) ∧
      BoxAt w' bB bP bM (n + 1) (X.acked i log size now) ∧ Chg [bP, bM] w w' := by
  have hp := peer_any i w h
  have h2 := h.c2
  have h3 := h.c3
  have hsrv := server_any bB _ _ _ log w h2
  obtain ⟨hlook, hwm⟩ := h.sizes.look hi hl
  obtain ⟨w1, hrun, hm1, hc1⟩ := h.sizes.upd hn hi hl hz
  unfold BoxM.ackB at hyes
  simp only [Bool.and_eq_true, decide_eq_true_eq] at hyes
  obtain ⟨hs, hs2, hne, hlt⟩ := hyes
  rw [hs] at hp
  rw [hs2] at hsrv
  have hs' : 0 ≤ i ∧ i < X.l.length := by
    unfold BoxM.peerB at hs
    simp only [Bool.and_eq_true] at hs
    simpa [srvB] using hs.1
  obtain ⟨j, rfl⟩ : ∃ j : Nat, i = j := ⟨i.toNat, by omega⟩
  have hj : j < X.l.length := by omega
  have e2 : (log == (j : Int)) = false := by simpa using hne
  have hfin := h.stored hj (clampT now) 0 hm1 (upd_pos h.pos (by have := h.pos j log; omega)) hc1
  obtain ⟨n1, n2, n3⟩ := h.apart
  have hb1 := hc1.heap_some (by simpa using n2) h.box
  have hp1 := hc1.heap_some (by simpa using n3) h.peers
  have d2 : w1.cell? ⟨bB, 2, none⟩ = some (.slice (some ⟨bP, 0, none⟩) X.l.length X.l.length) := cell_row hb1 2
  obtain ⟨c0, c1, _⟩ := flat_get X.l j _ (BoxM.get hj)
  have d10 : w1.cell? ⟨bP, j * 3, none⟩ = some (.int .i64 (X.at_ j).due) := by rw [cell_row hp1, List.getElem?_toArray]; exact c0
  have d11 : w1.cell? ⟨bP, j * 3 + 1, none⟩ = some (.int .i64 (X.at_ j).waiting) := by rw [cell_row hp1, List.getElem?_toArray]; exact c1
  have f10 := frozen_row hp1 (j * 3)
  have f11 := frozen_row hp1 (j * 3 + 1)
  have hb2 : (w1.setCell ⟨bP, j * 3 + 1, none⟩ (.int .i64 0)).cell? ⟨bB, 2, none⟩ = some (.slice (some ⟨bP, 0, none⟩) X.l.length X.l.length) := cell_row (set_row_other hb1 (p := ⟨bP, j * 3 + 1, none⟩) n1 (.int .i64 0)) 2
  have H : Hid (BoxAt _ bB bP bM (n + 1) (X.acked j log size now) ∧ Chg [bP, bM] w _) := hfin
  clear hfin hs hs2 hs' hne hi hl hz hwm hm1 hc1 hb1 hp1 h hn c0 c1
  go_enter Try.func13, Try.ntmps13
  go_wp2_with (first | (go_at_call 21; refine hp.mono ?_; rintro e w' ⟨rfl, rfl⟩) | (go_at_call 22; refine hsrv.mono ?_; rintro e w' ⟨rfl, rfl⟩))
  go_region_with (go_at_call 18; refine (clampt_any _ _).mono ?_; rintro e w' ⟨rfl, rfl⟩)
  all_goals go_wp2
  all_goals go_ret
  all_goals exact ⟨rfl, H.out.1.drewN 1, H.out.2.drewN 1⟩
theorem MapAt.more {w : World} {b n n' : Nat} {f : Int → Int → Int} (h : MapAt w b n f) (hn : n ≤ n') : MapAt w b n' f := by
  obtain ⟨D, ho, q⟩ := h
  exact ⟨D, ho.mono hn, q⟩
theorem ack_any {bB bP bM n : Nat} {X : BoxM} (i log size now : Int) (w : World) (h : BoxAt w bB bP bM n X) (hn : n < maxLen) (hi : wf64 i) (hl : wf64 log) (hz : wf64 size) :
    Calls Try.prog 13 #[.pointer (some ⟨bB, 0, none⟩), .int .i64 i, .int .i64 log, .int .i64 size, .int .i64 now] w fun e w' => e = .returned (.bool (X.ackB i log size)) ∧
      BoxAt w' bB bP bM (n + 1) (X.ack i log size now) ∧ Chg [bP, bM] w w' := by
  unfold BoxM.ack
  cases hb : X.ackB i log size
  · refine (ack_no i log size now w h hi hl hb).mono ?_
    rintro e w' ⟨rfl, rfl⟩
    exact ⟨rfl, ⟨h.box, h.peers, h.sizes.more (by omega), h.few, h.pos⟩, Chg.refl _ _⟩
  · exact ack_yes i log size now w h hn hi hl hz hb

theorem give_any {bB bP bM n : Nat} {X : BoxM} (i : Int) (w : World) (h : BoxAt w bB bP bM n X) :
    Calls Try.prog 15 #[.pointer (some ⟨bB, 0, none⟩), .int .i64 i] w fun e w' => (∃ v, e = .returned v) ∧ BoxAt w' bB bP bM n (X.give i) ∧ Chg [bP] w w' := by
  have hp := peer_any i w h
  unfold BoxM.give
  cases hs : X.peerB i
  · rw [hs] at hp
    have H : Hid (BoxAt w bB bP bM n X) := h
    clear h hs
    go_enter Try.func15, Try.ntmps15
    go_wp2_with (go_at_call 21; refine hp.mono ?_; rintro e w' ⟨rfl, rfl⟩)
    go_end0
    exact ⟨⟨_, rfl⟩, H.out, Chg.refl _ _⟩
  · rw [hs] at hp
    have h2 := h.c2
    have hs' : 0 ≤ i ∧ i < X.l.length := by
      unfold BoxM.peerB at hs
      simp only [Bool.and_eq_true] at hs
      simpa [srvB] using hs.1
    obtain ⟨j, rfl⟩ : ∃ j : Nat, i = j := ⟨i.toNat, by omega⟩
    have hj : j < X.l.length := by omega
    obtain ⟨_, _, hc⟩ := h.p hj
    have hf := h.fz (j * 3 + 2)
    obtain ⟨n1, n2, n3⟩ := h.apart
    have H : Hid (BoxAt (w.setCell ⟨bP, j * 3 + 2, none⟩ (.bool true)) bB bP bM n { X with l := X.l.set j { due := (X.at_ j).due, waiting := (X.at_ j).waiting, gone := true } }) := by
      have hp2 := set_row h.peers (j * 3 + 2) (.bool true)
      rw [List.setIfInBounds_toArray, flat_set2 _ _ _ _ (BoxM.get hj)] at hp2
      refine ⟨?_, hp2, h.sizes.keep ((Chg.refl [bP] w).setCell (by simp) _) (by simpa using n3.symm), by simpa using h.few, h.pos⟩
      have := set_row_other h.box (p := ⟨bP, j * 3 + 2, none⟩) n1 (.bool true)
      simpa [boxCells] using this
    clear h hs hs'
    go_enter Try.func15, Try.ntmps15
    go_wp2_with (go_at_call 21; refine hp.mono ?_; rintro e w' ⟨rfl, rfl⟩)
    go_end0
    exact ⟨⟨_, rfl⟩, H.out, (Chg.refl [bP] w).setCell (by simp) _⟩

theorem pause_any (k : Int) (w : World) (hk : wf64 k) :
    Calls Try.prog 20 #[.int .i64 k] w fun e w' => e = .returned (.int .i64 (pauseI k)) ∧ w = w' := by
  unfold wf64 at hk
  have e1 : pauseI k = if k ≤ 1 then 1 else if k = 2 then 2 else if k = 3 then 4 else if k = 4 then 8 else 16 := rfl
  have E : Hid (∀ i r : Int, ((i = 1 ∧ r = 1) ∨ (i = 2 ∧ r = 2 ∧ 2 ≤ k) ∨ (i = 3 ∧ r = 4 ∧ 3 ≤ k) ∨ (i = 4 ∧ r = 8 ∧ 4 ≤ k) ∨ (i = 5 ∧ r = 16 ∧ 5 ≤ k)) → ¬ (i < k ∧ r < 16) → pauseI k = r ∧ r ≤ 16) := by
    intro i r h hn
    rw [e1]
    constructor
    · (repeat' split) <;> omega
    · omega
  clear e1
  go_enter Try.func20, Try.ntmps20
  go_wp2
  go_loop [3, 4] (fun r i => ∃ a b : Int, i = .int .i64 a ∧ r = .int .i64 b ∧ ((a = 1 ∧ b = 1) ∨ (a = 2 ∧ b = 2 ∧ 2 ≤ k) ∨ (a = 3 ∧ b = 4 ∧ 3 ≤ k) ∨ (a = 4 ∧ b = 8 ∧ 4 ≤ k) ∨ (a = 5 ∧ b = 16 ∧ 5 ≤ k))) (fun _ i => 6 - (intOf i).toNat)
  case atStart => exact ⟨1, 1, rfl, rfl, .inl ⟨rfl, rfl⟩⟩
  case round =>
    obtain ⟨a, b, rfl, rfl, hab⟩ := hrel
    have b1 : 1 ≤ a ∧ a ≤ 5 ∧ 1 ≤ b ∧ b ≤ 16 := by omega
    obtain ⟨b1, b2, b3, b4⟩ := b1
    by_cases h1 : a < k
    · by_cases h2 : b < 16
      · have HN : Hid ((a + 1 = 1 ∧ b * 2 = 1) ∨ (a + 1 = 2 ∧ b * 2 = 2 ∧ 2 ≤ k) ∨ (a + 1 = 3 ∧ b * 2 = 4 ∧ 3 ≤ k) ∨ (a + 1 = 4 ∧ b * 2 = 8 ∧ 4 ≤ k) ∨ (a + 1 = 5 ∧ b * 2 = 16 ∧ 5 ≤ k)) := by
          unfold Hid; omega
        clear hab
        go_wp2
        go_round
        case rel => exact ⟨a + 1, b * 2, rfl, rfl, HN.out⟩
        case measure => simp [intOf]; omega
      · have e := E.out a b hab (by omega)
        obtain ⟨e, e2⟩ := e
        clear hab
        have E2 : Hid (pauseI k = b) := e
        clear e
        go_wp2
        go_ret
        rw [E2.out]
        refine ⟨?_, rfl⟩
        congr 2
    · have e := E.out a b hab (by omega)
      obtain ⟨e, e2⟩ := e
      clear hab
      have E2 : Hid (pauseI k = b) := e
      clear e
      go_wp2
      go_ret
      rw [E2.out]
      refine ⟨?_, rfl⟩
      congr 2
end Go.Proofs.Ytipklnakihinkaa
