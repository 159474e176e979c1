/- The walks of Due, Sent, Give, Ack, pause. -/
import Derived.Test.YtipklnakihinkaaBox
import Derived.StillTailTactics
namespace Go.Proofs.Ytipklnakihinkaa
open Go.ChangeShapes Go.WideShapes Go.ChangeAt Go.RowKit
set_option linter.unusedVariables false

theorem due_any {bB bP bM n : Nat} {X : BoxM} (i now : Int) (w : World) (h : BoxAt w bB bP bM n X) :
    Calls Try.prog 14 #[.pointer (some ⟨bB, 0, none⟩), .int .i64 i, .int .i64 now] w fun e w' => e = .returned (.bool (X.dueB i now)) ∧ ∃ k, w' = w.drewN k := by
  have hp := fun k => peer_any i (w.drewN k) (h.drewN k)
  have h2 := h.c2
  unfold BoxM.dueB
  cases hs : X.peerB i
  · rw [hs] at hp
    clear hs h
    go_enter Try.func14, Try.ntmps14
    go_wp2_with fail
    go_quiet ((go_at_call 21; exact (hp _).mono fun e w' ⟨he, hw⟩ => ⟨he, _, hw.symm⟩))
    go_wp2
    go_ret
    exact ⟨rfl, _, rfl⟩
  · rw [hs] at hp
    have hs' : 0 ≤ i ∧ i < X.l.length := by
      unfold BoxM.peerB at hs
      simp only [Bool.and_eq_true] at hs
      simpa [srvB] using hs.1
    obtain ⟨j, rfl⟩ : ∃ j : Nat, i = j := ⟨i.toNat, by omega⟩
    have hj : j < X.l.length := by omega
    obtain ⟨hd, _, _⟩ := h.p hj
    simp only [Int.toNat_natCast]
    clear hs h hs'
    go_enter Try.func14, Try.ntmps14
    go_wp2_with fail
    go_quiet (first | (go_at_call 21; exact (hp _).mono fun e w' ⟨he, hw⟩ => ⟨he, _, hw.symm⟩) | (go_at_call 18; exact (clampt_any _ _).mono fun e w' ⟨he, hw⟩ => ⟨he, _, hw.symm⟩))
    go_wp2
    go_ret
    exact ⟨rfl, _, rfl⟩
theorem sent_any {bB bP bM n : Nat} {X : BoxM} (i log : Int) (w : World) (h : BoxAt w bB bP bM n X) (hi : wf64 i) (hl : wf64 log) :
    Calls Try.prog 10 #[.pointer (some ⟨bB, 0, none⟩), .int .i64 i, .int .i64 log] w fun e w' => e = .returned (.int .i64 (X.m i log)) ∧ w = w' := by
  have h3 := h.c3
  obtain ⟨hlook, _⟩ := h.sizes.look hi hl
  clear h hi hl
  go_enter Try.func10, Try.ntmps10
  go_wp2
  go_ret
  exact ⟨rfl, rfl⟩

theorem BoxAt.apart {w : World} {bB bP bM n : Nat} {X : BoxM} (h : BoxAt w bB bP bM n X) : bB ≠ bP ∧ bB ≠ bM ∧ bP ≠ bM := by
  obtain ⟨D, ⟨es, clock, hm, _⟩, _⟩ := h.sizes
  refine ⟨?_, ?_, ?_⟩
  · rintro rfl
    have := h.box.symm.trans h.peers
    simp at this
  · rintro rfl
    have := h.box.symm.trans hm
    simp at this
  · rintro rfl
    have := h.peers.symm.trans hm
    simp at this
theorem set_some {l : List Peer} {j : Nat} {p q : Peer} (h : l[j]? = some p) : (l.set j q)[j]? = some q := by
  have := (List.getElem?_eq_some_iff.1 h).1
  simp [this]
/-- a store of the time and of the count behind the map's store -/
theorem BoxAt.stored {w w1 : World} {bB bP bM n n' : Nat} {X : BoxM} (h : BoxAt w bB bP bM n X) {j : Nat} (hj : j < X.l.length) (due waiting : Int) {m : Int → Int → Int}
    (hm : MapAt w1 bM n' m) (hpos : ∀ i l, 0 ≤ m i l) (hc : Chg [bM] w w1) :
    BoxAt ((w1.setCell ⟨bP, j * 3 + 1, none⟩ (.int .i64 waiting)).setCell ⟨bP, j * 3, none⟩ (.int .i64 due)) bB bP bM n'
      { me := X.me, budget := X.budget, m := m, l := X.l.set j { due := due, waiting := waiting, gone := (X.at_ j).gone } } ∧
    Chg [bP, bM] w ((w1.setCell ⟨bP, j * 3 + 1, none⟩ (.int .i64 waiting)).setCell ⟨bP, j * 3, none⟩ (.int .i64 due)) := by
  obtain ⟨n1, n2, n3⟩ := h.apart
  have hb1 := hc.heap_some (by simpa using n2) h.box
  have hp1 := hc.heap_some (by simpa using n3) h.peers
  have hp2 := set_row (set_row hp1 (j * 3 + 1) (.int .i64 waiting)) (j * 3) (.int .i64 due)
  have hg := BoxM.get hj
  have e : ((flat X.l).toArray.setIfInBounds (j * 3 + 1) (.int .i64 waiting)).setIfInBounds (j * 3) (.int .i64 due) =
      (flat (X.l.set j { due := due, waiting := waiting, gone := (X.at_ j).gone })).toArray := by
    rw [List.setIfInBounds_toArray, List.setIfInBounds_toArray, flat_set1 _ _ _ _ hg, flat_set0 _ _ _ _ (set_some hg), List.set_set]
  rw [e] at hp2
  have hl : (X.l.set j { due := due, waiting := waiting, gone := (X.at_ j).gone }).length = X.l.length := by simp
  have hc2 : Chg [bP, bM] w ((w1.setCell ⟨bP, j * 3 + 1, none⟩ (.int .i64 waiting)).setCell ⟨bP, j * 3, none⟩ (.int .i64 due)) :=
    ((hc.mono (S' := [bP, bM]) (by simp +contextual)).setCell (by simp) _).setCell (by simp) _
  refine ⟨⟨?_, hp2, ?_, ?_, hpos⟩, hc2⟩
  · have := set_row_other (set_row_other hb1 (p := ⟨bP, j * 3 + 1, none⟩) n1 (.int .i64 waiting)) (p := ⟨bP, j * 3, none⟩) n1 (.int .i64 due)
    simpa [boxCells] using this
  · exact hm.keep (((Chg.refl [bP] w1).setCell (by simp) _).setCell (by simp) _) (by simpa using n3.symm)
  · simpa using h.few
theorem upd_pos {m : Int → Int → Int} (h : ∀ i l, 0 ≤ m i l) {i l s : Int} (hs : 0 ≤ s) : ∀ a b, 0 ≤ upd m i l s a b := by
  intro a b; unfold upd; split
  · exact hs
  · exact h a b

theorem ack_no {bB bP bM n : Nat} {X : BoxM} (i log size now : Int) (w : World) (h : BoxAt w bB bP bM n X) (hi : wf64 i) (hl : wf64 log) (hno : X.ackB i log size = false) :
    Calls Try.prog 13 #[.pointer (some ⟨bB, 0, none⟩), .int .i64 i, .int .i64 log, .int .i64 size, .int .i64 now] w fun e w' => e = .returned (.bool false) ∧ w = w' := by
  have hp := peer_any i w h
  have h2 := h.c2
  have h3 := h.c3
  have hsrv := server_any bB _ _ _ log w h2
  obtain ⟨hlook, _⟩ := h.sizes.look hi hl
  unfold BoxM.ackB at hno
  cases hs : X.peerB i
  · rw [hs] at hp
    clear hs h hno hlook hsrv hi hl
    go_enter Try.func13, Try.ntmps13
    go_wp2_with (go_at_call 21; refine hp.mono ?_; rintro e w' ⟨rfl, rfl⟩)
    go_ret
    exact ⟨rfl, rfl⟩
  · rw [hs] at hp hno
    cases hs2 : srvB log X.l.length
    · rw [hs2] at hsrv
      clear hs hs2 h hno hlook hi hl
      go_enter Try.func13, Try.ntmps13
      go_wp2_with (first | (go_at_call 21; refine hp.mono ?_; rintro e w' ⟨rfl, rfl⟩) | (go_at_call 22; refine hsrv.mono ?_; rintro e w' ⟨rfl, rfl⟩))
      go_ret
      exact ⟨rfl, rfl⟩
    · rw [hs2] at hsrv hno
      by_cases e : log = i
      · subst e
        clear hs hs2 h hno hlook hi hl
        go_enter Try.func13, Try.ntmps13
        go_wp2_with (first | (go_at_call 21; refine hp.mono ?_; rintro e w' ⟨rfl, rfl⟩) | (go_at_call 22; refine hsrv.mono ?_; rintro e w' ⟨rfl, rfl⟩))
        go_ret
        exact ⟨rfl, rfl⟩
      · have e2 : (log == i) = false := by simpa using e
        have hle : size ≤ X.m i log := by simp [e] at hno; omega
        clear hs hs2 h hno hi hl e
        go_enter Try.func13, Try.ntmps13
        go_wp2_with (first | (go_at_call 21; refine hp.mono ?_; rintro e w' ⟨rfl, rfl⟩) | (go_at_call 22; refine hsrv.mono ?_; rintro e w' ⟨rfl, rfl⟩))
        go_ret
        exact ⟨rfl, rfl⟩
end Go.Proofs.Ytipklnakihinkaa
