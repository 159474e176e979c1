/- New and small, walked. -/
import Derived.Test.YtipklnakihinkaaBox6
import Derived.Laws.MakeOwn
import Derived.Carry
namespace Go.Proofs.Ytipklnakihinkaa
open Go.ChangeShapes Go.WideShapes Go.ChangeAt Go.RowKit
set_option linter.unusedVariables false

def newOk (me peers : Int) : Bool := decide (1 ≤ peers ∧ peers ≤ 20 ∧ 0 ≤ me ∧ me < peers)
def newBox (me : Int) (peers : Nat) (budget : Int) : BoxM := { me := me, budget := max budget 64, l := List.replicate peers ⟨0, 0, false⟩, m := fun _ _ => 0 }
theorem info57 : (Try.prog.info? 57).map (fun i => (i.zero, i.size, i.bytes)) = some (some (.agg #[.int .i64 0, .int .i64 0, .bool false]), 3, 24) := by kernel_rfl
theorem new_no (me peers budget : Int) (w : World) (h : newOk me peers = false) :
    Calls Try.prog 9 #[.int .i64 me, .int .i64 peers, .int .i64 budget] w fun e w' => e = .returned (.pointer none) ∧ w = w' := by
  have hd : peers < 1 ∨ 20 < peers ∨ me < 0 ∨ peers ≤ me := by unfold newOk at h; simp at h; omega
  clear h
  by_cases h1 : peers < 1
  · go_enter Try.func9, Try.ntmps9
    go_wp2
    go_ret
    exact ⟨rfl, rfl⟩
  · by_cases h2 : 20 < peers
    · go_enter Try.func9, Try.ntmps9
      go_wp2
      go_ret
      exact ⟨rfl, rfl⟩
    · by_cases h3 : me < 0
      · go_enter Try.func9, Try.ntmps9
        go_wp2
        go_ret
        exact ⟨rfl, rfl⟩
      · have h4 : peers ≤ me := by omega
        go_enter Try.func9, Try.ntmps9
        go_wp2
        go_ret
        exact ⟨rfl, rfl⟩
theorem made_flat (p : Nat) : madeCells #[.int .i64 0, .int .i64 0, .bool false] (p * 3) = (flat (List.replicate p ⟨0, 0, false⟩)).toArray := by
  apply Array.ext
  · simp [size_madeCells, flat_length]
  · intro j hj1 hj2
    have hj : j < p * 3 := by simpa [size_madeCells] using hj1
    obtain ⟨q, r, hr, rfl⟩ : ∃ q r, r < 3 ∧ j = q * 3 + r := ⟨j / 3, j % 3, Nat.mod_lt _ (by omega), by omega⟩
    have hq : (List.replicate p (⟨0, 0, false⟩ : Peer))[q]? = some ⟨0, 0, false⟩ := by
      rw [List.getElem?_replicate, if_pos (by omega)]
    obtain ⟨g0, g1, g2⟩ := flat_get _ q _ hq
    have hm : (q * 3 + r) % 3 = r := by omega
    rw [← Option.some_inj, ← Array.getElem?_eq_getElem, ← Array.getElem?_eq_getElem]
    have hR : (madeCells #[Value.int .i64 0, .int .i64 0, .bool false] (p * 3))[q * 3 + r]? = some (#[Value.int .i64 0, .int .i64 0, .bool false][r]!) := by
      simp only [madeCells, Array.getElem?_map, Array.getElem?_range]
      rw [if_pos (by omega)]
      show some (#[Value.int .i64 0, .int .i64 0, .bool false][(q * 3 + r) % 3]!) = _
      rw [hm]
    rw [hR, List.getElem?_toArray]
    rcases (by omega : r = 0 ∨ r = 1 ∨ r = 2) with rfl | rfl | rfl
    · rw [Nat.add_zero, g0]; rfl
    · rw [g1]; rfl
    · rw [g2]; rfl
def NewPost (w : World) (X : BoxM) (e : Ending) (w' : World) : Prop :=
  e = .returned (.pointer (some ⟨w.heap.size + 1 + 1, 0, none⟩)) ∧ BoxAt w' (w.heap.size + 1 + 1) w.heap.size (w.heap.size + 1) 0 X ∧ Below w.heap.size w w'
theorem new_world (w : World) (me : Int) (p : Nat) (bud budget : Int) (h2 : p ≤ 20) (hb : bud = max budget 64) :
    NewPost w (newBox me p budget) (.returned (.pointer (some ⟨w.heap.size + 1 + 1, 0, none⟩)))
      (((w.alloc (.cells (flat (List.replicate p ⟨0, 0, false⟩)).toArray 57)).alloc (.map #[] 0)).alloc (.cells #[.int .i64 me, .int .i64 bud, .slice (some ⟨w.heap.size, 0, none⟩) p p, .map (some (w.heap.size + 1))] 50)) := by
  subst hb
  refine ⟨rfl, ⟨?_, ?_, ?_, by simpa [newBox] using h2, fun _ _ => by simp [newBox]⟩, (((Below.refl _ _).alloc (Nat.le_refl _) _).alloc (by simp) _).alloc (by simp; omega) _⟩
  · have := heap_alloc_new ((w.alloc (.cells (flat (List.replicate p ⟨0, 0, false⟩)).toArray 57)).alloc (.map #[] 0)) (.cells #[.int .i64 me, .int .i64 (max budget 64), .slice (some ⟨w.heap.size, 0, none⟩) p p, .map (some (w.heap.size + 1))] 50)
    simpa [boxCells, newBox] using this
  · have h := heap_alloc_new w (.cells (flat (List.replicate p ⟨0, 0, false⟩)).toArray 57)
    rw [Below.heap_alloc _ _ _ (by simp; omega), Below.heap_alloc _ _ _ (by simp)]
    simpa [newBox] using h
  · have h := MapAt.new (w.alloc (.cells (flat (List.replicate p ⟨0, 0, false⟩)).toArray 57))
    have := h.keep (((Chg.refl [] _).alloc (.cells #[.int .i64 me, .int .i64 (max budget 64), .slice (some ⟨w.heap.size, 0, none⟩) p p, .map (some (w.heap.size + 1))] 50))) (by simp)
    simpa [newBox] using this
theorem new_yes (me : Int) (p : Nat) (budget : Int) (w : World) (h1 : 1 ≤ p) (h2 : p ≤ 20) (h3 : 0 ≤ me) (h4 : me < p) :
    Calls Try.prog 9 #[.int .i64 me, .int .i64 p, .int .i64 budget] w (NewPost w (newBox me p budget)) := by
  have hmm := @run_makeMap Try.prog
  obtain ⟨i0, hi, hz0, hz1, hz2⟩ := info_parts info57
  have hmk : ∀ W : World, (Instr.makeSlice 47 (.int .i64 p) (.int .i64 p)).run Try.prog W = .ok (.slice (some ⟨W.heap.size, 0, none⟩) p p) (W.alloc (.cells (flat (List.replicate p ⟨0, 0, false⟩)).toArray 57)) := by
    intro W
    have := run_make (P := Try.prog) W 47 57 i0 _ Try.underlying47 hi hz0 .i64 .i64 p p (by omega) (by omega) (by rw [hz2]; omega) (by omega)
    rw [hz1] at this
    simpa [Value.cells, made_flat] using this
  have H1 := Lib.hid hi
  clear hi hz0 hz1 hz2
  by_cases hb : budget < 64
  · have HW := Lib.hid (new_world w me p 64 budget h2 (by omega))
    go_enter Try.func9, Try.ntmps9
    go_wp2
    go_ret
    exact HW.out
  · have HW := Lib.hid (new_world w me p budget budget h2 (by omega))
    go_enter Try.func9, Try.ntmps9
    go_wp2
    go_ret
    exact HW.out

theorem SendsAt.of_own {w : World} {base n : Nat} {v : Value} {l : List Send} (h : w.ownsRow base 34 4 v n (sendCells l)) (hn : n = l.length) : SendsAt w v l := by
  subst hn
  obtain ⟨a, c, hv⟩ := own_form h
  refine ⟨a, c, hv, fun hp => ?_⟩
  obtain ⟨g, c', hv', _⟩ := own_some h hp
  have e : a = some ⟨g, 0, none⟩ := by rw [hv] at hv'; injection hv'
  refine ⟨g, 0, e, fun i s hs => ?_⟩
  have hc := h.cells (g := g) (by rw [hv']; rfl)
  have key : ∀ (l : List Send) (i : Nat), l[i]? = some s → (sendCells l)[i * 4]? = some (.int .i64 s.peer) ∧ (sendCells l)[i * 4 + 1]? = some (.int .i64 s.log) ∧ (sendCells l)[i * 4 + 2]? = some (.int .i64 s.start) ∧ (sendCells l)[i * 4 + 3]? = some (.int .i64 s.count) := by
    intro l
    induction l with
    | nil => intro i h; simp at h
    | cons x r ih =>
      intro i h
      cases i with
      | zero => simp at h; subst h; simp [sendCells]
      | succ i =>
        have := ih i (by simpa using h)
        rw [show (i + 1) * 4 = i * 4 + 4 by omega]
        exact this
  obtain ⟨k0, k1, k2, k3⟩ := key l i hs
  have z : ∀ j, (⟨g, 0, none⟩ : Addr).add j = ⟨g, 0 + j, none⟩ := by
    intro j; unfold Addr.add; split
    · next h => subst h; rfl
    · rfl
  have r0 := hc _ _ k0
  have r1 := hc _ _ k1
  have r2 := hc _ _ k2
  have r3 := hc _ _ k3
  rw [z] at r0 r1 r2 r3
  exact ⟨r0, r1, r2, r3⟩
theorem SendsAt.keep {S : List Nat} {w w' : World} {v : Value} {l : List Send} (h : SendsAt w v l) (hc : Chg [] w w') : SendsAt w' v l := by
  obtain ⟨a, c, rfl, h⟩ := h
  refine ⟨a, c, rfl, fun hl => ?_⟩
  obtain ⟨b, o, rfl, hx⟩ := h hl
  exact ⟨b, o, rfl, fun i s hs => by
    obtain ⟨r0, r1, r2, r3⟩ := hx i s hs
    exact ⟨hc.cell_lt r0, hc.cell_lt r1, hc.cell_lt r2, hc.cell_lt r3⟩⟩

def exEnds : List (List Int) := [[5], [], [70, 40]]
def ex0 : BoxM := newBox 0 3 10
def ex1 : BoxM := (ex0.plan 0 exEnds).1
def ex2 : BoxM := ex1.ack 1 2 40 0
theorem ex_p1 : (ex0.plan 0 exEnds).2 = [⟨1, 0, 0, 5⟩, ⟨1, 2, 0, 40⟩, ⟨2, 0, 0, 5⟩] := by rfl
theorem ex_d1 : ex1.dueB 1 0 = false := by rfl
theorem ex_d2 : ex1.dueB 1 1 = true := by rfl
theorem ex_d3 : ex1.dueB 0 5 = false := by rfl
theorem ex_a1 : ex1.ackB 1 2 40 = true := by rfl
theorem ex_d4 : ex2.dueB 1 0 = true := by rfl
theorem ex_m : ex2.m 1 2 = 40 := by rfl
theorem ex_p2 : (ex2.plan 0 exEnds).2 = [⟨1, 0, 0, 5⟩, ⟨1, 2, 40, 30⟩] := by rfl
theorem ex_s1 : sameB (ex0.plan 0 exEnds).2 [⟨1, 0, 0, 5⟩, ⟨1, 2, 0, 40⟩, ⟨2, 0, 0, 5⟩] = true := by rw [ex_p1]; decide
theorem ex_s2 : sameB (ex2.plan 0 exEnds).2 [⟨1, 0, 0, 5⟩, ⟨1, 2, 40, 30⟩] = true := by rw [ex_p2]; decide
theorem at_of_all {X : BoxM} {M : Int} (hM : 0 ≤ M) (h : ∀ p, p ∈ X.l → 0 ≤ p.waiting ∧ p.waiting ≤ M) : ∀ i, 0 ≤ (X.at_ i).waiting ∧ (X.at_ i).waiting ≤ M := by
  intro i
  by_cases hi : i < X.l.length
  · have := BoxM.get hi
    exact h _ (List.mem_of_getElem? this)
  · simp [BoxM.at_, List.getD, List.getElem?_eq_none (Nat.le_of_not_lt hi), hM]
theorem ex_w0 : ∀ i, 0 ≤ (ex0.at_ i).waiting ∧ (ex0.at_ i).waiting ≤ 1000000000000 :=
  at_of_all (by omega) fun p hp => by
    have : p = ⟨0, 0, false⟩ := List.eq_of_mem_replicate (n := 3) hp
    subst this; simp
theorem ex_l2 : ex2.l = [⟨0, 0, false⟩, ⟨0, 0, false⟩, ⟨1, 1, false⟩] := by rfl
theorem ex_w2 : ∀ i, 0 ≤ (ex2.at_ i).waiting ∧ (ex2.at_ i).waiting ≤ 1000000000000 :=
  at_of_all (by omega) fun p hp => by
    rw [ex_l2] at hp
    simp at hp
    rcases hp with rfl | rfl <;> simp
theorem cell_new1 (w : World) (cs : Array Value) (t : TypeId) (j : Nat) : (w.alloc (.cells cs t)).cell? ⟨w.heap.size, j, none⟩ = cs[j]? := cell_row (heap_alloc_new w _) j
theorem ex_rows (w : World) : RowsAt (((w.alloc (.cells #[.int .i64 5] 3)).alloc (.cells #[.int .i64 70, .int .i64 40] 3)).alloc (.cells #[.slice (some ⟨w.heap.size, 0, none⟩) 1 1, .slice none 0 0, .slice (some ⟨w.heap.size + 1, 0, none⟩) 2 2] 25))
    (fun b => w.heap.size ≤ b) (some ⟨w.heap.size + 1 + 1, 0, none⟩) exEnds := by
  have c0 : (((w.alloc (.cells #[.int .i64 5] 3)).alloc (.cells #[.int .i64 70, .int .i64 40] 3)).alloc (.cells #[.slice (some ⟨w.heap.size, 0, none⟩) 1 1, .slice none 0 0, .slice (some ⟨w.heap.size + 1, 0, none⟩) 2 2] 25)).cell? ⟨w.heap.size, 0, none⟩ = some (.int .i64 5) := by
    rw [World.cell?_alloc_lt _ _ _ (by simp; omega), World.cell?_alloc_lt _ _ _ (by simp)]; exact cell_new1 w _ _ 0
  have c1 : ∀ j, (((w.alloc (.cells #[.int .i64 5] 3)).alloc (.cells #[.int .i64 70, .int .i64 40] 3)).alloc (.cells #[.slice (some ⟨w.heap.size, 0, none⟩) 1 1, .slice none 0 0, .slice (some ⟨w.heap.size + 1, 0, none⟩) 2 2] 25)).cell? ⟨w.heap.size + 1, j, none⟩ = #[Value.int .i64 70, .int .i64 40][j]? := by
    intro j
    rw [World.cell?_alloc_lt _ _ _ (by simp)]
    have := cell_new1 (w.alloc (.cells #[.int .i64 5] 3)) #[.int .i64 70, .int .i64 40] 3 j
    rw [World.size_alloc] at this
    exact this
  have c2 : ∀ j, (((w.alloc (.cells #[.int .i64 5] 3)).alloc (.cells #[.int .i64 70, .int .i64 40] 3)).alloc (.cells #[.slice (some ⟨w.heap.size, 0, none⟩) 1 1, .slice none 0 0, .slice (some ⟨w.heap.size + 1, 0, none⟩) 2 2] 25)).cell? ⟨w.heap.size + 1 + 1, j, none⟩ = #[Value.slice (some ⟨w.heap.size, 0, none⟩) 1 1, .slice none 0 0, .slice (some ⟨w.heap.size + 1, 0, none⟩) 2 2][j]? := by
    intro j
    have := cell_new1 ((w.alloc (.cells #[.int .i64 5] 3)).alloc (.cells #[.int .i64 70, .int .i64 40] 3)) #[.slice (some ⟨w.heap.size, 0, none⟩) 1 1, .slice none 0 0, .slice (some ⟨w.heap.size + 1, 0, none⟩) 2 2] 25 j
    simpa using this
  intro _
  refine ⟨_, _, rfl, by omega, fun i l hi => ?_⟩
  match i, hi with
  | 0, hi =>
    obtain rfl : [5] = l := by simpa [exEnds] using hi
    refine ⟨_, c2 0, some ⟨w.heap.size, 0, none⟩, 1, rfl, fun _ => ⟨_, _, rfl, by omega, fun i x hx => ?_⟩⟩
    match i, hx with
    | 0, hx => obtain rfl : 5 = x := by simpa using hx
               exact c0
    | i + 1, hx => simp at hx
  | 1, hi =>
    obtain rfl : [] = l := by simpa [exEnds] using hi
    exact ⟨_, c2 1, none, 0, rfl, fun h => by simp at h⟩
  | 2, hi =>
    obtain rfl : [70, 40] = l := by simpa [exEnds] using hi
    refine ⟨_, c2 2, some ⟨w.heap.size + 1, 0, none⟩, 2, rfl, fun _ => ⟨_, _, rfl, by omega, fun i x hx => ?_⟩⟩
    match i, hx with
    | 0, hx => obtain rfl : 70 = x := by simpa using hx
               exact c1 0
    | 1, hx => obtain rfl : 40 = x := by simpa using hx
               exact c1 1
    | i + 2, hx => simp at hx
  | i + 3, hi => simp [exEnds] at hi
theorem ex_wf : ∀ l, l ∈ exEnds → l.length ≤ 9223372036854775807 ∧ ∀ x, x ∈ l → wf64 x := by
  intro l hl
  simp [exEnds] at hl
  rcases hl with rfl | rfl | rfl <;> simp [wf64]

theorem lit_sends (w : World) (cs : Array Value) (l : List Send) (h : cs.toList = sendCells l) (hl : l.length ≤ maxLen) : SendsAt (w.alloc (.cells cs 34)) (.slice (some ⟨w.heap.size, 0, none⟩) l.length l.length) l :=
  SendsAt.of_own (base := 0) (n := l.length) ⟨sendCells_length l, .inr ⟨w.heap.size, l.length, cs, rfl, Nat.zero_le _, heap_alloc_new w _, Nat.le_refl _, hl, by rw [← Array.length_toList, h, sendCells_length], by rw [h, List.take_of_length_le (by rw [sendCells_length]; exact Nat.le_refl _)]⟩⟩ rfl
theorem due_w {bB bP bM n : Nat} {X : BoxM} (i now : Int) (r : Bool) (w : World) (h : BoxAt w bB bP bM n X) (hr : X.dueB i now = r) :
    Calls Try.prog 14 #[.pointer (some ⟨bB, 0, none⟩), .int .i64 i, .int .i64 now] w fun e w' => e = .returned (.bool r) ∧ BoxAt w' bB bP bM n X ∧ Chg [] w w' :=
  (due_any i now w h).mono fun e w' ⟨he, k, hk⟩ => ⟨by rw [he, hr], by rw [hk]; exact h.drewN k, by rw [hk]; exact (Chg.refl [] w).drewN k⟩
theorem ack_w {bB bP bM n : Nat} {X : BoxM} (i log size now : Int) (r : Bool) (w : World) (h : BoxAt w bB bP bM n X) (hn : n < maxLen) (hi : wf64 i) (hl : wf64 log) (hz : wf64 size) (hr : X.ackB i log size = r) :
    Calls Try.prog 13 #[.pointer (some ⟨bB, 0, none⟩), .int .i64 i, .int .i64 log, .int .i64 size, .int .i64 now] w fun e w' => e = .returned (.bool r) ∧ BoxAt w' bB bP bM (n + 1) (X.ack i log size now) ∧ Chg [bP, bM] w w' :=
  (ack_any i log size now w h hn hi hl hz).mono fun e w' ⟨he, h1⟩ => ⟨by rw [he, hr], h1⟩
theorem sent_w {bB bP bM n : Nat} {X : BoxM} (i log : Int) (r : Int) (w : World) (h : BoxAt w bB bP bM n X) (hi : wf64 i) (hl : wf64 log) (hr : X.m i log = r) :
    Calls Try.prog 10 #[.pointer (some ⟨bB, 0, none⟩), .int .i64 i, .int .i64 log] w fun e w' => e = .returned (.int .i64 r) ∧ w = w' :=
  (sent_any i log w h hi hl).mono fun e w' ⟨he, h1⟩ => ⟨by rw [he, hr], h1⟩
theorem same_w (a b : List Send) (va vb : Value) (r : Bool) (w : World) (ha : SendsAt w va a) (hb : SendsAt w vb b) (hla : a.length ≤ 9223372036854775807) (hr : sameB a b = r) :
    Calls Try.prog 17 #[va, vb] w fun e w' => e = .returned (.bool r) ∧ Chg [] w w' :=
  (same_any a b va vb w ha hb hla).mono fun e w' ⟨he, k, hk⟩ => ⟨by rw [he, hr], by rw [hk]; exact (Chg.refl [] w).drewN k⟩
theorem ex_l : (ex0.plan 0 exEnds).2.length = 3 := by rw [ex_p1]; rfl
theorem ex_l' : (ex2.plan 0 exEnds).2.length = 2 := by rw [ex_p2]; rfl
theorem small_any (w : World) : Calls Try.prog 7 #[] w fun e w' => e = .returned (.bool true) ∧ Below w.heap.size w w' := by
  have hn0 : ∀ w, Calls Try.prog 9 #[.int .i64 0, .int .i64 3, .int .i64 10] w (NewPost w (newBox 0 3 10)) := fun w => new_yes 0 3 10 w (by omega) (by omega) (by omega) (by omega)
  have hn1 := fun w => new_no 3 3 10 w (by decide)
  have hn2 := fun w => new_no 0 21 10 w (by decide)
  have hn3 := fun w => new_no 0 0 10 w (by decide)
  go_enter Try.func7, Try.ntmps7
  go_wp2_with (first | (go_at_call 9; (with_reducible refine (hn0 _).mono ?_); rintro e w1 ⟨rfl, hbox, hbel⟩; clear hn0) | (go_at_call 9; (with_reducible refine (hn1 _).mono ?_); rintro e w' ⟨rfl, rfl⟩) | (go_at_call 9; (with_reducible refine (hn2 _).mono ?_); rintro e w' ⟨rfl, rfl⟩) | (go_at_call 9; (with_reducible refine (hn3 _).mono ?_); rintro e w' ⟨rfl, rfl⟩))
  clear hn1 hn2 hn3
  have hbox0 : BoxAt w1 (w.heap.size + 1 + 1) w.heap.size (w.heap.size + 1) 0 ex0 := hbox
  have hlt := lt_of_heap hbox0.box
  have hc1 := ((((Chg.refl [] w1).alloc (.cells #[.int .i64 5] 3)).alloc (.cells #[.int .i64 70, .int .i64 40] 3)).alloc (.cells #[.slice (some ⟨w1.heap.size, 0, none⟩) 1 1, .slice none 0 0, .slice (some ⟨w1.heap.size + 1, 0, none⟩) 2 2] 25))
  have hrows := ex_rows w1
  have hbox1 := hbox0.keep hc1 (by simp) (by simp) (by simp)
  clear hbox hbox0
  refine (plan_any 0 exEnds _ 3 _ _ hbox1 (by decide) (by decide) hrows (by intro b hb he; omega) (by decide) ex_wf ex_w0).mono ?_
  rintro e w3 ⟨v1, rfl, hown1, hbox3, hchg3⟩
  have hs1 := SendsAt.of_own hown1 rfl
  have hbox3 : BoxAt w3 (w.heap.size + 1 + 1) w.heap.size (w.heap.size + 1) 0 ex1 := hbox3
  have hrows3 := hrows.keep hchg3 (by intro b hb hm; simp at hm; omega)
  have hC3 : Chg [] w w3 := ((Chg.of_below hbel []).trans hc1).step hchg3 (fun b hb => .inr (by simp at hb; omega))
  clear hown1 hc1 hbel hbox1 hrows hchg3
  go_wp2_with fail
  have hc4 := (Chg.refl [] w3).alloc (.cells #[.int .i64 1, .int .i64 0, .int .i64 0, .int .i64 5, .int .i64 1, .int .i64 2, .int .i64 0, .int .i64 40, .int .i64 2, .int .i64 0, .int .i64 0, .int .i64 5] 34)
  refine (same_w _ _ _ _ _ _ (hs1.keep (S := []) hc4) (lit_sends w3 _ [⟨1, 0, 0, 5⟩, ⟨1, 2, 0, 40⟩, ⟨2, 0, 0, 5⟩] rfl (by decide)) (by rw [ex_l]; decide) ex_s1).mono ?_
  rintro e w5 ⟨rfl, hc5⟩
  have hbox5 := hbox3.keep (hc4.trans hc5) (by simp) (by simp) (by simp)
  have hrows5 := hrows3.keep (hc4.trans hc5) (by simp)
  have hC5 := hC3.trans (hc4.trans hc5)
  clear hc4 hc5 hC3 hbox3 hrows3 hs1
  go_wp2_with fail
  refine (due_w 1 0 false _ hbox5 ex_d1).mono ?_
  rintro e w6 ⟨rfl, hbox6, hc6⟩
  have hrows6 := hrows5.keep hc6 (by simp)
  have hC6 := hC5.trans hc6
  clear hbox5 hrows5 hC5 hc6
  go_wp2_with fail
  refine (due_w 1 1 true _ hbox6 ex_d2).mono ?_
  rintro e w7 ⟨rfl, hbox7, hc7⟩
  have hrows7 := hrows6.keep hc7 (by simp)
  have hC7 := hC6.trans hc7
  clear hbox6 hrows6 hC6 hc7
  go_wp2_with fail
  refine (due_w 0 5 false _ hbox7 ex_d3).mono ?_
  rintro e w8 ⟨rfl, hbox8, hc8⟩
  have hrows8 := hrows7.keep hc8 (by simp)
  have hC8 := hC7.trans hc8
  clear hbox7 hrows7 hC7 hc8
  go_wp2_with fail
  refine (ack_w 1 2 40 0 true _ hbox8 (by decide) (by unfold wf64; omega) (by unfold wf64; omega) (by unfold wf64; omega) ex_a1).mono ?_
  rintro e w9 ⟨rfl, hbox9, hc9⟩
  have hbox9 : BoxAt w9 (w.heap.size + 1 + 1) w.heap.size (w.heap.size + 1) 1 ex2 := hbox9
  have hrows9 := hrows8.keep hc9 (by intro b hb hm; simp at hm; omega)
  have hC9 : Chg [] w w9 := hC8.step hc9 (fun b hb => .inr (by simp at hb; omega))
  clear hbox8 hrows8 hC8 hc9
  go_wp2_with fail
  refine (due_w 1 0 true _ hbox9 ex_d4).mono ?_
  rintro e w10 ⟨rfl, hbox10, hc10⟩
  have hrows10 := hrows9.keep hc10 (by simp)
  have hC10 := hC9.trans hc10
  clear hbox9 hrows9 hC9 hc10
  go_wp2_with fail
  refine (sent_w 1 2 40 _ hbox10 (by unfold wf64; omega) (by unfold wf64; omega) ex_m).mono ?_
  rintro e w' ⟨rfl, rfl⟩
  go_wp2_with fail
  refine (plan_any 0 exEnds _ 3 _ _ hbox10 (by decide) (by decide) hrows10 (by intro b hb he; omega) (by decide) ex_wf ex_w2).mono ?_
  rintro e w11 ⟨v2, rfl, hown11, _, hchg11⟩
  have hs11 := SendsAt.of_own hown11 rfl
  have hC11 : Chg [] w w11 := hC10.step hchg11 (fun b hb => .inr (by simp at hb; omega))
  clear hbox10 hrows10 hC10 hown11 hchg11
  go_wp2_with fail
  have hc12 := (Chg.refl [] w11).alloc (.cells #[.int .i64 1, .int .i64 0, .int .i64 0, .int .i64 5, .int .i64 1, .int .i64 2, .int .i64 40, .int .i64 30] 34)
  refine (same_w _ _ _ _ _ _ (hs11.keep (S := []) hc12) (lit_sends w11 _ [⟨1, 0, 0, 5⟩, ⟨1, 2, 40, 30⟩] rfl (by decide)) (by rw [ex_l']; decide) ex_s2).mono ?_
  rintro e w13 ⟨rfl, hc13⟩
  have hC13 := (hC11.trans (hc12.trans hc13)).below
  clear hc12 hc13 hC11 hs11
  go_wp2
  go_ret
  exact ⟨rfl, hC13⟩
end Go.Proofs.Ytipklnakihinkaa
