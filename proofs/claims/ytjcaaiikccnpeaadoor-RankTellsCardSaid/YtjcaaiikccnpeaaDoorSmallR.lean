/- small, walked: it answers true. -/
import Derived.Test.YtjcaaiikccnpeaaDoorValid
import Derived.Test.YtjcaaiikccnpeaaDoorRankText
namespace Go.Proofs.YtjcaaiikccnpeaaDoor
open Go.ChangeShapes Go.WideShapes Go.ChangeAt Go.RowKit Go.Lib
set_option linter.unusedVariables false

theorem itoa_small {m : Nat} (h : m < 10) : itoa (m : Int) = [UInt8.ofNat (48 + m)] := by rw [itoa_nonneg, decDigits, dif_pos h]
theorem itoa_1 : itoa 1 = [49] := itoa_small (m := 1) (by decide)
theorem itoa_2 : itoa 2 = [50] := itoa_small (m := 2) (by decide)
theorem itoa_3 : itoa 3 = [51] := itoa_small (m := 3) (by decide)
theorem itoa_5 : itoa 5 = [53] := itoa_small (m := 5) (by decide)
theorem wsm_ok : (⟨2, 3, 1, 5⟩ : Wts).Ok := by decide
theorem wsm : writeB ⟨2, 3, 1, 5⟩ = [108, 105, 107, 101, 32, 50, 32, 98, 111, 111, 115, 116, 32, 51, 32, 114, 101, 112, 108, 121, 32, 49, 32, 97, 103, 101, 32, 53] := by
  unfold writeB
  rw [if_pos wsm_ok]
  simp only [itoa_1, itoa_2, itoa_3, itoa_5]
  rfl
theorem psm : parseW [108, 105, 107, 101, 32, 50, 32, 98, 111, 111, 115, 116, 32, 51, 32, 114, 101, 112, 108, 121, 32, 49, 32, 97, 103, 101, 32, 53] = some ⟨2, 3, 1, 5⟩ := by rw [← wsm]; exact parse_write wsm_ok
theorem parse_05 : parseI [48, 53] 0 1125899906842624 = none := by
  have h1 : Lib.atoiAll [48, 53] = .ok 5 := by rfl
  unfold parseI
  rw [h1]
  simp only
  rw [if_neg]
  rintro ⟨h, _⟩
  rw [itoa_5] at h
  simp at h
theorem psm2 : parseW [108, 105, 107, 101, 32, 50, 32, 98, 111, 111, 115, 116, 32, 51, 32, 114, 101, 112, 108, 121, 32, 49, 32, 97, 103, 101, 32, 48, 53] = none := by
  have hs : spL [108, 105, 107, 101, 32, 50, 32, 98, 111, 111, 115, 116, 32, 51, 32, 114, 101, 112, 108, 121, 32, 49, 32, 97, 103, 101, 32, 48, 53] = [likeN, [50], boostN, [51], replyN, [49], ageN, [48, 53]] := by rfl
  unfold parseW
  rw [hs]
  unfold parseL
  simp only
  exact pick_no (.inr (.inr (.inr (fieldW_no parse_05))))
theorem psm3 : parseW [108, 105, 107, 101, 32, 50] = none := by
  unfold parseW
  exact parseL_len (by decide)
theorem wsm_wf : (⟨2, 3, 1, 5⟩ : Wts).Wf := wsm_ok.wf
theorem tsm_wf : (⟨10, 1, 4⟩ : Tal).Wf := by unfold Tal.Wf wf64; decide
theorem wf_7 : wf64 7 := by unfold wf64; decide
theorem wf_9 : wf64 9 := by unfold wf64; decide
theorem wf_3 : wf64 3 := by unfold wf64; decide
theorem new_below {w1 w2 : World} {X : Obj} (h : Below (w1.alloc X).heap.size (w1.alloc X) w2) : w2.heap[w1.heap.size]? = some X ∧ Below w1.heap.size w1 w2 := by
  rw [World.size_alloc] at h
  refine ⟨?_, ((Below.refl _ _).alloc (Nat.le_refl _) _).trans (h.mono (by omega))⟩
  rw [h.block _ (by omega), heap_alloc_new]
theorem keep_blk {w1 w2 : World} {i : Nat} {o : Obj} (h : Below w1.heap.size w1 w2) (g : w1.heap[i]? = some o) : w2.heap[i]? = some o := (h.block _ (Array.getElem?_eq_some_iff.1 g).1).trans g
theorem keep_cell {w1 w2 : World} {a : Addr} {v : Value} (h : Below w1.heap.size w1 w2) (g : w1.cell? a = some v) : w2.cell? a = some v := (h.cell (World.block_lt_of_cell? w1 _ g)).trans g
theorem srt : insN 0 3 [⟨[98], [], 0, 0, 0, []⟩, ⟨[97], [], 0, 0, 0, []⟩, ⟨[99], [], 0, 1, 0, []⟩, ⟨[100], [], 1, 0, 0, []⟩] = [⟨[100], [], 1, 0, 0, []⟩, ⟨[99], [], 0, 1, 0, []⟩, ⟨[97], [], 0, 0, 0, []⟩, ⟨[98], [], 0, 0, 0, []⟩] := by rfl
theorem cards_new (w : World) (l : List Card) (cs : Array Value) (t : TypeId) (h : cs = (cardCells l).toArray) : CRow (w.alloc (.cells cs t)) (some ⟨w.heap.size, 0, none⟩) l := by
  subst h
  intro _
  refine ⟨w.heap.size, 0, rfl, fun i x hx => ?_⟩
  rw [Nat.zero_add, cell_of_row _ _ i _ _ _ (heap_alloc_new w _)]
  simpa using hx
theorem cat_ids {W : World} {g : Nat} (h : CAt W g [⟨[100], [], 1, 0, 0, []⟩, ⟨[99], [], 0, 1, 0, []⟩, ⟨[97], [], 0, 0, 0, []⟩, ⟨[98], [], 0, 0, 0, []⟩]) : W.cell? ⟨g, 0, none⟩ = some (.string ⟨#[100]⟩) ∧ W.cell? ⟨g, 6, none⟩ = some (.string ⟨#[99]⟩) ∧ W.cell? ⟨g, 12, none⟩ = some (.string ⟨#[97]⟩) ∧ W.cell? ⟨g, 18, none⟩ = some (.string ⟨#[98]⟩) :=
  ⟨h 0 _ rfl 0 _ rfl, h 1 _ rfl 0 _ rfl, h 2 _ rfl 0 _ rfl, h 3 _ rfl 0 _ rfl⟩
theorem threeT {W : World} {T : Nat} {a b c : Int} (h : W.heap[T]? = some (.cells #[.int .i64 a, .int .i64 b, .int .i64 c] 31 (0, 0))) :
    W.cell? ⟨T, 0, none⟩ = some (.int .i64 a) ∧ W.cell? ⟨T, 1, none⟩ = some (.int .i64 b) ∧ W.cell? ⟨T, 2, none⟩ = some (.int .i64 c) := by
  refine ⟨?_, ?_, ?_⟩
  · rw [cell_of_row W _ 0 _ _ _ h]; rfl
  · rw [cell_of_row W _ 1 _ _ _ h]; rfl
  · rw [cell_of_row W _ 2 _ _ _ h]; rfl
theorem fourT {W : World} {T : Nat} {a b c d : Int} (h : W.heap[T]? = some (.cells #[.int .i64 a, .int .i64 b, .int .i64 c, .int .i64 d] 23 (0, 0))) :
    W.cell? ⟨T, 0, none⟩ = some (.int .i64 a) ∧ W.cell? ⟨T, 1, none⟩ = some (.int .i64 b) ∧ W.cell? ⟨T, 2, none⟩ = some (.int .i64 c) ∧ W.cell? ⟨T, 3, none⟩ = some (.int .i64 d) := by
  refine ⟨?_, ?_, ?_, ?_⟩
  · rw [cell_of_row W _ 0 _ _ _ h]; rfl
  · rw [cell_of_row W _ 1 _ _ _ h]; rfl
  · rw [cell_of_row W _ 2 _ _ _ h]; rfl
  · rw [cell_of_row W _ 3 _ _ _ h]; rfl
set_option maxRecDepth 100000 in
set_option maxHeartbeats 2000000 in
theorem small_any (w : World) (hL : LaidA w) : Calls Tryd.prog 8 #[] w (BoolPost w true) := by
  have c1 : ∀ W, LaidA W → Calls Tryd.prog 9 #[.string { data := #[108, 105, 107, 101, 32, 50, 32, 98, 111, 111, 115, 116, 32, 51, 32, 114, 101, 112, 108, 121, 32, 49, 32, 97, 103, 101, 32, 53] }] W (fun e w' => e = .returned (.tuple #[.agg #[.int .i64 2, .int .i64 3, .int .i64 1, .int .i64 5], .bool true]) ∧ Below W.heap.size W w') := fun W hW => by
    have := parse_w [108, 105, 107, 101, 32, 50, 32, 98, 111, 111, 115, 116, 32, 51, 32, 114, 101, 112, 108, 121, 32, 49, 32, 97, 103, 101, 32, 53] W (by decide) hW
    rw [psm] at this
    exact this
  have c2 : ∀ W, LaidA W → Calls Tryd.prog 9 #[.string { data := #[108, 105, 107, 101, 32, 50, 32, 98, 111, 111, 115, 116, 32, 51, 32, 114, 101, 112, 108, 121, 32, 49, 32, 97, 103, 101, 32, 48, 53] }] W (fun e w' => e = .returned (.tuple #[.agg #[.int .i64 0, .int .i64 0, .int .i64 0, .int .i64 0], .bool false]) ∧ Below W.heap.size W w') := fun W hW => by
    have := parse_w [108, 105, 107, 101, 32, 50, 32, 98, 111, 111, 115, 116, 32, 51, 32, 114, 101, 112, 108, 121, 32, 49, 32, 97, 103, 101, 32, 48, 53] W (by decide) hW
    rw [psm2] at this
    exact this
  have c3 : ∀ W, LaidA W → Calls Tryd.prog 9 #[.string { data := #[108, 105, 107, 101, 32, 50] }] W (fun e w' => e = .returned (.tuple #[.agg #[.int .i64 0, .int .i64 0, .int .i64 0, .int .i64 0], .bool false]) ∧ Below W.heap.size W w') := fun W hW => by
    have := parse_w [108, 105, 107, 101, 32, 50] W (by decide) hW
    rw [psm3] at this
    exact this
  have c4 : ∀ W g, CRow W (some ⟨g, 0, none⟩) [⟨[98], [], 0, 0, 0, []⟩, ⟨[97], [], 0, 0, 0, []⟩, ⟨[99], [], 0, 1, 0, []⟩, ⟨[100], [], 1, 0, 0, []⟩] → Calls Tryd.prog 21 #[.slice (some ⟨g, 0, none⟩) 4 4] W (SortPost W [⟨[100], [], 1, 0, 0, []⟩, ⟨[99], [], 0, 1, 0, []⟩, ⟨[97], [], 0, 0, 0, []⟩, ⟨[98], [], 0, 0, 0, []⟩]) := fun W g h => sort_small [⟨[98], [], 0, 0, 0, []⟩, ⟨[97], [], 0, 0, 0, []⟩, ⟨[99], [], 0, 1, 0, []⟩, ⟨[100], [], 1, 0, 0, []⟩] g 0 4 W (by decide) h
  have c5 : ∀ W, LaidA W → Calls Tryd.prog 10 #[.agg #[.int .i64 2, .int .i64 3, .int .i64 1, .int .i64 5]] W (fun e w' => e = .returned (.string { data := #[108, 105, 107, 101, 32, 50, 32, 98, 111, 111, 115, 116, 32, 51, 32, 114, 101, 112, 108, 121, 32, 49, 32, 97, 103, 101, 32, 53] }) ∧ Below W.heap.size W w') := fun W hW => by
    have := write_any ⟨2, 3, 1, 5⟩ W wsm_wf hW.i
    rw [wsm] at this
    exact this
  have c6 : ∀ W, Calls Tryd.prog 12 #[.agg #[.int .i64 2, .int .i64 3, .int .i64 1, .int .i64 5], .agg #[.int .i64 10, .int .i64 1, .int .i64 4], .int .i64 7, .int .i64 9] W (IntPost W 17) := fun W => score_any ⟨2, 3, 1, 5⟩ ⟨10, 1, 4⟩ 7 9 W wsm_wf tsm_wf wf_7 wf_9
  have c7 : ∀ W, Calls Tryd.prog 12 #[.agg #[.int .i64 2, .int .i64 3, .int .i64 1, .int .i64 5], .agg #[.int .i64 10, .int .i64 1, .int .i64 4], .int .i64 7, .int .i64 3] W (IntPost W 27) := fun W => score_any ⟨2, 3, 1, 5⟩ ⟨10, 1, 4⟩ 7 3 W wsm_wf tsm_wf wf_7 wf_3
  have hnew := fun W => cards_new W [⟨[98], [], 0, 0, 0, []⟩, ⟨[97], [], 0, 0, 0, []⟩, ⟨[99], [], 0, 1, 0, []⟩, ⟨[100], [], 1, 0, 0, []⟩] #[.string ⟨#[98]⟩, .string ⟨#[]⟩, .int .i64 0, .int .i64 0, .int .i64 0, .string ⟨#[]⟩, .string ⟨#[97]⟩, .string ⟨#[]⟩, .int .i64 0, .int .i64 0, .int .i64 0, .string ⟨#[]⟩, .string ⟨#[99]⟩, .string ⟨#[]⟩, .int .i64 0, .int .i64 1, .int .i64 0, .string ⟨#[]⟩, .string ⟨#[100]⟩, .string ⟨#[]⟩, .int .i64 1, .int .i64 0, .int .i64 0, .string ⟨#[]⟩] 38 rfl
  have HNEW := Lib.hid hnew
  clear hnew
  have hA0 : ∀ W, Below (w.heap.size + 2) ((w.alloc (.cells #[.int .i64 2, .int .i64 3, .int .i64 1, .int .i64 5] 23)).alloc (.cells #[.int .i64 10, .int .i64 1, .int .i64 4] 31)) W →
      W.heap[w.heap.size]? = some (.cells #[.int .i64 2, .int .i64 3, .int .i64 1, .int .i64 5] 23 (0, 0)) ∧ W.heap[w.heap.size + 1]? = some (.cells #[.int .i64 10, .int .i64 1, .int .i64 4] 31 (0, 0)) ∧ Below w.heap.size w W := by
    intro W hW
    have hs1 : (w.alloc (.cells #[.int .i64 2, .int .i64 3, .int .i64 1, .int .i64 5] 23)).heap.size = w.heap.size + 1 := by simp
    refine ⟨?_, ?_, Below.trans (((Below.refl _ _).alloc (Nat.le_refl _) _).alloc (by omega) _) (hW.mono (by omega))⟩
    · rw [hW.block _ (by omega), Below.heap_alloc _ _ _ (by omega), heap_alloc_new]
    · rw [hW.block _ (by omega), ← hs1, heap_alloc_new]
  have HA0 := Lib.hid hA0
  clear hA0
  have hb0 := Below.refl w.heap.size w
  go_enter Tryd.func8, Tryd.ntmps8
  go_wp2_with fail
  (with_reducible refine Calls.mono (c1 _ (hL.below (((hb0.alloc (Nat.le_refl _) _).alloc (by simp) _)))) ?_)
  rintro e w1 ⟨rfl, hbx⟩
  simp only [World.size_alloc] at hbx
  obtain ⟨g1, g2, hb1⟩ := HA0.out _ hbx
  have G1 := Lib.hid g1
  have G2 := Lib.hid g2
  clear hbx HA0 c1 g1 g2
  go_wp2_with fail
  (with_reducible refine Calls.mono (c2 _ (hL.below (hb1.alloc hb1.size _))) ?_)
  rintro e w2 ⟨rfl, hbx⟩
  have hk := new_below hbx
  replace G1 := Lib.hid (keep_blk hk.2 G1.out)
  replace G2 := Lib.hid (keep_blk hk.2 G2.out)
  have G3 := Lib.hid hk.1
  have hb2 := hb1.trans (hk.2.mono hb1.size)
  clear hbx hk c2
  go_wp2_with fail
  (with_reducible refine Calls.mono (c3 _ (hL.below (hb2.alloc hb2.size _))) ?_)
  rintro e w3 ⟨rfl, hbx⟩
  have hk := new_below hbx
  replace G1 := Lib.hid (keep_blk hk.2 G1.out)
  replace G2 := Lib.hid (keep_blk hk.2 G2.out)
  replace G3 := Lib.hid (keep_blk hk.2 G3.out)
  have hb3 := hb2.trans (hk.2.mono hb2.size)
  clear hbx hk c3
  go_wp2_with fail
  refine Calls.mono (c4 _ _ (by have := HNEW.out (World.alloc w3 (.cells #[.int .i64 0, .int .i64 0, .int .i64 0, .int .i64 0] 23)); simpa using this)) ?_
  rintro e w4 ⟨g, c, rfl, hc1, hc2, hbx⟩
  have hk : Below w3.heap.size w3 w4 := (((Below.refl w3.heap.size w3).alloc (Nat.le_refl _) _).alloc (by simp) _).trans (hbx.mono (by simp; omega))
  replace G1 := Lib.hid (keep_blk hk G1.out)
  replace G2 := Lib.hid (keep_blk hk G2.out)
  replace G3 := Lib.hid (keep_blk hk G3.out)
  have hb4 := hb3.trans (hk.mono hb3.size)
  have C1 := Lib.hid (cat_ids hc1)
  simp only [List.length_cons, List.length_nil, Nat.zero_add, Nat.reduceAdd] at hc2
  clear hbx hk c4 hc1 HNEW
  have f1 : ∀ W, Below w4.heap.size w4 W → (W.cell? ⟨w.heap.size, 0, none⟩ = some (.int .i64 2) ∧ W.cell? ⟨w.heap.size, 1, none⟩ = some (.int .i64 3) ∧ W.cell? ⟨w.heap.size, 2, none⟩ = some (.int .i64 1) ∧ W.cell? ⟨w.heap.size, 3, none⟩ = some (.int .i64 5)) ∧
      (W.cell? ⟨w.heap.size + 1, 0, none⟩ = some (.int .i64 10) ∧ W.cell? ⟨w.heap.size + 1, 1, none⟩ = some (.int .i64 1) ∧ W.cell? ⟨w.heap.size + 1, 2, none⟩ = some (.int .i64 4)) ∧
      (W.cell? ⟨w1.heap.size, 0, none⟩ = some (.int .i64 2) ∧ W.cell? ⟨w1.heap.size, 1, none⟩ = some (.int .i64 3) ∧ W.cell? ⟨w1.heap.size, 2, none⟩ = some (.int .i64 1) ∧ W.cell? ⟨w1.heap.size, 3, none⟩ = some (.int .i64 5)) ∧
      (W.cell? ⟨g, 0, none⟩ = some (.string ⟨#[100]⟩) ∧ W.cell? ⟨g, 6, none⟩ = some (.string ⟨#[99]⟩) ∧ W.cell? ⟨g, 12, none⟩ = some (.string ⟨#[97]⟩) ∧ W.cell? ⟨g, 18, none⟩ = some (.string ⟨#[98]⟩)) := fun W hW =>
    ⟨fourT (keep_blk hW G1.out), threeT (keep_blk hW G2.out), fourT (keep_blk hW G3.out), keep_cell hW C1.out.1, keep_cell hW C1.out.2.1, keep_cell hW C1.out.2.2.1, keep_cell hW C1.out.2.2.2⟩
  have F1 := Lib.hid f1
  have F2 : Hid (∀ W W', Below w4.heap.size w4 W → Below W.heap.size W W' → Below w4.heap.size w4 W') := fun W W' h h' => h.trans (h'.mono h.size)
  have F3 : Hid (∀ W, Below w4.heap.size w4 W → LaidA W) := fun W h => hL.below (hb4.trans (h.mono hb4.size))
  have K0 := Lib.hid (Below.refl w4.heap.size w4)
  have F4 : Hid (∀ W, Below w4.heap.size w4 W → Below w.heap.size w W) := fun W h => hb4.trans (h.mono hb4.size)
  clear f1 hL hb0 hb1 hb2 hb3 hb4 G1 G2 G3 C1
  generalize w1.heap.size = b3 at *
  obtain ⟨⟨p0, p1, p2, p3⟩, ⟨q0, q1, q2⟩, ⟨r0, r1, r2, r3⟩, z0, z1, z2, z3⟩ := F1.out _ K0.out
  go_wp2_with fail
  (with_reducible refine Calls.mono (c5 _ (F3.out _ K0.out)) ?_)
  rintro e w5 ⟨rfl, hbx⟩
  have K5 := Lib.hid (F2.out _ _ K0.out hbx)
  clear hbx c5
  clear p0 p1 p2 p3 q0 q1 q2 r0 r1 r2 r3 z0 z1 z2 z3
  obtain ⟨⟨p0, p1, p2, p3⟩, ⟨q0, q1, q2⟩, ⟨r0, r1, r2, r3⟩, z0, z1, z2, z3⟩ := F1.out _ K5.out
  go_wp2_with fail
  (with_reducible refine Calls.mono (c6 _) ?_)
  rintro e w6 ⟨rfl, hbx⟩
  have K6 := Lib.hid (F2.out _ _ K5.out hbx)
  clear hbx c6
  clear p0 p1 p2 p3 q0 q1 q2 r0 r1 r2 r3 z0 z1 z2 z3
  obtain ⟨⟨p0, p1, p2, p3⟩, ⟨q0, q1, q2⟩, ⟨r0, r1, r2, r3⟩, z0, z1, z2, z3⟩ := F1.out _ K6.out
  go_wp2_with fail
  (with_reducible refine Calls.mono (c7 _) ?_)
  rintro e w7 ⟨rfl, hbx⟩
  have K7 := Lib.hid (F2.out _ _ K6.out hbx)
  clear hbx c7
  clear p0 p1 p2 p3 q0 q1 q2 r0 r1 r2 r3 z0 z1 z2 z3
  obtain ⟨⟨p0, p1, p2, p3⟩, ⟨q0, q1, q2⟩, ⟨r0, r1, r2, r3⟩, z0, z1, z2, z3⟩ := F1.out _ K7.out
  go_wp2
  go_ret
  exact ⟨rfl, F4.out _ K7.out⟩
end Go.Proofs.YtjcaaiikccnpeaaDoor
