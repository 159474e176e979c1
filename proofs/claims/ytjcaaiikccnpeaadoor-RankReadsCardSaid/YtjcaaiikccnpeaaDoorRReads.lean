/- RankReads, walked: it answers true. -/
import Derived.Test.YtjcaaiikccnpeaaDoorSmallR
namespace Go.Proofs.YtjcaaiikccnpeaaDoor
open Go.ChangeShapes Go.WideShapes Go.ChangeAt Go.RowKit Go.Lib
set_option linter.unusedVariables false

set_option maxRecDepth 100000 in
set_option maxHeartbeats 2000000 in
theorem reads_long (a b c d : Int) (l : List UInt8) (w : World) (hv : (⟨a, b, c, d⟩ : Wts).Wf) (hl : l.length ≤ 281474976710656) (h : 1000 < l.length) (hL : LaidA w) : Calls Tryd.prog 3 #[.agg #[.int .i64 a, .int .i64 b, .int .i64 c, .int .i64 d], .string (bs l)] w (BoolPost w true) := by
  have cs := fun W hW => small_any W hW
  have hs := bs_size l
  have hA0 : (w.alloc (.cells #[.int .i64 a, .int .i64 b, .int .i64 c, .int .i64 d] 23)).heap[w.heap.size]? = some (.cells #[.int .i64 a, .int .i64 b, .int .i64 c, .int .i64 d] 23 (0, 0)) := heap_alloc_new _ _
  have hb0 : Below w.heap.size w (w.alloc (.cells #[.int .i64 a, .int .i64 b, .int .i64 c, .int .i64 d] 23)) := (Below.refl _ _).alloc (Nat.le_refl _) _
  have G1 := Lib.hid hA0
  have B0 := Lib.hid hb0
  clear hA0 hb0
  have d1 : decide (1000 < (l.length : Int)) = true := decide_eq_true (by omega)
  clear h
  go_enter Tryd.func3, Tryd.ntmps3
  go_wp2_with fail
  have hb0 := B0.out
  (with_reducible refine Calls.mono (cs _ (hL.below hb0)) ?_)
  rintro e w1 ⟨rfl, hbx⟩
  replace G1 := Lib.hid (keep_blk hbx G1.out)
  have hb1 := hb0.trans (hbx.mono hb0.size)
  clear hbx cs hb0 B0
  go_wp2
  go_ret
  exact ⟨rfl, hb1⟩
set_option maxRecDepth 100000 in
set_option maxHeartbeats 2000000 in
theorem reads_00 (a b c d : Int) (l : List UInt8) (w : World) (hv : (⟨a, b, c, d⟩ : Wts).Wf) (hl : l.length ≤ 281474976710656) (h : ¬ 1000 < l.length) (hp : parseW l = none) (hok : ¬ (⟨a, b, c, d⟩ : Wts).Ok) (hL : LaidA w) : Calls Tryd.prog 3 #[.agg #[.int .i64 a, .int .i64 b, .int .i64 c, .int .i64 d], .string (bs l)] w (BoolPost w true) := by
  have cs := fun W hW => small_any W hW
  have hs := bs_size l
  have hA0 : (w.alloc (.cells #[.int .i64 a, .int .i64 b, .int .i64 c, .int .i64 d] 23)).heap[w.heap.size]? = some (.cells #[.int .i64 a, .int .i64 b, .int .i64 c, .int .i64 d] 23 (0, 0)) := heap_alloc_new _ _
  have hb0 : Below w.heap.size w (w.alloc (.cells #[.int .i64 a, .int .i64 b, .int .i64 c, .int .i64 d] 23)) := (Below.refl _ _).alloc (Nat.le_refl _) _
  have G1 := Lib.hid hA0
  have B0 := Lib.hid hb0
  clear hA0 hb0
  have d1 : decide (1000 < (l.length : Int)) = false := decide_eq_false (by omega)
  have c1 : ∀ W, LaidA W → Calls Tryd.prog 9 #[.string (bs l)] W (fun e w' => e = .returned (.tuple #[.agg #[.int .i64 0, .int .i64 0, .int .i64 0, .int .i64 0], .bool false]) ∧ Below W.heap.size W w') := fun W hW => by
    have := parse_w l W (by omega) hW
    rw [hp] at this
    exact this
  have c4 : ∀ W, LaidA W → Calls Tryd.prog 10 #[.agg #[.int .i64 a, .int .i64 b, .int .i64 c, .int .i64 d]] W (fun e w' => e = .returned (.string { data := #[] }) ∧ Below W.heap.size W w') := fun W hW => by
    have := write_any ⟨a, b, c, d⟩ W hv hW.i
    rw [write_bad hok] at this
    exact this
  have c5 : ∀ W, LaidA W → Calls Tryd.prog 9 #[.string { data := #[] }] W (fun e w' => e = .returned (.tuple #[.agg #[.int .i64 0, .int .i64 0, .int .i64 0, .int .i64 0], .bool false]) ∧ Below W.heap.size W w') := fun W hW => by
    have := parse_w [] W (by decide) hW
    rw [parse_nilW] at this
    exact this
  have c6 : ∀ W, LaidA W → Calls Tryd.prog 9 #[.string { data := #[32] }] W (fun e w' => e = .returned (.tuple #[.agg #[.int .i64 0, .int .i64 0, .int .i64 0, .int .i64 0], .bool false]) ∧ Below W.heap.size W w') := fun W hW => by
    have := parse_w [32] W (by decide) hW
    rw [show parseW [32] = none from by have h1 := parse_more ⟨a, b, c, d⟩; rw [write_bad hok] at h1; exact h1] at this
    exact this
  have c7 : ∀ W, Calls Tryd.prog 11 #[.agg #[.int .i64 a, .int .i64 b, .int .i64 c, .int .i64 d]] W (BoolPost W false) := fun W => by
    have := valid_any ⟨a, b, c, d⟩ W
    rw [decide_eq_false hok] at this
    exact this
  have e1 : (⟨#[]⟩ : ByteArray) ++ (⟨#[32]⟩ : ByteArray) = ⟨#[32]⟩ := bs_append [] [32]
  clear h hp hok
  go_enter Tryd.func3, Tryd.ntmps3
  go_wp2_with fail
  have hb0 := B0.out
  (with_reducible refine Calls.mono (cs _ (hL.below hb0)) ?_)
  rintro e w1 ⟨rfl, hbx⟩
  replace G1 := Lib.hid (keep_blk hbx G1.out)
  have hb1 := hb0.trans (hbx.mono hb0.size)
  clear hbx cs hb0 B0
  obtain ⟨pG10, pG11, pG12, pG13⟩ := fourT G1.out
  go_wp2_with fail
  (with_reducible refine Calls.mono (c1 _ (hL.below hb1)) ?_)
  rintro e w2 ⟨rfl, hbx⟩
  clear pG10 pG11 pG12 pG13
  replace G1 := Lib.hid (keep_blk hbx G1.out)
  have hb2 := hb1.trans (hbx.mono hb1.size)
  clear hbx hb1
  replace G1 := Lib.hid (((Below.heap_alloc _ (.cells #[.int .i64 0, .int .i64 0, .int .i64 0, .int .i64 0] 23) _ (Array.getElem?_eq_some_iff.1 G1.out).1)).trans G1.out)
  have G2 := Lib.hid (heap_alloc_new w2 (.cells #[.int .i64 0, .int .i64 0, .int .i64 0, .int .i64 0] 23))
  have hc2 := hb2.alloc hb2.size (.cells #[.int .i64 0, .int .i64 0, .int .i64 0, .int .i64 0] 23)
  clear hb2
  obtain ⟨pG10, pG11, pG12, pG13⟩ := fourT G1.out
  obtain ⟨pG20, pG21, pG22, pG23⟩ := fourT G2.out
  go_wp2_with fail
  (with_reducible refine Calls.mono (c4 _ (hL.below hc2)) ?_)
  rintro e w3 ⟨rfl, hbx⟩
  clear pG10 pG11 pG12 pG13 pG20 pG21 pG22 pG23
  replace G1 := Lib.hid (keep_blk hbx G1.out)
  replace G2 := Lib.hid (keep_blk hbx G2.out)
  have hb3 := hc2.trans (hbx.mono hc2.size)
  clear hbx hc2
  obtain ⟨pG10, pG11, pG12, pG13⟩ := fourT G1.out
  obtain ⟨pG20, pG21, pG22, pG23⟩ := fourT G2.out
  go_wp2_with fail
  (with_reducible refine Calls.mono (c5 _ (hL.below hb3)) ?_)
  rintro e w4 ⟨rfl, hbx⟩
  clear pG10 pG11 pG12 pG13 pG20 pG21 pG22 pG23
  replace G1 := Lib.hid (keep_blk hbx G1.out)
  replace G2 := Lib.hid (keep_blk hbx G2.out)
  have hb4 := hb3.trans (hbx.mono hb3.size)
  clear hbx hb3
  replace G1 := Lib.hid (((Below.heap_alloc _ (.cells #[.int .i64 0, .int .i64 0, .int .i64 0, .int .i64 0] 23) _ (Array.getElem?_eq_some_iff.1 G1.out).1)).trans G1.out)
  replace G2 := Lib.hid (((Below.heap_alloc _ (.cells #[.int .i64 0, .int .i64 0, .int .i64 0, .int .i64 0] 23) _ (Array.getElem?_eq_some_iff.1 G2.out).1)).trans G2.out)
  have G3 := Lib.hid (heap_alloc_new w4 (.cells #[.int .i64 0, .int .i64 0, .int .i64 0, .int .i64 0] 23))
  have hc4 := hb4.alloc hb4.size (.cells #[.int .i64 0, .int .i64 0, .int .i64 0, .int .i64 0] 23)
  clear hb4
  obtain ⟨pG10, pG11, pG12, pG13⟩ := fourT G1.out
  obtain ⟨pG20, pG21, pG22, pG23⟩ := fourT G2.out
  obtain ⟨pG30, pG31, pG32, pG33⟩ := fourT G3.out
  go_wp2_with fail
  (with_reducible refine Calls.mono (c6 _ (hL.below hc4)) ?_)
  rintro e w5 ⟨rfl, hbx⟩
  clear pG10 pG11 pG12 pG13 pG20 pG21 pG22 pG23 pG30 pG31 pG32 pG33
  replace G1 := Lib.hid (keep_blk hbx G1.out)
  replace G2 := Lib.hid (keep_blk hbx G2.out)
  replace G3 := Lib.hid (keep_blk hbx G3.out)
  have hb5 := hc4.trans (hbx.mono hc4.size)
  clear hbx hc4
  replace G1 := Lib.hid (((Below.heap_alloc _ (.cells #[.int .i64 0, .int .i64 0, .int .i64 0, .int .i64 0] 23) _ (Array.getElem?_eq_some_iff.1 G1.out).1)).trans G1.out)
  replace G2 := Lib.hid (((Below.heap_alloc _ (.cells #[.int .i64 0, .int .i64 0, .int .i64 0, .int .i64 0] 23) _ (Array.getElem?_eq_some_iff.1 G2.out).1)).trans G2.out)
  replace G3 := Lib.hid (((Below.heap_alloc _ (.cells #[.int .i64 0, .int .i64 0, .int .i64 0, .int .i64 0] 23) _ (Array.getElem?_eq_some_iff.1 G3.out).1)).trans G3.out)
  have G4 := Lib.hid (heap_alloc_new w5 (.cells #[.int .i64 0, .int .i64 0, .int .i64 0, .int .i64 0] 23))
  have hc5 := hb5.alloc hb5.size (.cells #[.int .i64 0, .int .i64 0, .int .i64 0, .int .i64 0] 23)
  clear hb5
  obtain ⟨pG10, pG11, pG12, pG13⟩ := fourT G1.out
  obtain ⟨pG20, pG21, pG22, pG23⟩ := fourT G2.out
  obtain ⟨pG30, pG31, pG32, pG33⟩ := fourT G3.out
  obtain ⟨pG40, pG41, pG42, pG43⟩ := fourT G4.out
  go_wp2_with fail
  (with_reducible refine Calls.mono (c7 _) ?_)
  rintro e w6 ⟨rfl, hbx⟩
  clear pG10 pG11 pG12 pG13 pG20 pG21 pG22 pG23 pG30 pG31 pG32 pG33 pG40 pG41 pG42 pG43
  replace G1 := Lib.hid (keep_blk hbx G1.out)
  replace G2 := Lib.hid (keep_blk hbx G2.out)
  replace G3 := Lib.hid (keep_blk hbx G3.out)
  replace G4 := Lib.hid (keep_blk hbx G4.out)
  have hb6 := hc5.trans (hbx.mono hc5.size)
  clear hbx hc5
  obtain ⟨pG10, pG11, pG12, pG13⟩ := fourT G1.out
  obtain ⟨pG20, pG21, pG22, pG23⟩ := fourT G2.out
  obtain ⟨pG30, pG31, pG32, pG33⟩ := fourT G3.out
  obtain ⟨pG40, pG41, pG42, pG43⟩ := fourT G4.out
  go_wp2_with fail
  (with_reducible refine Calls.mono (c7 _) ?_)
  rintro e w7 ⟨rfl, hbx⟩
  clear pG10 pG11 pG12 pG13 pG20 pG21 pG22 pG23 pG30 pG31 pG32 pG33 pG40 pG41 pG42 pG43
  replace G1 := Lib.hid (keep_blk hbx G1.out)
  replace G2 := Lib.hid (keep_blk hbx G2.out)
  replace G3 := Lib.hid (keep_blk hbx G3.out)
  replace G4 := Lib.hid (keep_blk hbx G4.out)
  have hb7 := hb6.trans (hbx.mono hb6.size)
  clear hbx hb6
  obtain ⟨pG10, pG11, pG12, pG13⟩ := fourT G1.out
  obtain ⟨pG20, pG21, pG22, pG23⟩ := fourT G2.out
  obtain ⟨pG30, pG31, pG32, pG33⟩ := fourT G3.out
  obtain ⟨pG40, pG41, pG42, pG43⟩ := fourT G4.out
  go_wp2
  go_ret
  exact ⟨rfl, hb7⟩
set_option maxRecDepth 100000 in
set_option maxHeartbeats 2000000 in
theorem reads_01 (a b c d : Int) (l : List UInt8) (w : World) (hv : (⟨a, b, c, d⟩ : Wts).Wf) (hl : l.length ≤ 281474976710656) (h : ¬ 1000 < l.length) (hp : parseW l = none) (hok : (⟨a, b, c, d⟩ : Wts).Ok) (hL : LaidA w) : Calls Tryd.prog 3 #[.agg #[.int .i64 a, .int .i64 b, .int .i64 c, .int .i64 d], .string (bs l)] w (BoolPost w true) := by
  have cs := fun W hW => small_any W hW
  have hs := bs_size l
  have hA0 : (w.alloc (.cells #[.int .i64 a, .int .i64 b, .int .i64 c, .int .i64 d] 23)).heap[w.heap.size]? = some (.cells #[.int .i64 a, .int .i64 b, .int .i64 c, .int .i64 d] 23 (0, 0)) := heap_alloc_new _ _
  have hb0 : Below w.heap.size w (w.alloc (.cells #[.int .i64 a, .int .i64 b, .int .i64 c, .int .i64 d] 23)) := (Below.refl _ _).alloc (Nat.le_refl _) _
  have G1 := Lib.hid hA0
  have B0 := Lib.hid hb0
  clear hA0 hb0
  have d1 : decide (1000 < (l.length : Int)) = false := decide_eq_false (by omega)
  have c1 : ∀ W, LaidA W → Calls Tryd.prog 9 #[.string (bs l)] W (fun e w' => e = .returned (.tuple #[.agg #[.int .i64 0, .int .i64 0, .int .i64 0, .int .i64 0], .bool false]) ∧ Below W.heap.size W w') := fun W hW => by
    have := parse_w l W (by omega) hW
    rw [hp] at this
    exact this
  have hTl := writeB_length ⟨a, b, c, d⟩ hok.wf
  have c4 : ∀ W, LaidA W → Calls Tryd.prog 10 #[.agg #[.int .i64 a, .int .i64 b, .int .i64 c, .int .i64 d]] W (StrPost W (writeB ⟨a, b, c, d⟩)) := fun W hW => write_any ⟨a, b, c, d⟩ W hv hW.i
  have c5 : ∀ W, LaidA W → Calls Tryd.prog 9 #[.string (bs (writeB ⟨a, b, c, d⟩))] W (fun e w' => e = .returned (.tuple #[.agg #[.int .i64 a, .int .i64 b, .int .i64 c, .int .i64 d], .bool true]) ∧ Below W.heap.size W w') := fun W hW => by
    have := parse_w (writeB ⟨a, b, c, d⟩) W (by omega) hW
    rw [parse_write hok] at this
    exact this
  have c6 : ∀ W, LaidA W → Calls Tryd.prog 9 #[.string (bs (writeB ⟨a, b, c, d⟩ ++ [32]))] W (fun e w' => e = .returned (.tuple #[.agg #[.int .i64 0, .int .i64 0, .int .i64 0, .int .i64 0], .bool false]) ∧ Below W.heap.size W w') := fun W hW => by
    have := parse_w (writeB ⟨a, b, c, d⟩ ++ [32]) W (by rw [List.length_append]; simp; omega) hW
    rw [parse_more] at this
    exact this
  have c7 : ∀ W, Calls Tryd.prog 11 #[.agg #[.int .i64 a, .int .i64 b, .int .i64 c, .int .i64 d]] W (BoolPost W true) := fun W => by
    have := valid_any ⟨a, b, c, d⟩ W
    rw [decide_eq_true hok] at this
    exact this
  have e0 := write_ne hok
  generalize writeB ⟨a, b, c, d⟩ = T at *
  have e1 : (bs T) ++ (⟨#[32]⟩ : ByteArray) = bs (T ++ [32]) := bs_append T [32]
  have e2 := bs_size T
  have e3 : ¬ (9223372036854775807 < T.length + 1) := by omega
  have e4 := bs_toList T
  have e5 : (T == []) = false := by cases T with | nil => exact absurd rfl e0 | cons x r => rfl
  have e6 : T.isEmpty = false := by cases T with | nil => exact absurd rfl e0 | cons x r => rfl
  generalize hU : T ++ [32] = U at *
  unfold StrPost at c4
  clear e0 hTl hU
  clear h hp hok
  go_enter Tryd.func3, Tryd.ntmps3
  go_wp2_with fail
  have hb0 := B0.out
  (with_reducible refine Calls.mono (cs _ (hL.below hb0)) ?_)
  rintro e w1 ⟨rfl, hbx⟩
  replace G1 := Lib.hid (keep_blk hbx G1.out)
  have hb1 := hb0.trans (hbx.mono hb0.size)
  clear hbx cs hb0 B0
  obtain ⟨pG10, pG11, pG12, pG13⟩ := fourT G1.out
  go_wp2_with fail
  (with_reducible refine Calls.mono (c1 _ (hL.below hb1)) ?_)
  rintro e w2 ⟨rfl, hbx⟩
  clear pG10 pG11 pG12 pG13
  replace G1 := Lib.hid (keep_blk hbx G1.out)
  have hb2 := hb1.trans (hbx.mono hb1.size)
  clear hbx hb1
  replace G1 := Lib.hid (((Below.heap_alloc _ (.cells #[.int .i64 0, .int .i64 0, .int .i64 0, .int .i64 0] 23) _ (Array.getElem?_eq_some_iff.1 G1.out).1)).trans G1.out)
  have G2 := Lib.hid (heap_alloc_new w2 (.cells #[.int .i64 0, .int .i64 0, .int .i64 0, .int .i64 0] 23))
  have hc2 := hb2.alloc hb2.size (.cells #[.int .i64 0, .int .i64 0, .int .i64 0, .int .i64 0] 23)
  clear hb2
  obtain ⟨pG10, pG11, pG12, pG13⟩ := fourT G1.out
  obtain ⟨pG20, pG21, pG22, pG23⟩ := fourT G2.out
  go_wp2_with fail
  (with_reducible refine Calls.mono (c4 _ (hL.below hc2)) ?_)
  rintro e w3 ⟨rfl, hbx⟩
  clear pG10 pG11 pG12 pG13 pG20 pG21 pG22 pG23
  replace G1 := Lib.hid (keep_blk hbx G1.out)
  replace G2 := Lib.hid (keep_blk hbx G2.out)
  have hb3 := hc2.trans (hbx.mono hc2.size)
  clear hbx hc2
  obtain ⟨pG10, pG11, pG12, pG13⟩ := fourT G1.out
  obtain ⟨pG20, pG21, pG22, pG23⟩ := fourT G2.out
  go_wp2_with fail
  (with_reducible refine Calls.mono (c5 _ (hL.below hb3)) ?_)
  rintro e w4 ⟨rfl, hbx⟩
  clear pG10 pG11 pG12 pG13 pG20 pG21 pG22 pG23
  replace G1 := Lib.hid (keep_blk hbx G1.out)
  replace G2 := Lib.hid (keep_blk hbx G2.out)
  have hb4 := hb3.trans (hbx.mono hb3.size)
  clear hbx hb3
  replace G1 := Lib.hid (((Below.heap_alloc _ (.cells #[.int .i64 a, .int .i64 b, .int .i64 c, .int .i64 d] 23) _ (Array.getElem?_eq_some_iff.1 G1.out).1)).trans G1.out)
  replace G2 := Lib.hid (((Below.heap_alloc _ (.cells #[.int .i64 a, .int .i64 b, .int .i64 c, .int .i64 d] 23) _ (Array.getElem?_eq_some_iff.1 G2.out).1)).trans G2.out)
  have G3 := Lib.hid (heap_alloc_new w4 (.cells #[.int .i64 a, .int .i64 b, .int .i64 c, .int .i64 d] 23))
  have hc4 := hb4.alloc hb4.size (.cells #[.int .i64 a, .int .i64 b, .int .i64 c, .int .i64 d] 23)
  clear hb4
  obtain ⟨pG10, pG11, pG12, pG13⟩ := fourT G1.out
  obtain ⟨pG20, pG21, pG22, pG23⟩ := fourT G2.out
  obtain ⟨pG30, pG31, pG32, pG33⟩ := fourT G3.out
  go_wp2_with fail
  (with_reducible refine Calls.mono (c6 _ (hL.below hc4)) ?_)
  rintro e w5 ⟨rfl, hbx⟩
  clear pG10 pG11 pG12 pG13 pG20 pG21 pG22 pG23 pG30 pG31 pG32 pG33
  replace G1 := Lib.hid (keep_blk hbx G1.out)
  replace G2 := Lib.hid (keep_blk hbx G2.out)
  replace G3 := Lib.hid (keep_blk hbx G3.out)
  have hb5 := hc4.trans (hbx.mono hc4.size)
  clear hbx hc4
  replace G1 := Lib.hid (((Below.heap_alloc _ (.cells #[.int .i64 0, .int .i64 0, .int .i64 0, .int .i64 0] 23) _ (Array.getElem?_eq_some_iff.1 G1.out).1)).trans G1.out)
  replace G2 := Lib.hid (((Below.heap_alloc _ (.cells #[.int .i64 0, .int .i64 0, .int .i64 0, .int .i64 0] 23) _ (Array.getElem?_eq_some_iff.1 G2.out).1)).trans G2.out)
  replace G3 := Lib.hid (((Below.heap_alloc _ (.cells #[.int .i64 0, .int .i64 0, .int .i64 0, .int .i64 0] 23) _ (Array.getElem?_eq_some_iff.1 G3.out).1)).trans G3.out)
  have G4 := Lib.hid (heap_alloc_new w5 (.cells #[.int .i64 0, .int .i64 0, .int .i64 0, .int .i64 0] 23))
  have hc5 := hb5.alloc hb5.size (.cells #[.int .i64 0, .int .i64 0, .int .i64 0, .int .i64 0] 23)
  clear hb5
  obtain ⟨pG10, pG11, pG12, pG13⟩ := fourT G1.out
  obtain ⟨pG20, pG21, pG22, pG23⟩ := fourT G2.out
  obtain ⟨pG30, pG31, pG32, pG33⟩ := fourT G3.out
  obtain ⟨pG40, pG41, pG42, pG43⟩ := fourT G4.out
  go_wp2_with fail
  (with_reducible refine Calls.mono (c7 _) ?_)
  rintro e w6 ⟨rfl, hbx⟩
  clear pG10 pG11 pG12 pG13 pG20 pG21 pG22 pG23 pG30 pG31 pG32 pG33 pG40 pG41 pG42 pG43
  replace G1 := Lib.hid (keep_blk hbx G1.out)
  replace G2 := Lib.hid (keep_blk hbx G2.out)
  replace G3 := Lib.hid (keep_blk hbx G3.out)
  replace G4 := Lib.hid (keep_blk hbx G4.out)
  have hb6 := hc5.trans (hbx.mono hc5.size)
  clear hbx hc5
  obtain ⟨pG10, pG11, pG12, pG13⟩ := fourT G1.out
  obtain ⟨pG20, pG21, pG22, pG23⟩ := fourT G2.out
  obtain ⟨pG30, pG31, pG32, pG33⟩ := fourT G3.out
  obtain ⟨pG40, pG41, pG42, pG43⟩ := fourT G4.out
  go_wp2_with fail
  (with_reducible refine Calls.mono (c7 _) ?_)
  rintro e w7 ⟨rfl, hbx⟩
  clear pG10 pG11 pG12 pG13 pG20 pG21 pG22 pG23 pG30 pG31 pG32 pG33 pG40 pG41 pG42 pG43
  replace G1 := Lib.hid (keep_blk hbx G1.out)
  replace G2 := Lib.hid (keep_blk hbx G2.out)
  replace G3 := Lib.hid (keep_blk hbx G3.out)
  replace G4 := Lib.hid (keep_blk hbx G4.out)
  have hb7 := hb6.trans (hbx.mono hb6.size)
  clear hbx hb6
  obtain ⟨pG10, pG11, pG12, pG13⟩ := fourT G1.out
  obtain ⟨pG20, pG21, pG22, pG23⟩ := fourT G2.out
  obtain ⟨pG30, pG31, pG32, pG33⟩ := fourT G3.out
  obtain ⟨pG40, pG41, pG42, pG43⟩ := fourT G4.out
  go_wp2
  go_ret
  exact ⟨rfl, hb7⟩
set_option maxRecDepth 100000 in
set_option maxHeartbeats 2000000 in
theorem reads_10 (a b c d : Int) (l : List UInt8) (w : World) (hv : (⟨a, b, c, d⟩ : Wts).Wf) (hl : l.length ≤ 281474976710656) (h : ¬ 1000 < l.length) (xa xb xc xd : Int) (hp : parseW l = some ⟨xa, xb, xc, xd⟩) (hok : ¬ (⟨a, b, c, d⟩ : Wts).Ok) (hL : LaidA w) : Calls Tryd.prog 3 #[.agg #[.int .i64 a, .int .i64 b, .int .i64 c, .int .i64 d], .string (bs l)] w (BoolPost w true) := by
  have cs := fun W hW => small_any W hW
  have hs := bs_size l
  have hA0 : (w.alloc (.cells #[.int .i64 a, .int .i64 b, .int .i64 c, .int .i64 d] 23)).heap[w.heap.size]? = some (.cells #[.int .i64 a, .int .i64 b, .int .i64 c, .int .i64 d] 23 (0, 0)) := heap_alloc_new _ _
  have hb0 : Below w.heap.size w (w.alloc (.cells #[.int .i64 a, .int .i64 b, .int .i64 c, .int .i64 d] 23)) := (Below.refl _ _).alloc (Nat.le_refl _) _
  have G1 := Lib.hid hA0
  have B0 := Lib.hid hb0
  clear hA0 hb0
  have d1 : decide (1000 < (l.length : Int)) = false := decide_eq_false (by omega)
  have c1 : ∀ W, LaidA W → Calls Tryd.prog 9 #[.string (bs l)] W (fun e w' => e = .returned (.tuple #[.agg #[.int .i64 xa, .int .i64 xb, .int .i64 xc, .int .i64 xd], .bool true]) ∧ Below W.heap.size W w') := fun W hW => by
    have := parse_w l W (by omega) hW
    rw [hp] at this
    exact this
  obtain ⟨hw, hxo⟩ := of_parseW hp
  have c2 : ∀ W, LaidA W → Calls Tryd.prog 10 #[.agg #[.int .i64 xa, .int .i64 xb, .int .i64 xc, .int .i64 xd]] W (StrPost W l) := fun W hW => by
    have := write_any ⟨xa, xb, xc, xd⟩ W hxo.wf hW.i
    rw [hw] at this
    exact this
  have c3 : ∀ W, Calls Tryd.prog 11 #[.agg #[.int .i64 xa, .int .i64 xb, .int .i64 xc, .int .i64 xd]] W (BoolPost W true) := fun W => by
    have := valid_any ⟨xa, xb, xc, xd⟩ W
    rw [decide_eq_true hxo] at this
    exact this
  have t1 : ((bs l).toList == (bs l).toList) = true := by simp
  have t2 := bs_toList l
  have t3 : (l == l) = true := by simp
  clear hw hxo
  have c4 : ∀ W, LaidA W → Calls Tryd.prog 10 #[.agg #[.int .i64 a, .int .i64 b, .int .i64 c, .int .i64 d]] W (fun e w' => e = .returned (.string { data := #[] }) ∧ Below W.heap.size W w') := fun W hW => by
    have := write_any ⟨a, b, c, d⟩ W hv hW.i
    rw [write_bad hok] at this
    exact this
  have c5 : ∀ W, LaidA W → Calls Tryd.prog 9 #[.string { data := #[] }] W (fun e w' => e = .returned (.tuple #[.agg #[.int .i64 0, .int .i64 0, .int .i64 0, .int .i64 0], .bool false]) ∧ Below W.heap.size W w') := fun W hW => by
    have := parse_w [] W (by decide) hW
    rw [parse_nilW] at this
    exact this
  have c6 : ∀ W, LaidA W → Calls Tryd.prog 9 #[.string { data := #[32] }] W (fun e w' => e = .returned (.tuple #[.agg #[.int .i64 0, .int .i64 0, .int .i64 0, .int .i64 0], .bool false]) ∧ Below W.heap.size W w') := fun W hW => by
    have := parse_w [32] W (by decide) hW
    rw [show parseW [32] = none from by have h1 := parse_more ⟨a, b, c, d⟩; rw [write_bad hok] at h1; exact h1] at this
    exact this
  have c7 : ∀ W, Calls Tryd.prog 11 #[.agg #[.int .i64 a, .int .i64 b, .int .i64 c, .int .i64 d]] W (BoolPost W false) := fun W => by
    have := valid_any ⟨a, b, c, d⟩ W
    rw [decide_eq_false hok] at this
    exact this
  have e1 : (⟨#[]⟩ : ByteArray) ++ (⟨#[32]⟩ : ByteArray) = ⟨#[32]⟩ := bs_append [] [32]
  unfold StrPost at c2
  clear h hp hok
  go_enter Tryd.func3, Tryd.ntmps3
  go_wp2_with fail
  have hb0 := B0.out
  (with_reducible refine Calls.mono (cs _ (hL.below hb0)) ?_)
  rintro e w1 ⟨rfl, hbx⟩
  replace G1 := Lib.hid (keep_blk hbx G1.out)
  have hb1 := hb0.trans (hbx.mono hb0.size)
  clear hbx cs hb0 B0
  obtain ⟨pG10, pG11, pG12, pG13⟩ := fourT G1.out
  go_wp2_with fail
  (with_reducible refine Calls.mono (c1 _ (hL.below hb1)) ?_)
  rintro e w2 ⟨rfl, hbx⟩
  clear pG10 pG11 pG12 pG13
  replace G1 := Lib.hid (keep_blk hbx G1.out)
  have hb2 := hb1.trans (hbx.mono hb1.size)
  clear hbx hb1
  replace G1 := Lib.hid (((Below.heap_alloc _ (.cells #[.int .i64 xa, .int .i64 xb, .int .i64 xc, .int .i64 xd] 23) _ (Array.getElem?_eq_some_iff.1 G1.out).1)).trans G1.out)
  have G2 := Lib.hid (heap_alloc_new w2 (.cells #[.int .i64 xa, .int .i64 xb, .int .i64 xc, .int .i64 xd] 23))
  have hc2 := hb2.alloc hb2.size (.cells #[.int .i64 xa, .int .i64 xb, .int .i64 xc, .int .i64 xd] 23)
  clear hb2
  obtain ⟨pG10, pG11, pG12, pG13⟩ := fourT G1.out
  obtain ⟨pG20, pG21, pG22, pG23⟩ := fourT G2.out
  go_wp2_with fail
  (with_reducible refine Calls.mono (c2 _ (hL.below hc2)) ?_)
  rintro e w3 ⟨rfl, hbx⟩
  clear pG10 pG11 pG12 pG13 pG20 pG21 pG22 pG23
  replace G1 := Lib.hid (keep_blk hbx G1.out)
  replace G2 := Lib.hid (keep_blk hbx G2.out)
  have hb3 := hc2.trans (hbx.mono hc2.size)
  clear hbx hc2
  obtain ⟨pG10, pG11, pG12, pG13⟩ := fourT G1.out
  obtain ⟨pG20, pG21, pG22, pG23⟩ := fourT G2.out
  go_wp2_with fail
  (with_reducible refine Calls.mono (c3 _) ?_)
  rintro e w4 ⟨rfl, hbx⟩
  clear pG10 pG11 pG12 pG13 pG20 pG21 pG22 pG23
  replace G1 := Lib.hid (keep_blk hbx G1.out)
  replace G2 := Lib.hid (keep_blk hbx G2.out)
  have hb4 := hb3.trans (hbx.mono hb3.size)
  clear hbx hb3
  obtain ⟨pG10, pG11, pG12, pG13⟩ := fourT G1.out
  obtain ⟨pG20, pG21, pG22, pG23⟩ := fourT G2.out
  go_wp2_with fail
  (with_reducible refine Calls.mono (c4 _ (hL.below hb4)) ?_)
  rintro e w5 ⟨rfl, hbx⟩
  clear pG10 pG11 pG12 pG13 pG20 pG21 pG22 pG23
  replace G1 := Lib.hid (keep_blk hbx G1.out)
  replace G2 := Lib.hid (keep_blk hbx G2.out)
  have hb5 := hb4.trans (hbx.mono hb4.size)
  clear hbx hb4
  obtain ⟨pG10, pG11, pG12, pG13⟩ := fourT G1.out
  obtain ⟨pG20, pG21, pG22, pG23⟩ := fourT G2.out
  go_wp2_with fail
  (with_reducible refine Calls.mono (c5 _ (hL.below hb5)) ?_)
  rintro e w6 ⟨rfl, hbx⟩
  clear pG10 pG11 pG12 pG13 pG20 pG21 pG22 pG23
  replace G1 := Lib.hid (keep_blk hbx G1.out)
  replace G2 := Lib.hid (keep_blk hbx G2.out)
  have hb6 := hb5.trans (hbx.mono hb5.size)
  clear hbx hb5
  replace G1 := Lib.hid (((Below.heap_alloc _ (.cells #[.int .i64 0, .int .i64 0, .int .i64 0, .int .i64 0] 23) _ (Array.getElem?_eq_some_iff.1 G1.out).1)).trans G1.out)
  replace G2 := Lib.hid (((Below.heap_alloc _ (.cells #[.int .i64 0, .int .i64 0, .int .i64 0, .int .i64 0] 23) _ (Array.getElem?_eq_some_iff.1 G2.out).1)).trans G2.out)
  have G3 := Lib.hid (heap_alloc_new w6 (.cells #[.int .i64 0, .int .i64 0, .int .i64 0, .int .i64 0] 23))
  have hc6 := hb6.alloc hb6.size (.cells #[.int .i64 0, .int .i64 0, .int .i64 0, .int .i64 0] 23)
  clear hb6
  obtain ⟨pG10, pG11, pG12, pG13⟩ := fourT G1.out
  obtain ⟨pG20, pG21, pG22, pG23⟩ := fourT G2.out
  obtain ⟨pG30, pG31, pG32, pG33⟩ := fourT G3.out
  go_wp2_with fail
  (with_reducible refine Calls.mono (c6 _ (hL.below hc6)) ?_)
  rintro e w7 ⟨rfl, hbx⟩
  clear pG10 pG11 pG12 pG13 pG20 pG21 pG22 pG23 pG30 pG31 pG32 pG33
  replace G1 := Lib.hid (keep_blk hbx G1.out)
  replace G2 := Lib.hid (keep_blk hbx G2.out)
  replace G3 := Lib.hid (keep_blk hbx G3.out)
  have hb7 := hc6.trans (hbx.mono hc6.size)
  clear hbx hc6
  replace G1 := Lib.hid (((Below.heap_alloc _ (.cells #[.int .i64 0, .int .i64 0, .int .i64 0, .int .i64 0] 23) _ (Array.getElem?_eq_some_iff.1 G1.out).1)).trans G1.out)
  replace G2 := Lib.hid (((Below.heap_alloc _ (.cells #[.int .i64 0, .int .i64 0, .int .i64 0, .int .i64 0] 23) _ (Array.getElem?_eq_some_iff.1 G2.out).1)).trans G2.out)
  replace G3 := Lib.hid (((Below.heap_alloc _ (.cells #[.int .i64 0, .int .i64 0, .int .i64 0, .int .i64 0] 23) _ (Array.getElem?_eq_some_iff.1 G3.out).1)).trans G3.out)
  have G4 := Lib.hid (heap_alloc_new w7 (.cells #[.int .i64 0, .int .i64 0, .int .i64 0, .int .i64 0] 23))
  have hc7 := hb7.alloc hb7.size (.cells #[.int .i64 0, .int .i64 0, .int .i64 0, .int .i64 0] 23)
  clear hb7
  obtain ⟨pG10, pG11, pG12, pG13⟩ := fourT G1.out
  obtain ⟨pG20, pG21, pG22, pG23⟩ := fourT G2.out
  obtain ⟨pG30, pG31, pG32, pG33⟩ := fourT G3.out
  obtain ⟨pG40, pG41, pG42, pG43⟩ := fourT G4.out
  go_wp2_with fail
  (with_reducible refine Calls.mono (c7 _) ?_)
  rintro e w8 ⟨rfl, hbx⟩
  clear pG10 pG11 pG12 pG13 pG20 pG21 pG22 pG23 pG30 pG31 pG32 pG33 pG40 pG41 pG42 pG43
  replace G1 := Lib.hid (keep_blk hbx G1.out)
  replace G2 := Lib.hid (keep_blk hbx G2.out)
  replace G3 := Lib.hid (keep_blk hbx G3.out)
  replace G4 := Lib.hid (keep_blk hbx G4.out)
  have hb8 := hc7.trans (hbx.mono hc7.size)
  clear hbx hc7
  obtain ⟨pG10, pG11, pG12, pG13⟩ := fourT G1.out
  obtain ⟨pG20, pG21, pG22, pG23⟩ := fourT G2.out
  obtain ⟨pG30, pG31, pG32, pG33⟩ := fourT G3.out
  obtain ⟨pG40, pG41, pG42, pG43⟩ := fourT G4.out
  go_wp2_with fail
  (with_reducible refine Calls.mono (c7 _) ?_)
  rintro e w9 ⟨rfl, hbx⟩
  clear pG10 pG11 pG12 pG13 pG20 pG21 pG22 pG23 pG30 pG31 pG32 pG33 pG40 pG41 pG42 pG43
  replace G1 := Lib.hid (keep_blk hbx G1.out)
  replace G2 := Lib.hid (keep_blk hbx G2.out)
  replace G3 := Lib.hid (keep_blk hbx G3.out)
  replace G4 := Lib.hid (keep_blk hbx G4.out)
  have hb9 := hb8.trans (hbx.mono hb8.size)
  clear hbx hb8
  obtain ⟨pG10, pG11, pG12, pG13⟩ := fourT G1.out
  obtain ⟨pG20, pG21, pG22, pG23⟩ := fourT G2.out
  obtain ⟨pG30, pG31, pG32, pG33⟩ := fourT G3.out
  obtain ⟨pG40, pG41, pG42, pG43⟩ := fourT G4.out
  go_wp2
  go_ret
  exact ⟨rfl, hb9⟩
set_option maxRecDepth 100000 in
set_option maxHeartbeats 2000000 in
theorem reads_11 (a b c d : Int) (l : List UInt8) (w : World) (hv : (⟨a, b, c, d⟩ : Wts).Wf) (hl : l.length ≤ 281474976710656) (h : ¬ 1000 < l.length) (xa xb xc xd : Int) (hp : parseW l = some ⟨xa, xb, xc, xd⟩) (hok : (⟨a, b, c, d⟩ : Wts).Ok) (hL : LaidA w) : Calls Tryd.prog 3 #[.agg #[.int .i64 a, .int .i64 b, .int .i64 c, .int .i64 d], .string (bs l)] w (BoolPost w true) := by
  have cs := fun W hW => small_any W hW
  have hs := bs_size l
  have hA0 : (w.alloc (.cells #[.int .i64 a, .int .i64 b, .int .i64 c, .int .i64 d] 23)).heap[w.heap.size]? = some (.cells #[.int .i64 a, .int .i64 b, .int .i64 c, .int .i64 d] 23 (0, 0)) := heap_alloc_new _ _
  have hb0 : Below w.heap.size w (w.alloc (.cells #[.int .i64 a, .int .i64 b, .int .i64 c, .int .i64 d] 23)) := (Below.refl _ _).alloc (Nat.le_refl _) _
  have G1 := Lib.hid hA0
  have B0 := Lib.hid hb0
  clear hA0 hb0
  have d1 : decide (1000 < (l.length : Int)) = false := decide_eq_false (by omega)
  have c1 : ∀ W, LaidA W → Calls Tryd.prog 9 #[.string (bs l)] W (fun e w' => e = .returned (.tuple #[.agg #[.int .i64 xa, .int .i64 xb, .int .i64 xc, .int .i64 xd], .bool true]) ∧ Below W.heap.size W w') := fun W hW => by
    have := parse_w l W (by omega) hW
    rw [hp] at this
    exact this
  obtain ⟨hw, hxo⟩ := of_parseW hp
  have c2 : ∀ W, LaidA W → Calls Tryd.prog 10 #[.agg #[.int .i64 xa, .int .i64 xb, .int .i64 xc, .int .i64 xd]] W (StrPost W l) := fun W hW => by
    have := write_any ⟨xa, xb, xc, xd⟩ W hxo.wf hW.i
    rw [hw] at this
    exact this
  have c3 : ∀ W, Calls Tryd.prog 11 #[.agg #[.int .i64 xa, .int .i64 xb, .int .i64 xc, .int .i64 xd]] W (BoolPost W true) := fun W => by
    have := valid_any ⟨xa, xb, xc, xd⟩ W
    rw [decide_eq_true hxo] at this
    exact this
  have t1 : ((bs l).toList == (bs l).toList) = true := by simp
  have t2 := bs_toList l
  have t3 : (l == l) = true := by simp
  clear hw hxo
  have hTl := writeB_length ⟨a, b, c, d⟩ hok.wf
  have c4 : ∀ W, LaidA W → Calls Tryd.prog 10 #[.agg #[.int .i64 a, .int .i64 b, .int .i64 c, .int .i64 d]] W (StrPost W (writeB ⟨a, b, c, d⟩)) := fun W hW => write_any ⟨a, b, c, d⟩ W hv hW.i
  have c5 : ∀ W, LaidA W → Calls Tryd.prog 9 #[.string (bs (writeB ⟨a, b, c, d⟩))] W (fun e w' => e = .returned (.tuple #[.agg #[.int .i64 a, .int .i64 b, .int .i64 c, .int .i64 d], .bool true]) ∧ Below W.heap.size W w') := fun W hW => by
    have := parse_w (writeB ⟨a, b, c, d⟩) W (by omega) hW
    rw [parse_write hok] at this
    exact this
  have c6 : ∀ W, LaidA W → Calls Tryd.prog 9 #[.string (bs (writeB ⟨a, b, c, d⟩ ++ [32]))] W (fun e w' => e = .returned (.tuple #[.agg #[.int .i64 0, .int .i64 0, .int .i64 0, .int .i64 0], .bool false]) ∧ Below W.heap.size W w') := fun W hW => by
    have := parse_w (writeB ⟨a, b, c, d⟩ ++ [32]) W (by rw [List.length_append]; simp; omega) hW
    rw [parse_more] at this
    exact this
  have c7 : ∀ W, Calls Tryd.prog 11 #[.agg #[.int .i64 a, .int .i64 b, .int .i64 c, .int .i64 d]] W (BoolPost W true) := fun W => by
    have := valid_any ⟨a, b, c, d⟩ W
    rw [decide_eq_true hok] at this
    exact this
  have e0 := write_ne hok
  generalize writeB ⟨a, b, c, d⟩ = T at *
  have e1 : (bs T) ++ (⟨#[32]⟩ : ByteArray) = bs (T ++ [32]) := bs_append T [32]
  have e2 := bs_size T
  have e3 : ¬ (9223372036854775807 < T.length + 1) := by omega
  have e4 := bs_toList T
  have e5 : (T == []) = false := by cases T with | nil => exact absurd rfl e0 | cons x r => rfl
  have e6 : T.isEmpty = false := by cases T with | nil => exact absurd rfl e0 | cons x r => rfl
  generalize hU : T ++ [32] = U at *
  unfold StrPost at c4
  clear e0 hTl hU
  unfold StrPost at c2
  clear h hp hok
  go_enter Tryd.func3, Tryd.ntmps3
  go_wp2_with fail
  have hb0 := B0.out
  (with_reducible refine Calls.mono (cs _ (hL.below hb0)) ?_)
  rintro e w1 ⟨rfl, hbx⟩
  replace G1 := Lib.hid (keep_blk hbx G1.out)
  have hb1 := hb0.trans (hbx.mono hb0.size)
  clear hbx cs hb0 B0
  obtain ⟨pG10, pG11, pG12, pG13⟩ := fourT G1.out
  go_wp2_with fail
  (with_reducible refine Calls.mono (c1 _ (hL.below hb1)) ?_)
  rintro e w2 ⟨rfl, hbx⟩
  clear pG10 pG11 pG12 pG13
  replace G1 := Lib.hid (keep_blk hbx G1.out)
  have hb2 := hb1.trans (hbx.mono hb1.size)
  clear hbx hb1
  replace G1 := Lib.hid (((Below.heap_alloc _ (.cells #[.int .i64 xa, .int .i64 xb, .int .i64 xc, .int .i64 xd] 23) _ (Array.getElem?_eq_some_iff.1 G1.out).1)).trans G1.out)
  have G2 := Lib.hid (heap_alloc_new w2 (.cells #[.int .i64 xa, .int .i64 xb, .int .i64 xc, .int .i64 xd] 23))
  have hc2 := hb2.alloc hb2.size (.cells #[.int .i64 xa, .int .i64 xb, .int .i64 xc, .int .i64 xd] 23)
  clear hb2
  obtain ⟨pG10, pG11, pG12, pG13⟩ := fourT G1.out
  obtain ⟨pG20, pG21, pG22, pG23⟩ := fourT G2.out
  go_wp2_with fail
  (with_reducible refine Calls.mono (c2 _ (hL.below hc2)) ?_)
  rintro e w3 ⟨rfl, hbx⟩
  clear pG10 pG11 pG12 pG13 pG20 pG21 pG22 pG23
  replace G1 := Lib.hid (keep_blk hbx G1.out)
  replace G2 := Lib.hid (keep_blk hbx G2.out)
  have hb3 := hc2.trans (hbx.mono hc2.size)
  clear hbx hc2
  obtain ⟨pG10, pG11, pG12, pG13⟩ := fourT G1.out
  obtain ⟨pG20, pG21, pG22, pG23⟩ := fourT G2.out
  go_wp2_with fail
  (with_reducible refine Calls.mono (c3 _) ?_)
  rintro e w4 ⟨rfl, hbx⟩
  clear pG10 pG11 pG12 pG13 pG20 pG21 pG22 pG23
  replace G1 := Lib.hid (keep_blk hbx G1.out)
  replace G2 := Lib.hid (keep_blk hbx G2.out)
  have hb4 := hb3.trans (hbx.mono hb3.size)
  clear hbx hb3
  obtain ⟨pG10, pG11, pG12, pG13⟩ := fourT G1.out
  obtain ⟨pG20, pG21, pG22, pG23⟩ := fourT G2.out
  go_wp2_with fail
  (with_reducible refine Calls.mono (c4 _ (hL.below hb4)) ?_)
  rintro e w5 ⟨rfl, hbx⟩
  clear pG10 pG11 pG12 pG13 pG20 pG21 pG22 pG23
  replace G1 := Lib.hid (keep_blk hbx G1.out)
  replace G2 := Lib.hid (keep_blk hbx G2.out)
  have hb5 := hb4.trans (hbx.mono hb4.size)
  clear hbx hb4
  obtain ⟨pG10, pG11, pG12, pG13⟩ := fourT G1.out
  obtain ⟨pG20, pG21, pG22, pG23⟩ := fourT G2.out
  go_wp2_with fail
  (with_reducible refine Calls.mono (c5 _ (hL.below hb5)) ?_)
  rintro e w6 ⟨rfl, hbx⟩
  clear pG10 pG11 pG12 pG13 pG20 pG21 pG22 pG23
  replace G1 := Lib.hid (keep_blk hbx G1.out)
  replace G2 := Lib.hid (keep_blk hbx G2.out)
  have hb6 := hb5.trans (hbx.mono hb5.size)
  clear hbx hb5
  replace G1 := Lib.hid (((Below.heap_alloc _ (.cells #[.int .i64 a, .int .i64 b, .int .i64 c, .int .i64 d] 23) _ (Array.getElem?_eq_some_iff.1 G1.out).1)).trans G1.out)
  replace G2 := Lib.hid (((Below.heap_alloc _ (.cells #[.int .i64 a, .int .i64 b, .int .i64 c, .int .i64 d] 23) _ (Array.getElem?_eq_some_iff.1 G2.out).1)).trans G2.out)
  have G3 := Lib.hid (heap_alloc_new w6 (.cells #[.int .i64 a, .int .i64 b, .int .i64 c, .int .i64 d] 23))
  have hc6 := hb6.alloc hb6.size (.cells #[.int .i64 a, .int .i64 b, .int .i64 c, .int .i64 d] 23)
  clear hb6
  obtain ⟨pG10, pG11, pG12, pG13⟩ := fourT G1.out
  obtain ⟨pG20, pG21, pG22, pG23⟩ := fourT G2.out
  obtain ⟨pG30, pG31, pG32, pG33⟩ := fourT G3.out
  go_wp2_with fail
  (with_reducible refine Calls.mono (c6 _ (hL.below hc6)) ?_)
  rintro e w7 ⟨rfl, hbx⟩
  clear pG10 pG11 pG12 pG13 pG20 pG21 pG22 pG23 pG30 pG31 pG32 pG33
  replace G1 := Lib.hid (keep_blk hbx G1.out)
  replace G2 := Lib.hid (keep_blk hbx G2.out)
  replace G3 := Lib.hid (keep_blk hbx G3.out)
  have hb7 := hc6.trans (hbx.mono hc6.size)
  clear hbx hc6
  replace G1 := Lib.hid (((Below.heap_alloc _ (.cells #[.int .i64 0, .int .i64 0, .int .i64 0, .int .i64 0] 23) _ (Array.getElem?_eq_some_iff.1 G1.out).1)).trans G1.out)
  replace G2 := Lib.hid (((Below.heap_alloc _ (.cells #[.int .i64 0, .int .i64 0, .int .i64 0, .int .i64 0] 23) _ (Array.getElem?_eq_some_iff.1 G2.out).1)).trans G2.out)
  replace G3 := Lib.hid (((Below.heap_alloc _ (.cells #[.int .i64 0, .int .i64 0, .int .i64 0, .int .i64 0] 23) _ (Array.getElem?_eq_some_iff.1 G3.out).1)).trans G3.out)
  have G4 := Lib.hid (heap_alloc_new w7 (.cells #[.int .i64 0, .int .i64 0, .int .i64 0, .int .i64 0] 23))
  have hc7 := hb7.alloc hb7.size (.cells #[.int .i64 0, .int .i64 0, .int .i64 0, .int .i64 0] 23)
  clear hb7
  obtain ⟨pG10, pG11, pG12, pG13⟩ := fourT G1.out
  obtain ⟨pG20, pG21, pG22, pG23⟩ := fourT G2.out
  obtain ⟨pG30, pG31, pG32, pG33⟩ := fourT G3.out
  obtain ⟨pG40, pG41, pG42, pG43⟩ := fourT G4.out
  go_wp2_with fail
  (with_reducible refine Calls.mono (c7 _) ?_)
  rintro e w8 ⟨rfl, hbx⟩
  clear pG10 pG11 pG12 pG13 pG20 pG21 pG22 pG23 pG30 pG31 pG32 pG33 pG40 pG41 pG42 pG43
  replace G1 := Lib.hid (keep_blk hbx G1.out)
  replace G2 := Lib.hid (keep_blk hbx G2.out)
  replace G3 := Lib.hid (keep_blk hbx G3.out)
  replace G4 := Lib.hid (keep_blk hbx G4.out)
  have hb8 := hc7.trans (hbx.mono hc7.size)
  clear hbx hc7
  obtain ⟨pG10, pG11, pG12, pG13⟩ := fourT G1.out
  obtain ⟨pG20, pG21, pG22, pG23⟩ := fourT G2.out
  obtain ⟨pG30, pG31, pG32, pG33⟩ := fourT G3.out
  obtain ⟨pG40, pG41, pG42, pG43⟩ := fourT G4.out
  go_wp2_with fail
  (with_reducible refine Calls.mono (c7 _) ?_)
  rintro e w9 ⟨rfl, hbx⟩
  clear pG10 pG11 pG12 pG13 pG20 pG21 pG22 pG23 pG30 pG31 pG32 pG33 pG40 pG41 pG42 pG43
  replace G1 := Lib.hid (keep_blk hbx G1.out)
  replace G2 := Lib.hid (keep_blk hbx G2.out)
  replace G3 := Lib.hid (keep_blk hbx G3.out)
  replace G4 := Lib.hid (keep_blk hbx G4.out)
  have hb9 := hb8.trans (hbx.mono hb8.size)
  clear hbx hb8
  obtain ⟨pG10, pG11, pG12, pG13⟩ := fourT G1.out
  obtain ⟨pG20, pG21, pG22, pG23⟩ := fourT G2.out
  obtain ⟨pG30, pG31, pG32, pG33⟩ := fourT G3.out
  obtain ⟨pG40, pG41, pG42, pG43⟩ := fourT G4.out
  go_wp2
  go_ret
  exact ⟨rfl, hb9⟩
theorem rreads_any (v : Wts) (l : List UInt8) (w : World) (hv : v.Wf) (hl : l.length ≤ 281474976710656) (hL : LaidA w) : Calls Tryd.prog 3 #[.agg (cellsW v), .string (bs l)] w (BoolPost w true) := by
  obtain ⟨a, b, c, d⟩ := v
  by_cases h : 1000 < l.length
  · exact reads_long a b c d l w hv hl h hL
  cases hp : parseW l with
  | none =>
    by_cases hok : (⟨a, b, c, d⟩ : Wts).Ok
    · exact reads_01 a b c d l w hv hl h hp hok hL
    · exact reads_00 a b c d l w hv hl h hp hok hL
  | some x =>
    obtain ⟨xa, xb, xc, xd⟩ := x
    by_cases hok : (⟨a, b, c, d⟩ : Wts).Ok
    · exact reads_11 a b c d l w hv hl h xa xb xc xd hp hok hL
    · exact reads_10 a b c d l w hv hl h xa xb xc xd hp hok hL
end Go.Proofs.YtjcaaiikccnpeaaDoor
