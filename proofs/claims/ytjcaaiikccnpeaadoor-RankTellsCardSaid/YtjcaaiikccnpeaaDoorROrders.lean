/- RankOrders, walked: it answers true. -/
import Derived.Test.YtjcaaiikccnpeaaDoorSmallR
namespace Go.Proofs.YtjcaaiikccnpeaaDoor
open Go.ChangeShapes Go.WideShapes Go.ChangeAt Go.RowKit Go.Lib
set_option linter.unusedVariables false

theorem sixT {W : World} {T : Nat} {i u r : ByteArray} {s t k : Int} (h : W.heap[T]? = some (.cells #[.string i, .string u, .int .i64 s, .int .i64 t, .int .i64 k, .string r] 38 (0, 0))) :
    W.cell? ⟨T, 0, none⟩ = some (.string i) ∧ W.cell? ⟨T, 1, none⟩ = some (.string u) ∧ W.cell? ⟨T, 2, none⟩ = some (.int .i64 s) ∧ W.cell? ⟨T, 3, none⟩ = some (.int .i64 t) ∧ W.cell? ⟨T, 4, none⟩ = some (.int .i64 k) ∧ W.cell? ⟨T, 5, none⟩ = some (.string r) := by
  refine ⟨?_, ?_, ?_, ?_, ?_, ?_⟩
  · rw [cell_of_row W _ 0 _ _ _ h]; rfl
  · rw [cell_of_row W _ 1 _ _ _ h]; rfl
  · rw [cell_of_row W _ 2 _ _ _ h]; rfl
  · rw [cell_of_row W _ 3 _ _ _ h]; rfl
  · rw [cell_of_row W _ 4 _ _ _ h]; rfl
  · rw [cell_of_row W _ 5 _ _ _ h]; rfl
set_option maxRecDepth 100000 in
set_option maxHeartbeats 2000000 in
theorem ord_at (ia ua ra ib ub rb ic uc rc : List UInt8) (sa ta ka sb tb kb sc tc kc : Int) (z z4 z5 : Bool) (w : World) (hL : LaidA w) (n1 : ¬ sa = sb) (d1 : decide (sa ≤ sb) = false) (d2 : (sa == sb) = false) 
    (c1 : ∀ W, Calls Tryd.prog 16 #[.agg #[.string (bs ia), .string (bs ua), .int .i64 sa, .int .i64 ta, .int .i64 ka, .string (bs ra)], .agg #[.string (bs ib), .string (bs ub), .int .i64 sb, .int .i64 tb, .int .i64 kb, .string (bs rb)]] W (BoolPost W true)) (c2 : ∀ W, Calls Tryd.prog 16 #[.agg #[.string (bs ib), .string (bs ub), .int .i64 sb, .int .i64 tb, .int .i64 kb, .string (bs rb)], .agg #[.string (bs ia), .string (bs ua), .int .i64 sa, .int .i64 ta, .int .i64 ka, .string (bs ra)]] W (BoolPost W false)) (c3 : ∀ W, Calls Tryd.prog 16 #[.agg #[.string (bs ia), .string (bs ua), .int .i64 sa, .int .i64 ta, .int .i64 ka, .string (bs ra)], .agg #[.string (bs ia), .string (bs ua), .int .i64 sa, .int .i64 ta, .int .i64 ka, .string (bs ra)]] W (BoolPost W false)) (c4 : ∀ W, Calls Tryd.prog 16 #[.agg #[.string (bs ib), .string (bs ub), .int .i64 sb, .int .i64 tb, .int .i64 kb, .string (bs rb)], .agg #[.string (bs ic), .string (bs uc), .int .i64 sc, .int .i64 tc, .int .i64 kc, .string (bs rc)]] W (BoolPost W true)) (c5 : ∀ W, Calls Tryd.prog 16 #[.agg #[.string (bs ia), .string (bs ua), .int .i64 sa, .int .i64 ta, .int .i64 ka, .string (bs ra)], .agg #[.string (bs ic), .string (bs uc), .int .i64 sc, .int .i64 tc, .int .i64 kc, .string (bs rc)]] W (BoolPost W true)) : Calls Tryd.prog 7 #[.agg #[.string (bs ia), .string (bs ua), .int .i64 sa, .int .i64 ta, .int .i64 ka, .string (bs ra)], .agg #[.string (bs ib), .string (bs ub), .int .i64 sb, .int .i64 tb, .int .i64 kb, .string (bs rb)], .agg #[.string (bs ic), .string (bs uc), .int .i64 sc, .int .i64 tc, .int .i64 kc, .string (bs rc)]] w (BoolPost w true) := by
  have cs := fun W hW => small_any W hW
  have hs1 : (w.alloc (.cells #[.string (bs ia), .string (bs ua), .int .i64 sa, .int .i64 ta, .int .i64 ka, .string (bs ra)] 38)).heap.size = w.heap.size + 1 := by simp
  have hs2 : ((w.alloc (.cells #[.string (bs ia), .string (bs ua), .int .i64 sa, .int .i64 ta, .int .i64 ka, .string (bs ra)] 38)).alloc (.cells #[.string (bs ib), .string (bs ub), .int .i64 sb, .int .i64 tb, .int .i64 kb, .string (bs rb)] 38)).heap.size = w.heap.size + 2 := by simp
  have g1 : (((w.alloc (.cells #[.string (bs ia), .string (bs ua), .int .i64 sa, .int .i64 ta, .int .i64 ka, .string (bs ra)] 38)).alloc (.cells #[.string (bs ib), .string (bs ub), .int .i64 sb, .int .i64 tb, .int .i64 kb, .string (bs rb)] 38)).alloc (.cells #[.string (bs ic), .string (bs uc), .int .i64 sc, .int .i64 tc, .int .i64 kc, .string (bs rc)] 38)).heap[w.heap.size]? = some (.cells #[.string (bs ia), .string (bs ua), .int .i64 sa, .int .i64 ta, .int .i64 ka, .string (bs ra)] 38 (0, 0)) := by
    rw [Below.heap_alloc _ _ _ (by omega), Below.heap_alloc _ _ _ (by omega), heap_alloc_new]
  have g2 : (((w.alloc (.cells #[.string (bs ia), .string (bs ua), .int .i64 sa, .int .i64 ta, .int .i64 ka, .string (bs ra)] 38)).alloc (.cells #[.string (bs ib), .string (bs ub), .int .i64 sb, .int .i64 tb, .int .i64 kb, .string (bs rb)] 38)).alloc (.cells #[.string (bs ic), .string (bs uc), .int .i64 sc, .int .i64 tc, .int .i64 kc, .string (bs rc)] 38)).heap[w.heap.size + 1]? = some (.cells #[.string (bs ib), .string (bs ub), .int .i64 sb, .int .i64 tb, .int .i64 kb, .string (bs rb)] 38 (0, 0)) := by
    rw [Below.heap_alloc _ _ _ (by omega), ← hs1, heap_alloc_new]
  have g3 : (((w.alloc (.cells #[.string (bs ia), .string (bs ua), .int .i64 sa, .int .i64 ta, .int .i64 ka, .string (bs ra)] 38)).alloc (.cells #[.string (bs ib), .string (bs ub), .int .i64 sb, .int .i64 tb, .int .i64 kb, .string (bs rb)] 38)).alloc (.cells #[.string (bs ic), .string (bs uc), .int .i64 sc, .int .i64 tc, .int .i64 kc, .string (bs rc)] 38)).heap[w.heap.size + 2]? = some (.cells #[.string (bs ic), .string (bs uc), .int .i64 sc, .int .i64 tc, .int .i64 kc, .string (bs rc)] 38 (0, 0)) := by
    rw [← hs2, heap_alloc_new]
  have hb0 : Below w.heap.size w (((w.alloc (.cells #[.string (bs ia), .string (bs ua), .int .i64 sa, .int .i64 ta, .int .i64 ka, .string (bs ra)] 38)).alloc (.cells #[.string (bs ib), .string (bs ub), .int .i64 sb, .int .i64 tb, .int .i64 kb, .string (bs rb)] 38)).alloc (.cells #[.string (bs ic), .string (bs uc), .int .i64 sc, .int .i64 tc, .int .i64 kc, .string (bs rc)] 38)) := ((Below.refl _ _).alloc (Nat.le_refl _) _).alloc (by omega) _ |>.alloc (by omega) _
  have G1 := Lib.hid g1
  have G2 := Lib.hid g2
  have G3 := Lib.hid g3
  have B0 := Lib.hid hb0
  have y1 := bs_toList ia
  have y2 := bs_toList ib
  clear hs1 hs2 g1 g2 g3 hb0
  go_enter Tryd.func7, Tryd.ntmps7
  go_wp2_with fail
  have hb0 := B0.out
  (with_reducible refine Calls.mono (cs _ (hL.below hb0)) ?_)
  rintro e w1 ⟨rfl, hbx⟩
  replace G1 := Lib.hid (keep_blk hbx G1.out)
  replace G2 := Lib.hid (keep_blk hbx G2.out)
  replace G3 := Lib.hid (keep_blk hbx G3.out)
  have hb1 := hb0.trans (hbx.mono hb0.size)
  clear hbx cs hb0 B0
  obtain ⟨pG10, pG11, pG12, pG13, pG14, pG15⟩ := sixT G1.out
  obtain ⟨pG20, pG21, pG22, pG23, pG24, pG25⟩ := sixT G2.out
  obtain ⟨pG30, pG31, pG32, pG33, pG34, pG35⟩ := sixT G3.out
  go_wp2_with fail
  (with_reducible refine Calls.mono (c1 _) ?_)
  rintro e w2 ⟨rfl, hbx⟩
  clear pG10 pG11 pG12 pG13 pG14 pG15 pG20 pG21 pG22 pG23 pG24 pG25 pG30 pG31 pG32 pG33 pG34 pG35
  replace G1 := Lib.hid (keep_blk hbx G1.out)
  replace G2 := Lib.hid (keep_blk hbx G2.out)
  replace G3 := Lib.hid (keep_blk hbx G3.out)
  have hb2 := hb1.trans (hbx.mono hb1.size)
  clear hbx hb1
  obtain ⟨pG10, pG11, pG12, pG13, pG14, pG15⟩ := sixT G1.out
  obtain ⟨pG20, pG21, pG22, pG23, pG24, pG25⟩ := sixT G2.out
  obtain ⟨pG30, pG31, pG32, pG33, pG34, pG35⟩ := sixT G3.out
  go_wp2_with fail
  (with_reducible refine Calls.mono (c2 _) ?_)
  rintro e w3 ⟨rfl, hbx⟩
  clear pG10 pG11 pG12 pG13 pG14 pG15 pG20 pG21 pG22 pG23 pG24 pG25 pG30 pG31 pG32 pG33 pG34 pG35
  replace G1 := Lib.hid (keep_blk hbx G1.out)
  replace G2 := Lib.hid (keep_blk hbx G2.out)
  replace G3 := Lib.hid (keep_blk hbx G3.out)
  have hb3 := hb2.trans (hbx.mono hb2.size)
  clear hbx hb2
  obtain ⟨pG10, pG11, pG12, pG13, pG14, pG15⟩ := sixT G1.out
  obtain ⟨pG20, pG21, pG22, pG23, pG24, pG25⟩ := sixT G2.out
  obtain ⟨pG30, pG31, pG32, pG33, pG34, pG35⟩ := sixT G3.out
  go_wp2_with fail
  (with_reducible refine Calls.mono (c3 _) ?_)
  rintro e w4 ⟨rfl, hbx⟩
  clear pG10 pG11 pG12 pG13 pG14 pG15 pG20 pG21 pG22 pG23 pG24 pG25 pG30 pG31 pG32 pG33 pG34 pG35
  replace G1 := Lib.hid (keep_blk hbx G1.out)
  replace G2 := Lib.hid (keep_blk hbx G2.out)
  replace G3 := Lib.hid (keep_blk hbx G3.out)
  have hb4 := hb3.trans (hbx.mono hb3.size)
  clear hbx hb3
  obtain ⟨pG10, pG11, pG12, pG13, pG14, pG15⟩ := sixT G1.out
  obtain ⟨pG20, pG21, pG22, pG23, pG24, pG25⟩ := sixT G2.out
  obtain ⟨pG30, pG31, pG32, pG33, pG34, pG35⟩ := sixT G3.out
  go_wp2_with fail
  (with_reducible refine Calls.mono (c4 _) ?_)
  rintro e w5 ⟨rfl, hbx⟩
  clear pG10 pG11 pG12 pG13 pG14 pG15 pG20 pG21 pG22 pG23 pG24 pG25 pG30 pG31 pG32 pG33 pG34 pG35
  replace G1 := Lib.hid (keep_blk hbx G1.out)
  replace G2 := Lib.hid (keep_blk hbx G2.out)
  replace G3 := Lib.hid (keep_blk hbx G3.out)
  have hb5 := hb4.trans (hbx.mono hb4.size)
  clear hbx hb4
  obtain ⟨pG10, pG11, pG12, pG13, pG14, pG15⟩ := sixT G1.out
  obtain ⟨pG20, pG21, pG22, pG23, pG24, pG25⟩ := sixT G2.out
  obtain ⟨pG30, pG31, pG32, pG33, pG34, pG35⟩ := sixT G3.out
  go_wp2_with fail
  (with_reducible refine Calls.mono (c5 _) ?_)
  rintro e w6 ⟨rfl, hbx⟩
  clear pG10 pG11 pG12 pG13 pG14 pG15 pG20 pG21 pG22 pG23 pG24 pG25 pG30 pG31 pG32 pG33 pG34 pG35
  replace G1 := Lib.hid (keep_blk hbx G1.out)
  replace G2 := Lib.hid (keep_blk hbx G2.out)
  replace G3 := Lib.hid (keep_blk hbx G3.out)
  have hb6 := hb5.trans (hbx.mono hb5.size)
  clear hbx hb5
  obtain ⟨pG10, pG11, pG12, pG13, pG14, pG15⟩ := sixT G1.out
  obtain ⟨pG20, pG21, pG22, pG23, pG24, pG25⟩ := sixT G2.out
  obtain ⟨pG30, pG31, pG32, pG33, pG34, pG35⟩ := sixT G3.out
  go_wp2
  go_quiet (fail)
  go_wp2
  go_ret
  exact ⟨rfl, below_drewN hb6 _⟩
set_option maxRecDepth 100000 in
set_option maxHeartbeats 2000000 in
theorem ord_bt (ia ua ra ib ub rb ic uc rc : List UInt8) (sa ta ka tb kb sc tc kc : Int) (z z4 z5 : Bool) (w : World) (hL : LaidA w) (n2 : ¬ ta = tb) (d3 : decide (ta ≤ tb) = false) (d4 : (ta == tb) = false) 
    (c1 : ∀ W, Calls Tryd.prog 16 #[.agg #[.string (bs ia), .string (bs ua), .int .i64 sa, .int .i64 ta, .int .i64 ka, .string (bs ra)], .agg #[.string (bs ib), .string (bs ub), .int .i64 sa, .int .i64 tb, .int .i64 kb, .string (bs rb)]] W (BoolPost W true)) (c2 : ∀ W, Calls Tryd.prog 16 #[.agg #[.string (bs ib), .string (bs ub), .int .i64 sa, .int .i64 tb, .int .i64 kb, .string (bs rb)], .agg #[.string (bs ia), .string (bs ua), .int .i64 sa, .int .i64 ta, .int .i64 ka, .string (bs ra)]] W (BoolPost W false)) (c3 : ∀ W, Calls Tryd.prog 16 #[.agg #[.string (bs ia), .string (bs ua), .int .i64 sa, .int .i64 ta, .int .i64 ka, .string (bs ra)], .agg #[.string (bs ia), .string (bs ua), .int .i64 sa, .int .i64 ta, .int .i64 ka, .string (bs ra)]] W (BoolPost W false)) (c4 : ∀ W, Calls Tryd.prog 16 #[.agg #[.string (bs ib), .string (bs ub), .int .i64 sa, .int .i64 tb, .int .i64 kb, .string (bs rb)], .agg #[.string (bs ic), .string (bs uc), .int .i64 sc, .int .i64 tc, .int .i64 kc, .string (bs rc)]] W (BoolPost W true)) (c5 : ∀ W, Calls Tryd.prog 16 #[.agg #[.string (bs ia), .string (bs ua), .int .i64 sa, .int .i64 ta, .int .i64 ka, .string (bs ra)], .agg #[.string (bs ic), .string (bs uc), .int .i64 sc, .int .i64 tc, .int .i64 kc, .string (bs rc)]] W (BoolPost W true)) : Calls Tryd.prog 7 #[.agg #[.string (bs ia), .string (bs ua), .int .i64 sa, .int .i64 ta, .int .i64 ka, .string (bs ra)], .agg #[.string (bs ib), .string (bs ub), .int .i64 sa, .int .i64 tb, .int .i64 kb, .string (bs rb)], .agg #[.string (bs ic), .string (bs uc), .int .i64 sc, .int .i64 tc, .int .i64 kc, .string (bs rc)]] w (BoolPost w true) := by
  have cs := fun W hW => small_any W hW
  have hs1 : (w.alloc (.cells #[.string (bs ia), .string (bs ua), .int .i64 sa, .int .i64 ta, .int .i64 ka, .string (bs ra)] 38)).heap.size = w.heap.size + 1 := by simp
  have hs2 : ((w.alloc (.cells #[.string (bs ia), .string (bs ua), .int .i64 sa, .int .i64 ta, .int .i64 ka, .string (bs ra)] 38)).alloc (.cells #[.string (bs ib), .string (bs ub), .int .i64 sa, .int .i64 tb, .int .i64 kb, .string (bs rb)] 38)).heap.size = w.heap.size + 2 := by simp
  have g1 : (((w.alloc (.cells #[.string (bs ia), .string (bs ua), .int .i64 sa, .int .i64 ta, .int .i64 ka, .string (bs ra)] 38)).alloc (.cells #[.string (bs ib), .string (bs ub), .int .i64 sa, .int .i64 tb, .int .i64 kb, .string (bs rb)] 38)).alloc (.cells #[.string (bs ic), .string (bs uc), .int .i64 sc, .int .i64 tc, .int .i64 kc, .string (bs rc)] 38)).heap[w.heap.size]? = some (.cells #[.string (bs ia), .string (bs ua), .int .i64 sa, .int .i64 ta, .int .i64 ka, .string (bs ra)] 38 (0, 0)) := by
    rw [Below.heap_alloc _ _ _ (by omega), Below.heap_alloc _ _ _ (by omega), heap_alloc_new]
  have g2 : (((w.alloc (.cells #[.string (bs ia), .string (bs ua), .int .i64 sa, .int .i64 ta, .int .i64 ka, .string (bs ra)] 38)).alloc (.cells #[.string (bs ib), .string (bs ub), .int .i64 sa, .int .i64 tb, .int .i64 kb, .string (bs rb)] 38)).alloc (.cells #[.string (bs ic), .string (bs uc), .int .i64 sc, .int .i64 tc, .int .i64 kc, .string (bs rc)] 38)).heap[w.heap.size + 1]? = some (.cells #[.string (bs ib), .string (bs ub), .int .i64 sa, .int .i64 tb, .int .i64 kb, .string (bs rb)] 38 (0, 0)) := by
    rw [Below.heap_alloc _ _ _ (by omega), ← hs1, heap_alloc_new]
  have g3 : (((w.alloc (.cells #[.string (bs ia), .string (bs ua), .int .i64 sa, .int .i64 ta, .int .i64 ka, .string (bs ra)] 38)).alloc (.cells #[.string (bs ib), .string (bs ub), .int .i64 sa, .int .i64 tb, .int .i64 kb, .string (bs rb)] 38)).alloc (.cells #[.string (bs ic), .string (bs uc), .int .i64 sc, .int .i64 tc, .int .i64 kc, .string (bs rc)] 38)).heap[w.heap.size + 2]? = some (.cells #[.string (bs ic), .string (bs uc), .int .i64 sc, .int .i64 tc, .int .i64 kc, .string (bs rc)] 38 (0, 0)) := by
    rw [← hs2, heap_alloc_new]
  have hb0 : Below w.heap.size w (((w.alloc (.cells #[.string (bs ia), .string (bs ua), .int .i64 sa, .int .i64 ta, .int .i64 ka, .string (bs ra)] 38)).alloc (.cells #[.string (bs ib), .string (bs ub), .int .i64 sa, .int .i64 tb, .int .i64 kb, .string (bs rb)] 38)).alloc (.cells #[.string (bs ic), .string (bs uc), .int .i64 sc, .int .i64 tc, .int .i64 kc, .string (bs rc)] 38)) := ((Below.refl _ _).alloc (Nat.le_refl _) _).alloc (by omega) _ |>.alloc (by omega) _
  have G1 := Lib.hid g1
  have G2 := Lib.hid g2
  have G3 := Lib.hid g3
  have B0 := Lib.hid hb0
  have y1 := bs_toList ia
  have y2 := bs_toList ib
  clear hs1 hs2 g1 g2 g3 hb0
  go_enter Tryd.func7, Tryd.ntmps7
  go_wp2_with fail
  have hb0 := B0.out
  (with_reducible refine Calls.mono (cs _ (hL.below hb0)) ?_)
  rintro e w1 ⟨rfl, hbx⟩
  replace G1 := Lib.hid (keep_blk hbx G1.out)
  replace G2 := Lib.hid (keep_blk hbx G2.out)
  replace G3 := Lib.hid (keep_blk hbx G3.out)
  have hb1 := hb0.trans (hbx.mono hb0.size)
  clear hbx cs hb0 B0
  obtain ⟨pG10, pG11, pG12, pG13, pG14, pG15⟩ := sixT G1.out
  obtain ⟨pG20, pG21, pG22, pG23, pG24, pG25⟩ := sixT G2.out
  obtain ⟨pG30, pG31, pG32, pG33, pG34, pG35⟩ := sixT G3.out
  go_wp2_with fail
  (with_reducible refine Calls.mono (c1 _) ?_)
  rintro e w2 ⟨rfl, hbx⟩
  clear pG10 pG11 pG12 pG13 pG14 pG15 pG20 pG21 pG22 pG23 pG24 pG25 pG30 pG31 pG32 pG33 pG34 pG35
  replace G1 := Lib.hid (keep_blk hbx G1.out)
  replace G2 := Lib.hid (keep_blk hbx G2.out)
  replace G3 := Lib.hid (keep_blk hbx G3.out)
  have hb2 := hb1.trans (hbx.mono hb1.size)
  clear hbx hb1
  obtain ⟨pG10, pG11, pG12, pG13, pG14, pG15⟩ := sixT G1.out
  obtain ⟨pG20, pG21, pG22, pG23, pG24, pG25⟩ := sixT G2.out
  obtain ⟨pG30, pG31, pG32, pG33, pG34, pG35⟩ := sixT G3.out
  go_wp2_with fail
  (with_reducible refine Calls.mono (c2 _) ?_)
  rintro e w3 ⟨rfl, hbx⟩
  clear pG10 pG11 pG12 pG13 pG14 pG15 pG20 pG21 pG22 pG23 pG24 pG25 pG30 pG31 pG32 pG33 pG34 pG35
  replace G1 := Lib.hid (keep_blk hbx G1.out)
  replace G2 := Lib.hid (keep_blk hbx G2.out)
  replace G3 := Lib.hid (keep_blk hbx G3.out)
  have hb3 := hb2.trans (hbx.mono hb2.size)
  clear hbx hb2
  obtain ⟨pG10, pG11, pG12, pG13, pG14, pG15⟩ := sixT G1.out
  obtain ⟨pG20, pG21, pG22, pG23, pG24, pG25⟩ := sixT G2.out
  obtain ⟨pG30, pG31, pG32, pG33, pG34, pG35⟩ := sixT G3.out
  go_wp2_with fail
  (with_reducible refine Calls.mono (c3 _) ?_)
  rintro e w4 ⟨rfl, hbx⟩
  clear pG10 pG11 pG12 pG13 pG14 pG15 pG20 pG21 pG22 pG23 pG24 pG25 pG30 pG31 pG32 pG33 pG34 pG35
  replace G1 := Lib.hid (keep_blk hbx G1.out)
  replace G2 := Lib.hid (keep_blk hbx G2.out)
  replace G3 := Lib.hid (keep_blk hbx G3.out)
  have hb4 := hb3.trans (hbx.mono hb3.size)
  clear hbx hb3
  obtain ⟨pG10, pG11, pG12, pG13, pG14, pG15⟩ := sixT G1.out
  obtain ⟨pG20, pG21, pG22, pG23, pG24, pG25⟩ := sixT G2.out
  obtain ⟨pG30, pG31, pG32, pG33, pG34, pG35⟩ := sixT G3.out
  go_wp2_with fail
  (with_reducible refine Calls.mono (c4 _) ?_)
  rintro e w5 ⟨rfl, hbx⟩
  clear pG10 pG11 pG12 pG13 pG14 pG15 pG20 pG21 pG22 pG23 pG24 pG25 pG30 pG31 pG32 pG33 pG34 pG35
  replace G1 := Lib.hid (keep_blk hbx G1.out)
  replace G2 := Lib.hid (keep_blk hbx G2.out)
  replace G3 := Lib.hid (keep_blk hbx G3.out)
  have hb5 := hb4.trans (hbx.mono hb4.size)
  clear hbx hb4
  obtain ⟨pG10, pG11, pG12, pG13, pG14, pG15⟩ := sixT G1.out
  obtain ⟨pG20, pG21, pG22, pG23, pG24, pG25⟩ := sixT G2.out
  obtain ⟨pG30, pG31, pG32, pG33, pG34, pG35⟩ := sixT G3.out
  go_wp2_with fail
  (with_reducible refine Calls.mono (c5 _) ?_)
  rintro e w6 ⟨rfl, hbx⟩
  clear pG10 pG11 pG12 pG13 pG14 pG15 pG20 pG21 pG22 pG23 pG24 pG25 pG30 pG31 pG32 pG33 pG34 pG35
  replace G1 := Lib.hid (keep_blk hbx G1.out)
  replace G2 := Lib.hid (keep_blk hbx G2.out)
  replace G3 := Lib.hid (keep_blk hbx G3.out)
  have hb6 := hb5.trans (hbx.mono hb5.size)
  clear hbx hb5
  obtain ⟨pG10, pG11, pG12, pG13, pG14, pG15⟩ := sixT G1.out
  obtain ⟨pG20, pG21, pG22, pG23, pG24, pG25⟩ := sixT G2.out
  obtain ⟨pG30, pG31, pG32, pG33, pG34, pG35⟩ := sixT G3.out
  go_wp2
  go_quiet (fail)
  go_wp2
  go_ret
  exact ⟨rfl, below_drewN hb6 _⟩
set_option maxRecDepth 100000 in
set_option maxHeartbeats 2000000 in
theorem ord_ct (ia ua ra ib ub rb ic uc rc : List UInt8) (sa ta ka kb sc tc kc : Int) (z z4 z5 : Bool) (w : World) (hL : LaidA w) (d5 : (ia == ib) = false) 
    (c1 : ∀ W, Calls Tryd.prog 16 #[.agg #[.string (bs ia), .string (bs ua), .int .i64 sa, .int .i64 ta, .int .i64 ka, .string (bs ra)], .agg #[.string (bs ib), .string (bs ub), .int .i64 sa, .int .i64 ta, .int .i64 kb, .string (bs rb)]] W (BoolPost W true)) (c2 : ∀ W, Calls Tryd.prog 16 #[.agg #[.string (bs ib), .string (bs ub), .int .i64 sa, .int .i64 ta, .int .i64 kb, .string (bs rb)], .agg #[.string (bs ia), .string (bs ua), .int .i64 sa, .int .i64 ta, .int .i64 ka, .string (bs ra)]] W (BoolPost W false)) (c3 : ∀ W, Calls Tryd.prog 16 #[.agg #[.string (bs ia), .string (bs ua), .int .i64 sa, .int .i64 ta, .int .i64 ka, .string (bs ra)], .agg #[.string (bs ia), .string (bs ua), .int .i64 sa, .int .i64 ta, .int .i64 ka, .string (bs ra)]] W (BoolPost W false)) (c4 : ∀ W, Calls Tryd.prog 16 #[.agg #[.string (bs ib), .string (bs ub), .int .i64 sa, .int .i64 ta, .int .i64 kb, .string (bs rb)], .agg #[.string (bs ic), .string (bs uc), .int .i64 sc, .int .i64 tc, .int .i64 kc, .string (bs rc)]] W (BoolPost W true)) (c5 : ∀ W, Calls Tryd.prog 16 #[.agg #[.string (bs ia), .string (bs ua), .int .i64 sa, .int .i64 ta, .int .i64 ka, .string (bs ra)], .agg #[.string (bs ic), .string (bs uc), .int .i64 sc, .int .i64 tc, .int .i64 kc, .string (bs rc)]] W (BoolPost W true)) : Calls Tryd.prog 7 #[.agg #[.string (bs ia), .string (bs ua), .int .i64 sa, .int .i64 ta, .int .i64 ka, .string (bs ra)], .agg #[.string (bs ib), .string (bs ub), .int .i64 sa, .int .i64 ta, .int .i64 kb, .string (bs rb)], .agg #[.string (bs ic), .string (bs uc), .int .i64 sc, .int .i64 tc, .int .i64 kc, .string (bs rc)]] w (BoolPost w true) := by
  have cs := fun W hW => small_any W hW
  have hs1 : (w.alloc (.cells #[.string (bs ia), .string (bs ua), .int .i64 sa, .int .i64 ta, .int .i64 ka, .string (bs ra)] 38)).heap.size = w.heap.size + 1 := by simp
  have hs2 : ((w.alloc (.cells #[.string (bs ia), .string (bs ua), .int .i64 sa, .int .i64 ta, .int .i64 ka, .string (bs ra)] 38)).alloc (.cells #[.string (bs ib), .string (bs ub), .int .i64 sa, .int .i64 ta, .int .i64 kb, .string (bs rb)] 38)).heap.size = w.heap.size + 2 := by simp
  have g1 : (((w.alloc (.cells #[.string (bs ia), .string (bs ua), .int .i64 sa, .int .i64 ta, .int .i64 ka, .string (bs ra)] 38)).alloc (.cells #[.string (bs ib), .string (bs ub), .int .i64 sa, .int .i64 ta, .int .i64 kb, .string (bs rb)] 38)).alloc (.cells #[.string (bs ic), .string (bs uc), .int .i64 sc, .int .i64 tc, .int .i64 kc, .string (bs rc)] 38)).heap[w.heap.size]? = some (.cells #[.string (bs ia), .string (bs ua), .int .i64 sa, .int .i64 ta, .int .i64 ka, .string (bs ra)] 38 (0, 0)) := by
    rw [Below.heap_alloc _ _ _ (by omega), Below.heap_alloc _ _ _ (by omega), heap_alloc_new]
  have g2 : (((w.alloc (.cells #[.string (bs ia), .string (bs ua), .int .i64 sa, .int .i64 ta, .int .i64 ka, .string (bs ra)] 38)).alloc (.cells #[.string (bs ib), .string (bs ub), .int .i64 sa, .int .i64 ta, .int .i64 kb, .string (bs rb)] 38)).alloc (.cells #[.string (bs ic), .string (bs uc), .int .i64 sc, .int .i64 tc, .int .i64 kc, .string (bs rc)] 38)).heap[w.heap.size + 1]? = some (.cells #[.string (bs ib), .string (bs ub), .int .i64 sa, .int .i64 ta, .int .i64 kb, .string (bs rb)] 38 (0, 0)) := by
    rw [Below.heap_alloc _ _ _ (by omega), ← hs1, heap_alloc_new]
  have g3 : (((w.alloc (.cells #[.string (bs ia), .string (bs ua), .int .i64 sa, .int .i64 ta, .int .i64 ka, .string (bs ra)] 38)).alloc (.cells #[.string (bs ib), .string (bs ub), .int .i64 sa, .int .i64 ta, .int .i64 kb, .string (bs rb)] 38)).alloc (.cells #[.string (bs ic), .string (bs uc), .int .i64 sc, .int .i64 tc, .int .i64 kc, .string (bs rc)] 38)).heap[w.heap.size + 2]? = some (.cells #[.string (bs ic), .string (bs uc), .int .i64 sc, .int .i64 tc, .int .i64 kc, .string (bs rc)] 38 (0, 0)) := by
    rw [← hs2, heap_alloc_new]
  have hb0 : Below w.heap.size w (((w.alloc (.cells #[.string (bs ia), .string (bs ua), .int .i64 sa, .int .i64 ta, .int .i64 ka, .string (bs ra)] 38)).alloc (.cells #[.string (bs ib), .string (bs ub), .int .i64 sa, .int .i64 ta, .int .i64 kb, .string (bs rb)] 38)).alloc (.cells #[.string (bs ic), .string (bs uc), .int .i64 sc, .int .i64 tc, .int .i64 kc, .string (bs rc)] 38)) := ((Below.refl _ _).alloc (Nat.le_refl _) _).alloc (by omega) _ |>.alloc (by omega) _
  have G1 := Lib.hid g1
  have G2 := Lib.hid g2
  have G3 := Lib.hid g3
  have B0 := Lib.hid hb0
  have y1 := bs_toList ia
  have y2 := bs_toList ib
  clear hs1 hs2 g1 g2 g3 hb0
  go_enter Tryd.func7, Tryd.ntmps7
  go_wp2_with fail
  have hb0 := B0.out
  (with_reducible refine Calls.mono (cs _ (hL.below hb0)) ?_)
  rintro e w1 ⟨rfl, hbx⟩
  replace G1 := Lib.hid (keep_blk hbx G1.out)
  replace G2 := Lib.hid (keep_blk hbx G2.out)
  replace G3 := Lib.hid (keep_blk hbx G3.out)
  have hb1 := hb0.trans (hbx.mono hb0.size)
  clear hbx cs hb0 B0
  obtain ⟨pG10, pG11, pG12, pG13, pG14, pG15⟩ := sixT G1.out
  obtain ⟨pG20, pG21, pG22, pG23, pG24, pG25⟩ := sixT G2.out
  obtain ⟨pG30, pG31, pG32, pG33, pG34, pG35⟩ := sixT G3.out
  go_wp2_with fail
  (with_reducible refine Calls.mono (c1 _) ?_)
  rintro e w2 ⟨rfl, hbx⟩
  clear pG10 pG11 pG12 pG13 pG14 pG15 pG20 pG21 pG22 pG23 pG24 pG25 pG30 pG31 pG32 pG33 pG34 pG35
  replace G1 := Lib.hid (keep_blk hbx G1.out)
  replace G2 := Lib.hid (keep_blk hbx G2.out)
  replace G3 := Lib.hid (keep_blk hbx G3.out)
  have hb2 := hb1.trans (hbx.mono hb1.size)
  clear hbx hb1
  obtain ⟨pG10, pG11, pG12, pG13, pG14, pG15⟩ := sixT G1.out
  obtain ⟨pG20, pG21, pG22, pG23, pG24, pG25⟩ := sixT G2.out
  obtain ⟨pG30, pG31, pG32, pG33, pG34, pG35⟩ := sixT G3.out
  go_wp2_with fail
  (with_reducible refine Calls.mono (c2 _) ?_)
  rintro e w3 ⟨rfl, hbx⟩
  clear pG10 pG11 pG12 pG13 pG14 pG15 pG20 pG21 pG22 pG23 pG24 pG25 pG30 pG31 pG32 pG33 pG34 pG35
  replace G1 := Lib.hid (keep_blk hbx G1.out)
  replace G2 := Lib.hid (keep_blk hbx G2.out)
  replace G3 := Lib.hid (keep_blk hbx G3.out)
  have hb3 := hb2.trans (hbx.mono hb2.size)
  clear hbx hb2
  obtain ⟨pG10, pG11, pG12, pG13, pG14, pG15⟩ := sixT G1.out
  obtain ⟨pG20, pG21, pG22, pG23, pG24, pG25⟩ := sixT G2.out
  obtain ⟨pG30, pG31, pG32, pG33, pG34, pG35⟩ := sixT G3.out
  go_wp2_with fail
  (with_reducible refine Calls.mono (c3 _) ?_)
  rintro e w4 ⟨rfl, hbx⟩
  clear pG10 pG11 pG12 pG13 pG14 pG15 pG20 pG21 pG22 pG23 pG24 pG25 pG30 pG31 pG32 pG33 pG34 pG35
  replace G1 := Lib.hid (keep_blk hbx G1.out)
  replace G2 := Lib.hid (keep_blk hbx G2.out)
  replace G3 := Lib.hid (keep_blk hbx G3.out)
  have hb4 := hb3.trans (hbx.mono hb3.size)
  clear hbx hb3
  obtain ⟨pG10, pG11, pG12, pG13, pG14, pG15⟩ := sixT G1.out
  obtain ⟨pG20, pG21, pG22, pG23, pG24, pG25⟩ := sixT G2.out
  obtain ⟨pG30, pG31, pG32, pG33, pG34, pG35⟩ := sixT G3.out
  go_wp2_with fail
  (with_reducible refine Calls.mono (c4 _) ?_)
  rintro e w5 ⟨rfl, hbx⟩
  clear pG10 pG11 pG12 pG13 pG14 pG15 pG20 pG21 pG22 pG23 pG24 pG25 pG30 pG31 pG32 pG33 pG34 pG35
  replace G1 := Lib.hid (keep_blk hbx G1.out)
  replace G2 := Lib.hid (keep_blk hbx G2.out)
  replace G3 := Lib.hid (keep_blk hbx G3.out)
  have hb5 := hb4.trans (hbx.mono hb4.size)
  clear hbx hb4
  obtain ⟨pG10, pG11, pG12, pG13, pG14, pG15⟩ := sixT G1.out
  obtain ⟨pG20, pG21, pG22, pG23, pG24, pG25⟩ := sixT G2.out
  obtain ⟨pG30, pG31, pG32, pG33, pG34, pG35⟩ := sixT G3.out
  go_wp2_with fail
  (with_reducible refine Calls.mono (c5 _) ?_)
  rintro e w6 ⟨rfl, hbx⟩
  clear pG10 pG11 pG12 pG13 pG14 pG15 pG20 pG21 pG22 pG23 pG24 pG25 pG30 pG31 pG32 pG33 pG34 pG35
  replace G1 := Lib.hid (keep_blk hbx G1.out)
  replace G2 := Lib.hid (keep_blk hbx G2.out)
  replace G3 := Lib.hid (keep_blk hbx G3.out)
  have hb6 := hb5.trans (hbx.mono hb5.size)
  clear hbx hb5
  obtain ⟨pG10, pG11, pG12, pG13, pG14, pG15⟩ := sixT G1.out
  obtain ⟨pG20, pG21, pG22, pG23, pG24, pG25⟩ := sixT G2.out
  obtain ⟨pG30, pG31, pG32, pG33, pG34, pG35⟩ := sixT G3.out
  go_wp2
  go_quiet (fail)
  go_wp2
  go_ret
  exact ⟨rfl, below_drewN hb6 _⟩
set_option maxRecDepth 100000 in
set_option maxHeartbeats 2000000 in
theorem ord_af (ia ua ra ib ub rb ic uc rc : List UInt8) (sa ta ka sb tb kb sc tc kc : Int) (z z4 z5 : Bool) (w : World) (hL : LaidA w) (n1 : ¬ sa = sb) (d1 : decide (sa ≤ sb) = false) (d2 : (sa == sb) = false) 
    (c1 : ∀ W, Calls Tryd.prog 16 #[.agg #[.string (bs ia), .string (bs ua), .int .i64 sa, .int .i64 ta, .int .i64 ka, .string (bs ra)], .agg #[.string (bs ib), .string (bs ub), .int .i64 sb, .int .i64 tb, .int .i64 kb, .string (bs rb)]] W (BoolPost W true)) (c2 : ∀ W, Calls Tryd.prog 16 #[.agg #[.string (bs ib), .string (bs ub), .int .i64 sb, .int .i64 tb, .int .i64 kb, .string (bs rb)], .agg #[.string (bs ia), .string (bs ua), .int .i64 sa, .int .i64 ta, .int .i64 ka, .string (bs ra)]] W (BoolPost W false)) (c3 : ∀ W, Calls Tryd.prog 16 #[.agg #[.string (bs ia), .string (bs ua), .int .i64 sa, .int .i64 ta, .int .i64 ka, .string (bs ra)], .agg #[.string (bs ia), .string (bs ua), .int .i64 sa, .int .i64 ta, .int .i64 ka, .string (bs ra)]] W (BoolPost W false)) (c4 : ∀ W, Calls Tryd.prog 16 #[.agg #[.string (bs ib), .string (bs ub), .int .i64 sb, .int .i64 tb, .int .i64 kb, .string (bs rb)], .agg #[.string (bs ic), .string (bs uc), .int .i64 sc, .int .i64 tc, .int .i64 kc, .string (bs rc)]] W (BoolPost W false)) (c5 : ∀ W, Calls Tryd.prog 16 #[.agg #[.string (bs ia), .string (bs ua), .int .i64 sa, .int .i64 ta, .int .i64 ka, .string (bs ra)], .agg #[.string (bs ic), .string (bs uc), .int .i64 sc, .int .i64 tc, .int .i64 kc, .string (bs rc)]] W (BoolPost W z5)) : Calls Tryd.prog 7 #[.agg #[.string (bs ia), .string (bs ua), .int .i64 sa, .int .i64 ta, .int .i64 ka, .string (bs ra)], .agg #[.string (bs ib), .string (bs ub), .int .i64 sb, .int .i64 tb, .int .i64 kb, .string (bs rb)], .agg #[.string (bs ic), .string (bs uc), .int .i64 sc, .int .i64 tc, .int .i64 kc, .string (bs rc)]] w (BoolPost w true) := by
  have cs := fun W hW => small_any W hW
  have hs1 : (w.alloc (.cells #[.string (bs ia), .string (bs ua), .int .i64 sa, .int .i64 ta, .int .i64 ka, .string (bs ra)] 38)).heap.size = w.heap.size + 1 := by simp
  have hs2 : ((w.alloc (.cells #[.string (bs ia), .string (bs ua), .int .i64 sa, .int .i64 ta, .int .i64 ka, .string (bs ra)] 38)).alloc (.cells #[.string (bs ib), .string (bs ub), .int .i64 sb, .int .i64 tb, .int .i64 kb, .string (bs rb)] 38)).heap.size = w.heap.size + 2 := by simp
  have g1 : (((w.alloc (.cells #[.string (bs ia), .string (bs ua), .int .i64 sa, .int .i64 ta, .int .i64 ka, .string (bs ra)] 38)).alloc (.cells #[.string (bs ib), .string (bs ub), .int .i64 sb, .int .i64 tb, .int .i64 kb, .string (bs rb)] 38)).alloc (.cells #[.string (bs ic), .string (bs uc), .int .i64 sc, .int .i64 tc, .int .i64 kc, .string (bs rc)] 38)).heap[w.heap.size]? = some (.cells #[.string (bs ia), .string (bs ua), .int .i64 sa, .int .i64 ta, .int .i64 ka, .string (bs ra)] 38 (0, 0)) := by
    rw [Below.heap_alloc _ _ _ (by omega), Below.heap_alloc _ _ _ (by omega), heap_alloc_new]
  have g2 : (((w.alloc (.cells #[.string (bs ia), .string (bs ua), .int .i64 sa, .int .i64 ta, .int .i64 ka, .string (bs ra)] 38)).alloc (.cells #[.string (bs ib), .string (bs ub), .int .i64 sb, .int .i64 tb, .int .i64 kb, .string (bs rb)] 38)).alloc (.cells #[.string (bs ic), .string (bs uc), .int .i64 sc, .int .i64 tc, .int .i64 kc, .string (bs rc)] 38)).heap[w.heap.size + 1]? = some (.cells #[.string (bs ib), .string (bs ub), .int .i64 sb, .int .i64 tb, .int .i64 kb, .string (bs rb)] 38 (0, 0)) := by
    rw [Below.heap_alloc _ _ _ (by omega), ← hs1, heap_alloc_new]
  have g3 : (((w.alloc (.cells #[.string (bs ia), .string (bs ua), .int .i64 sa, .int .i64 ta, .int .i64 ka, .string (bs ra)] 38)).alloc (.cells #[.string (bs ib), .string (bs ub), .int .i64 sb, .int .i64 tb, .int .i64 kb, .string (bs rb)] 38)).alloc (.cells #[.string (bs ic), .string (bs uc), .int .i64 sc, .int .i64 tc, .int .i64 kc, .string (bs rc)] 38)).heap[w.heap.size + 2]? = some (.cells #[.string (bs ic), .string (bs uc), .int .i64 sc, .int .i64 tc, .int .i64 kc, .string (bs rc)] 38 (0, 0)) := by
    rw [← hs2, heap_alloc_new]
  have hb0 : Below w.heap.size w (((w.alloc (.cells #[.string (bs ia), .string (bs ua), .int .i64 sa, .int .i64 ta, .int .i64 ka, .string (bs ra)] 38)).alloc (.cells #[.string (bs ib), .string (bs ub), .int .i64 sb, .int .i64 tb, .int .i64 kb, .string (bs rb)] 38)).alloc (.cells #[.string (bs ic), .string (bs uc), .int .i64 sc, .int .i64 tc, .int .i64 kc, .string (bs rc)] 38)) := ((Below.refl _ _).alloc (Nat.le_refl _) _).alloc (by omega) _ |>.alloc (by omega) _
  have G1 := Lib.hid g1
  have G2 := Lib.hid g2
  have G3 := Lib.hid g3
  have B0 := Lib.hid hb0
  have y1 := bs_toList ia
  have y2 := bs_toList ib
  clear hs1 hs2 g1 g2 g3 hb0
  go_enter Tryd.func7, Tryd.ntmps7
  go_wp2_with fail
  have hb0 := B0.out
  (with_reducible refine Calls.mono (cs _ (hL.below hb0)) ?_)
  rintro e w1 ⟨rfl, hbx⟩
  replace G1 := Lib.hid (keep_blk hbx G1.out)
  replace G2 := Lib.hid (keep_blk hbx G2.out)
  replace G3 := Lib.hid (keep_blk hbx G3.out)
  have hb1 := hb0.trans (hbx.mono hb0.size)
  clear hbx cs hb0 B0
  obtain ⟨pG10, pG11, pG12, pG13, pG14, pG15⟩ := sixT G1.out
  obtain ⟨pG20, pG21, pG22, pG23, pG24, pG25⟩ := sixT G2.out
  obtain ⟨pG30, pG31, pG32, pG33, pG34, pG35⟩ := sixT G3.out
  go_wp2_with fail
  (with_reducible refine Calls.mono (c1 _) ?_)
  rintro e w2 ⟨rfl, hbx⟩
  clear pG10 pG11 pG12 pG13 pG14 pG15 pG20 pG21 pG22 pG23 pG24 pG25 pG30 pG31 pG32 pG33 pG34 pG35
  replace G1 := Lib.hid (keep_blk hbx G1.out)
  replace G2 := Lib.hid (keep_blk hbx G2.out)
  replace G3 := Lib.hid (keep_blk hbx G3.out)
  have hb2 := hb1.trans (hbx.mono hb1.size)
  clear hbx hb1
  obtain ⟨pG10, pG11, pG12, pG13, pG14, pG15⟩ := sixT G1.out
  obtain ⟨pG20, pG21, pG22, pG23, pG24, pG25⟩ := sixT G2.out
  obtain ⟨pG30, pG31, pG32, pG33, pG34, pG35⟩ := sixT G3.out
  go_wp2_with fail
  (with_reducible refine Calls.mono (c2 _) ?_)
  rintro e w3 ⟨rfl, hbx⟩
  clear pG10 pG11 pG12 pG13 pG14 pG15 pG20 pG21 pG22 pG23 pG24 pG25 pG30 pG31 pG32 pG33 pG34 pG35
  replace G1 := Lib.hid (keep_blk hbx G1.out)
  replace G2 := Lib.hid (keep_blk hbx G2.out)
  replace G3 := Lib.hid (keep_blk hbx G3.out)
  have hb3 := hb2.trans (hbx.mono hb2.size)
  clear hbx hb2
  obtain ⟨pG10, pG11, pG12, pG13, pG14, pG15⟩ := sixT G1.out
  obtain ⟨pG20, pG21, pG22, pG23, pG24, pG25⟩ := sixT G2.out
  obtain ⟨pG30, pG31, pG32, pG33, pG34, pG35⟩ := sixT G3.out
  go_wp2_with fail
  (with_reducible refine Calls.mono (c3 _) ?_)
  rintro e w4 ⟨rfl, hbx⟩
  clear pG10 pG11 pG12 pG13 pG14 pG15 pG20 pG21 pG22 pG23 pG24 pG25 pG30 pG31 pG32 pG33 pG34 pG35
  replace G1 := Lib.hid (keep_blk hbx G1.out)
  replace G2 := Lib.hid (keep_blk hbx G2.out)
  replace G3 := Lib.hid (keep_blk hbx G3.out)
  have hb4 := hb3.trans (hbx.mono hb3.size)
  clear hbx hb3
  obtain ⟨pG10, pG11, pG12, pG13, pG14, pG15⟩ := sixT G1.out
  obtain ⟨pG20, pG21, pG22, pG23, pG24, pG25⟩ := sixT G2.out
  obtain ⟨pG30, pG31, pG32, pG33, pG34, pG35⟩ := sixT G3.out
  go_wp2_with fail
  (with_reducible refine Calls.mono (c4 _) ?_)
  rintro e w5 ⟨rfl, hbx⟩
  clear pG10 pG11 pG12 pG13 pG14 pG15 pG20 pG21 pG22 pG23 pG24 pG25 pG30 pG31 pG32 pG33 pG34 pG35
  replace G1 := Lib.hid (keep_blk hbx G1.out)
  replace G2 := Lib.hid (keep_blk hbx G2.out)
  replace G3 := Lib.hid (keep_blk hbx G3.out)
  have hb5 := hb4.trans (hbx.mono hb4.size)
  clear hbx hb4
  obtain ⟨pG10, pG11, pG12, pG13, pG14, pG15⟩ := sixT G1.out
  obtain ⟨pG20, pG21, pG22, pG23, pG24, pG25⟩ := sixT G2.out
  obtain ⟨pG30, pG31, pG32, pG33, pG34, pG35⟩ := sixT G3.out
  go_wp2
  go_quiet (fail)
  go_wp2
  go_ret
  exact ⟨rfl, below_drewN hb5 _⟩
set_option maxRecDepth 100000 in
set_option maxHeartbeats 2000000 in
theorem ord_bf (ia ua ra ib ub rb ic uc rc : List UInt8) (sa ta ka tb kb sc tc kc : Int) (z z4 z5 : Bool) (w : World) (hL : LaidA w) (n2 : ¬ ta = tb) (d3 : decide (ta ≤ tb) = false) (d4 : (ta == tb) = false) 
    (c1 : ∀ W, Calls Tryd.prog 16 #[.agg #[.string (bs ia), .string (bs ua), .int .i64 sa, .int .i64 ta, .int .i64 ka, .string (bs ra)], .agg #[.string (bs ib), .string (bs ub), .int .i64 sa, .int .i64 tb, .int .i64 kb, .string (bs rb)]] W (BoolPost W true)) (c2 : ∀ W, Calls Tryd.prog 16 #[.agg #[.string (bs ib), .string (bs ub), .int .i64 sa, .int .i64 tb, .int .i64 kb, .string (bs rb)], .agg #[.string (bs ia), .string (bs ua), .int .i64 sa, .int .i64 ta, .int .i64 ka, .string (bs ra)]] W (BoolPost W false)) (c3 : ∀ W, Calls Tryd.prog 16 #[.agg #[.string (bs ia), .string (bs ua), .int .i64 sa, .int .i64 ta, .int .i64 ka, .string (bs ra)], .agg #[.string (bs ia), .string (bs ua), .int .i64 sa, .int .i64 ta, .int .i64 ka, .string (bs ra)]] W (BoolPost W false)) (c4 : ∀ W, Calls Tryd.prog 16 #[.agg #[.string (bs ib), .string (bs ub), .int .i64 sa, .int .i64 tb, .int .i64 kb, .string (bs rb)], .agg #[.string (bs ic), .string (bs uc), .int .i64 sc, .int .i64 tc, .int .i64 kc, .string (bs rc)]] W (BoolPost W false)) (c5 : ∀ W, Calls Tryd.prog 16 #[.agg #[.string (bs ia), .string (bs ua), .int .i64 sa, .int .i64 ta, .int .i64 ka, .string (bs ra)], .agg #[.string (bs ic), .string (bs uc), .int .i64 sc, .int .i64 tc, .int .i64 kc, .string (bs rc)]] W (BoolPost W z5)) : Calls Tryd.prog 7 #[.agg #[.string (bs ia), .string (bs ua), .int .i64 sa, .int .i64 ta, .int .i64 ka, .string (bs ra)], .agg #[.string (bs ib), .string (bs ub), .int .i64 sa, .int .i64 tb, .int .i64 kb, .string (bs rb)], .agg #[.string (bs ic), .string (bs uc), .int .i64 sc, .int .i64 tc, .int .i64 kc, .string (bs rc)]] w (BoolPost w true) := by
  have cs := fun W hW => small_any W hW
  have hs1 : (w.alloc (.cells #[.string (bs ia), .string (bs ua), .int .i64 sa, .int .i64 ta, .int .i64 ka, .string (bs ra)] 38)).heap.size = w.heap.size + 1 := by simp
  have hs2 : ((w.alloc (.cells #[.string (bs ia), .string (bs ua), .int .i64 sa, .int .i64 ta, .int .i64 ka, .string (bs ra)] 38)).alloc (.cells #[.string (bs ib), .string (bs ub), .int .i64 sa, .int .i64 tb, .int .i64 kb, .string (bs rb)] 38)).heap.size = w.heap.size + 2 := by simp
  have g1 : (((w.alloc (.cells #[.string (bs ia), .string (bs ua), .int .i64 sa, .int .i64 ta, .int .i64 ka, .string (bs ra)] 38)).alloc (.cells #[.string (bs ib), .string (bs ub), .int .i64 sa, .int .i64 tb, .int .i64 kb, .string (bs rb)] 38)).alloc (.cells #[.string (bs ic), .string (bs uc), .int .i64 sc, .int .i64 tc, .int .i64 kc, .string (bs rc)] 38)).heap[w.heap.size]? = some (.cells #[.string (bs ia), .string (bs ua), .int .i64 sa, .int .i64 ta, .int .i64 ka, .string (bs ra)] 38 (0, 0)) := by
    rw [Below.heap_alloc _ _ _ (by omega), Below.heap_alloc _ _ _ (by omega), heap_alloc_new]
  have g2 : (((w.alloc (.cells #[.string (bs ia), .string (bs ua), .int .i64 sa, .int .i64 ta, .int .i64 ka, .string (bs ra)] 38)).alloc (.cells #[.string (bs ib), .string (bs ub), .int .i64 sa, .int .i64 tb, .int .i64 kb, .string (bs rb)] 38)).alloc (.cells #[.string (bs ic), .string (bs uc), .int .i64 sc, .int .i64 tc, .int .i64 kc, .string (bs rc)] 38)).heap[w.heap.size + 1]? = some (.cells #[.string (bs ib), .string (bs ub), .int .i64 sa, .int .i64 tb, .int .i64 kb, .string (bs rb)] 38 (0, 0)) := by
    rw [Below.heap_alloc _ _ _ (by omega), ← hs1, heap_alloc_new]
  have g3 : (((w.alloc (.cells #[.string (bs ia), .string (bs ua), .int .i64 sa, .int .i64 ta, .int .i64 ka, .string (bs ra)] 38)).alloc (.cells #[.string (bs ib), .string (bs ub), .int .i64 sa, .int .i64 tb, .int .i64 kb, .string (bs rb)] 38)).alloc (.cells #[.string (bs ic), .string (bs uc), .int .i64 sc, .int .i64 tc, .int .i64 kc, .string (bs rc)] 38)).heap[w.heap.size + 2]? = some (.cells #[.string (bs ic), .string (bs uc), .int .i64 sc, .int .i64 tc, .int .i64 kc, .string (bs rc)] 38 (0, 0)) := by
    rw [← hs2, heap_alloc_new]
  have hb0 : Below w.heap.size w (((w.alloc (.cells #[.string (bs ia), .string (bs ua), .int .i64 sa, .int .i64 ta, .int .i64 ka, .string (bs ra)] 38)).alloc (.cells #[.string (bs ib), .string (bs ub), .int .i64 sa, .int .i64 tb, .int .i64 kb, .string (bs rb)] 38)).alloc (.cells #[.string (bs ic), .string (bs uc), .int .i64 sc, .int .i64 tc, .int .i64 kc, .string (bs rc)] 38)) := ((Below.refl _ _).alloc (Nat.le_refl _) _).alloc (by omega) _ |>.alloc (by omega) _
  have G1 := Lib.hid g1
  have G2 := Lib.hid g2
  have G3 := Lib.hid g3
  have B0 := Lib.hid hb0
  have y1 := bs_toList ia
  have y2 := bs_toList ib
  clear hs1 hs2 g1 g2 g3 hb0
  go_enter Tryd.func7, Tryd.ntmps7
  go_wp2_with fail
  have hb0 := B0.out
  (with_reducible refine Calls.mono (cs _ (hL.below hb0)) ?_)
  rintro e w1 ⟨rfl, hbx⟩
  replace G1 := Lib.hid (keep_blk hbx G1.out)
  replace G2 := Lib.hid (keep_blk hbx G2.out)
  replace G3 := Lib.hid (keep_blk hbx G3.out)
  have hb1 := hb0.trans (hbx.mono hb0.size)
  clear hbx cs hb0 B0
  obtain ⟨pG10, pG11, pG12, pG13, pG14, pG15⟩ := sixT G1.out
  obtain ⟨pG20, pG21, pG22, pG23, pG24, pG25⟩ := sixT G2.out
  obtain ⟨pG30, pG31, pG32, pG33, pG34, pG35⟩ := sixT G3.out
  go_wp2_with fail
  (with_reducible refine Calls.mono (c1 _) ?_)
  rintro e w2 ⟨rfl, hbx⟩
  clear pG10 pG11 pG12 pG13 pG14 pG15 pG20 pG21 pG22 pG23 pG24 pG25 pG30 pG31 pG32 pG33 pG34 pG35
  replace G1 := Lib.hid (keep_blk hbx G1.out)
  replace G2 := Lib.hid (keep_blk hbx G2.out)
  replace G3 := Lib.hid (keep_blk hbx G3.out)
  have hb2 := hb1.trans (hbx.mono hb1.size)
  clear hbx hb1
  obtain ⟨pG10, pG11, pG12, pG13, pG14, pG15⟩ := sixT G1.out
  obtain ⟨pG20, pG21, pG22, pG23, pG24, pG25⟩ := sixT G2.out
  obtain ⟨pG30, pG31, pG32, pG33, pG34, pG35⟩ := sixT G3.out
  go_wp2_with fail
  (with_reducible refine Calls.mono (c2 _) ?_)
  rintro e w3 ⟨rfl, hbx⟩
  clear pG10 pG11 pG12 pG13 pG14 pG15 pG20 pG21 pG22 pG23 pG24 pG25 pG30 pG31 pG32 pG33 pG34 pG35
  replace G1 := Lib.hid (keep_blk hbx G1.out)
  replace G2 := Lib.hid (keep_blk hbx G2.out)
  replace G3 := Lib.hid (keep_blk hbx G3.out)
  have hb3 := hb2.trans (hbx.mono hb2.size)
  clear hbx hb2
  obtain ⟨pG10, pG11, pG12, pG13, pG14, pG15⟩ := sixT G1.out
  obtain ⟨pG20, pG21, pG22, pG23, pG24, pG25⟩ := sixT G2.out
  obtain ⟨pG30, pG31, pG32, pG33, pG34, pG35⟩ := sixT G3.out
  go_wp2_with fail
  (with_reducible refine Calls.mono (c3 _) ?_)
  rintro e w4 ⟨rfl, hbx⟩
  clear pG10 pG11 pG12 pG13 pG14 pG15 pG20 pG21 pG22 pG23 pG24 pG25 pG30 pG31 pG32 pG33 pG34 pG35
  replace G1 := Lib.hid (keep_blk hbx G1.out)
  replace G2 := Lib.hid (keep_blk hbx G2.out)
  replace G3 := Lib.hid (keep_blk hbx G3.out)
  have hb4 := hb3.trans (hbx.mono hb3.size)
  clear hbx hb3
  obtain ⟨pG10, pG11, pG12, pG13, pG14, pG15⟩ := sixT G1.out
  obtain ⟨pG20, pG21, pG22, pG23, pG24, pG25⟩ := sixT G2.out
  obtain ⟨pG30, pG31, pG32, pG33, pG34, pG35⟩ := sixT G3.out
  go_wp2_with fail
  (with_reducible refine Calls.mono (c4 _) ?_)
  rintro e w5 ⟨rfl, hbx⟩
  clear pG10 pG11 pG12 pG13 pG14 pG15 pG20 pG21 pG22 pG23 pG24 pG25 pG30 pG31 pG32 pG33 pG34 pG35
  replace G1 := Lib.hid (keep_blk hbx G1.out)
  replace G2 := Lib.hid (keep_blk hbx G2.out)
  replace G3 := Lib.hid (keep_blk hbx G3.out)
  have hb5 := hb4.trans (hbx.mono hb4.size)
  clear hbx hb4
  obtain ⟨pG10, pG11, pG12, pG13, pG14, pG15⟩ := sixT G1.out
  obtain ⟨pG20, pG21, pG22, pG23, pG24, pG25⟩ := sixT G2.out
  obtain ⟨pG30, pG31, pG32, pG33, pG34, pG35⟩ := sixT G3.out
  go_wp2
  go_quiet (fail)
  go_wp2
  go_ret
  exact ⟨rfl, below_drewN hb5 _⟩
set_option maxRecDepth 100000 in
set_option maxHeartbeats 2000000 in
theorem ord_cf (ia ua ra ib ub rb ic uc rc : List UInt8) (sa ta ka kb sc tc kc : Int) (z z4 z5 : Bool) (w : World) (hL : LaidA w) (d5 : (ia == ib) = false) 
    (c1 : ∀ W, Calls Tryd.prog 16 #[.agg #[.string (bs ia), .string (bs ua), .int .i64 sa, .int .i64 ta, .int .i64 ka, .string (bs ra)], .agg #[.string (bs ib), .string (bs ub), .int .i64 sa, .int .i64 ta, .int .i64 kb, .string (bs rb)]] W (BoolPost W true)) (c2 : ∀ W, Calls Tryd.prog 16 #[.agg #[.string (bs ib), .string (bs ub), .int .i64 sa, .int .i64 ta, .int .i64 kb, .string (bs rb)], .agg #[.string (bs ia), .string (bs ua), .int .i64 sa, .int .i64 ta, .int .i64 ka, .string (bs ra)]] W (BoolPost W false)) (c3 : ∀ W, Calls Tryd.prog 16 #[.agg #[.string (bs ia), .string (bs ua), .int .i64 sa, .int .i64 ta, .int .i64 ka, .string (bs ra)], .agg #[.string (bs ia), .string (bs ua), .int .i64 sa, .int .i64 ta, .int .i64 ka, .string (bs ra)]] W (BoolPost W false)) (c4 : ∀ W, Calls Tryd.prog 16 #[.agg #[.string (bs ib), .string (bs ub), .int .i64 sa, .int .i64 ta, .int .i64 kb, .string (bs rb)], .agg #[.string (bs ic), .string (bs uc), .int .i64 sc, .int .i64 tc, .int .i64 kc, .string (bs rc)]] W (BoolPost W false)) (c5 : ∀ W, Calls Tryd.prog 16 #[.agg #[.string (bs ia), .string (bs ua), .int .i64 sa, .int .i64 ta, .int .i64 ka, .string (bs ra)], .agg #[.string (bs ic), .string (bs uc), .int .i64 sc, .int .i64 tc, .int .i64 kc, .string (bs rc)]] W (BoolPost W z5)) : Calls Tryd.prog 7 #[.agg #[.string (bs ia), .string (bs ua), .int .i64 sa, .int .i64 ta, .int .i64 ka, .string (bs ra)], .agg #[.string (bs ib), .string (bs ub), .int .i64 sa, .int .i64 ta, .int .i64 kb, .string (bs rb)], .agg #[.string (bs ic), .string (bs uc), .int .i64 sc, .int .i64 tc, .int .i64 kc, .string (bs rc)]] w (BoolPost w true) := by
  have cs := fun W hW => small_any W hW
  have hs1 : (w.alloc (.cells #[.string (bs ia), .string (bs ua), .int .i64 sa, .int .i64 ta, .int .i64 ka, .string (bs ra)] 38)).heap.size = w.heap.size + 1 := by simp
  have hs2 : ((w.alloc (.cells #[.string (bs ia), .string (bs ua), .int .i64 sa, .int .i64 ta, .int .i64 ka, .string (bs ra)] 38)).alloc (.cells #[.string (bs ib), .string (bs ub), .int .i64 sa, .int .i64 ta, .int .i64 kb, .string (bs rb)] 38)).heap.size = w.heap.size + 2 := by simp
  have g1 : (((w.alloc (.cells #[.string (bs ia), .string (bs ua), .int .i64 sa, .int .i64 ta, .int .i64 ka, .string (bs ra)] 38)).alloc (.cells #[.string (bs ib), .string (bs ub), .int .i64 sa, .int .i64 ta, .int .i64 kb, .string (bs rb)] 38)).alloc (.cells #[.string (bs ic), .string (bs uc), .int .i64 sc, .int .i64 tc, .int .i64 kc, .string (bs rc)] 38)).heap[w.heap.size]? = some (.cells #[.string (bs ia), .string (bs ua), .int .i64 sa, .int .i64 ta, .int .i64 ka, .string (bs ra)] 38 (0, 0)) := by
    rw [Below.heap_alloc _ _ _ (by omega), Below.heap_alloc _ _ _ (by omega), heap_alloc_new]
  have g2 : (((w.alloc (.cells #[.string (bs ia), .string (bs ua), .int .i64 sa, .int .i64 ta, .int .i64 ka, .string (bs ra)] 38)).alloc (.cells #[.string (bs ib), .string (bs ub), .int .i64 sa, .int .i64 ta, .int .i64 kb, .string (bs rb)] 38)).alloc (.cells #[.string (bs ic), .string (bs uc), .int .i64 sc, .int .i64 tc, .int .i64 kc, .string (bs rc)] 38)).heap[w.heap.size + 1]? = some (.cells #[.string (bs ib), .string (bs ub), .int .i64 sa, .int .i64 ta, .int .i64 kb, .string (bs rb)] 38 (0, 0)) := by
    rw [Below.heap_alloc _ _ _ (by omega), ← hs1, heap_alloc_new]
  have g3 : (((w.alloc (.cells #[.string (bs ia), .string (bs ua), .int .i64 sa, .int .i64 ta, .int .i64 ka, .string (bs ra)] 38)).alloc (.cells #[.string (bs ib), .string (bs ub), .int .i64 sa, .int .i64 ta, .int .i64 kb, .string (bs rb)] 38)).alloc (.cells #[.string (bs ic), .string (bs uc), .int .i64 sc, .int .i64 tc, .int .i64 kc, .string (bs rc)] 38)).heap[w.heap.size + 2]? = some (.cells #[.string (bs ic), .string (bs uc), .int .i64 sc, .int .i64 tc, .int .i64 kc, .string (bs rc)] 38 (0, 0)) := by
    rw [← hs2, heap_alloc_new]
  have hb0 : Below w.heap.size w (((w.alloc (.cells #[.string (bs ia), .string (bs ua), .int .i64 sa, .int .i64 ta, .int .i64 ka, .string (bs ra)] 38)).alloc (.cells #[.string (bs ib), .string (bs ub), .int .i64 sa, .int .i64 ta, .int .i64 kb, .string (bs rb)] 38)).alloc (.cells #[.string (bs ic), .string (bs uc), .int .i64 sc, .int .i64 tc, .int .i64 kc, .string (bs rc)] 38)) := ((Below.refl _ _).alloc (Nat.le_refl _) _).alloc (by omega) _ |>.alloc (by omega) _
  have G1 := Lib.hid g1
  have G2 := Lib.hid g2
  have G3 := Lib.hid g3
  have B0 := Lib.hid hb0
  have y1 := bs_toList ia
  have y2 := bs_toList ib
  clear hs1 hs2 g1 g2 g3 hb0
  go_enter Tryd.func7, Tryd.ntmps7
  go_wp2_with fail
  have hb0 := B0.out
  (with_reducible refine Calls.mono (cs _ (hL.below hb0)) ?_)
  rintro e w1 ⟨rfl, hbx⟩
  replace G1 := Lib.hid (keep_blk hbx G1.out)
  replace G2 := Lib.hid (keep_blk hbx G2.out)
  replace G3 := Lib.hid (keep_blk hbx G3.out)
  have hb1 := hb0.trans (hbx.mono hb0.size)
  clear hbx cs hb0 B0
  obtain ⟨pG10, pG11, pG12, pG13, pG14, pG15⟩ := sixT G1.out
  obtain ⟨pG20, pG21, pG22, pG23, pG24, pG25⟩ := sixT G2.out
  obtain ⟨pG30, pG31, pG32, pG33, pG34, pG35⟩ := sixT G3.out
  go_wp2_with fail
  (with_reducible refine Calls.mono (c1 _) ?_)
  rintro e w2 ⟨rfl, hbx⟩
  clear pG10 pG11 pG12 pG13 pG14 pG15 pG20 pG21 pG22 pG23 pG24 pG25 pG30 pG31 pG32 pG33 pG34 pG35
  replace G1 := Lib.hid (keep_blk hbx G1.out)
  replace G2 := Lib.hid (keep_blk hbx G2.out)
  replace G3 := Lib.hid (keep_blk hbx G3.out)
  have hb2 := hb1.trans (hbx.mono hb1.size)
  clear hbx hb1
  obtain ⟨pG10, pG11, pG12, pG13, pG14, pG15⟩ := sixT G1.out
  obtain ⟨pG20, pG21, pG22, pG23, pG24, pG25⟩ := sixT G2.out
  obtain ⟨pG30, pG31, pG32, pG33, pG34, pG35⟩ := sixT G3.out
  go_wp2_with fail
  (with_reducible refine Calls.mono (c2 _) ?_)
  rintro e w3 ⟨rfl, hbx⟩
  clear pG10 pG11 pG12 pG13 pG14 pG15 pG20 pG21 pG22 pG23 pG24 pG25 pG30 pG31 pG32 pG33 pG34 pG35
  replace G1 := Lib.hid (keep_blk hbx G1.out)
  replace G2 := Lib.hid (keep_blk hbx G2.out)
  replace G3 := Lib.hid (keep_blk hbx G3.out)
  have hb3 := hb2.trans (hbx.mono hb2.size)
  clear hbx hb2
  obtain ⟨pG10, pG11, pG12, pG13, pG14, pG15⟩ := sixT G1.out
  obtain ⟨pG20, pG21, pG22, pG23, pG24, pG25⟩ := sixT G2.out
  obtain ⟨pG30, pG31, pG32, pG33, pG34, pG35⟩ := sixT G3.out
  go_wp2_with fail
  (with_reducible refine Calls.mono (c3 _) ?_)
  rintro e w4 ⟨rfl, hbx⟩
  clear pG10 pG11 pG12 pG13 pG14 pG15 pG20 pG21 pG22 pG23 pG24 pG25 pG30 pG31 pG32 pG33 pG34 pG35
  replace G1 := Lib.hid (keep_blk hbx G1.out)
  replace G2 := Lib.hid (keep_blk hbx G2.out)
  replace G3 := Lib.hid (keep_blk hbx G3.out)
  have hb4 := hb3.trans (hbx.mono hb3.size)
  clear hbx hb3
  obtain ⟨pG10, pG11, pG12, pG13, pG14, pG15⟩ := sixT G1.out
  obtain ⟨pG20, pG21, pG22, pG23, pG24, pG25⟩ := sixT G2.out
  obtain ⟨pG30, pG31, pG32, pG33, pG34, pG35⟩ := sixT G3.out
  go_wp2_with fail
  (with_reducible refine Calls.mono (c4 _) ?_)
  rintro e w5 ⟨rfl, hbx⟩
  clear pG10 pG11 pG12 pG13 pG14 pG15 pG20 pG21 pG22 pG23 pG24 pG25 pG30 pG31 pG32 pG33 pG34 pG35
  replace G1 := Lib.hid (keep_blk hbx G1.out)
  replace G2 := Lib.hid (keep_blk hbx G2.out)
  replace G3 := Lib.hid (keep_blk hbx G3.out)
  have hb5 := hb4.trans (hbx.mono hb4.size)
  clear hbx hb4
  obtain ⟨pG10, pG11, pG12, pG13, pG14, pG15⟩ := sixT G1.out
  obtain ⟨pG20, pG21, pG22, pG23, pG24, pG25⟩ := sixT G2.out
  obtain ⟨pG30, pG31, pG32, pG33, pG34, pG35⟩ := sixT G3.out
  go_wp2
  go_quiet (fail)
  go_wp2
  go_ret
  exact ⟨rfl, below_drewN hb5 _⟩
set_option maxRecDepth 100000 in
set_option maxHeartbeats 2000000 in
theorem ord_d (ia ua ra ib ub rb ic uc rc : List UInt8) (sa ta ka sb tb kb sc tc kc : Int) (z z4 z5 : Bool) (w : World) (hL : LaidA w) (n1 : ¬ sa = sb) (d1 : decide (sa ≤ sb) = true) (d2 : (sa == sb) = false) 
    (c1 : ∀ W, Calls Tryd.prog 16 #[.agg #[.string (bs ia), .string (bs ua), .int .i64 sa, .int .i64 ta, .int .i64 ka, .string (bs ra)], .agg #[.string (bs ib), .string (bs ub), .int .i64 sb, .int .i64 tb, .int .i64 kb, .string (bs rb)]] W (BoolPost W false)) (c2 : ∀ W, Calls Tryd.prog 16 #[.agg #[.string (bs ib), .string (bs ub), .int .i64 sb, .int .i64 tb, .int .i64 kb, .string (bs rb)], .agg #[.string (bs ia), .string (bs ua), .int .i64 sa, .int .i64 ta, .int .i64 ka, .string (bs ra)]] W (BoolPost W true)) (c3 : ∀ W, Calls Tryd.prog 16 #[.agg #[.string (bs ia), .string (bs ua), .int .i64 sa, .int .i64 ta, .int .i64 ka, .string (bs ra)], .agg #[.string (bs ia), .string (bs ua), .int .i64 sa, .int .i64 ta, .int .i64 ka, .string (bs ra)]] W (BoolPost W false)) (c4 : ∀ W, Calls Tryd.prog 16 #[.agg #[.string (bs ib), .string (bs ub), .int .i64 sb, .int .i64 tb, .int .i64 kb, .string (bs rb)], .agg #[.string (bs ic), .string (bs uc), .int .i64 sc, .int .i64 tc, .int .i64 kc, .string (bs rc)]] W (BoolPost W z4)) (c5 : ∀ W, Calls Tryd.prog 16 #[.agg #[.string (bs ia), .string (bs ua), .int .i64 sa, .int .i64 ta, .int .i64 ka, .string (bs ra)], .agg #[.string (bs ic), .string (bs uc), .int .i64 sc, .int .i64 tc, .int .i64 kc, .string (bs rc)]] W (BoolPost W z5)) : Calls Tryd.prog 7 #[.agg #[.string (bs ia), .string (bs ua), .int .i64 sa, .int .i64 ta, .int .i64 ka, .string (bs ra)], .agg #[.string (bs ib), .string (bs ub), .int .i64 sb, .int .i64 tb, .int .i64 kb, .string (bs rb)], .agg #[.string (bs ic), .string (bs uc), .int .i64 sc, .int .i64 tc, .int .i64 kc, .string (bs rc)]] w (BoolPost w true) := by
  have cs := fun W hW => small_any W hW
  have hs1 : (w.alloc (.cells #[.string (bs ia), .string (bs ua), .int .i64 sa, .int .i64 ta, .int .i64 ka, .string (bs ra)] 38)).heap.size = w.heap.size + 1 := by simp
  have hs2 : ((w.alloc (.cells #[.string (bs ia), .string (bs ua), .int .i64 sa, .int .i64 ta, .int .i64 ka, .string (bs ra)] 38)).alloc (.cells #[.string (bs ib), .string (bs ub), .int .i64 sb, .int .i64 tb, .int .i64 kb, .string (bs rb)] 38)).heap.size = w.heap.size + 2 := by simp
  have g1 : (((w.alloc (.cells #[.string (bs ia), .string (bs ua), .int .i64 sa, .int .i64 ta, .int .i64 ka, .string (bs ra)] 38)).alloc (.cells #[.string (bs ib), .string (bs ub), .int .i64 sb, .int .i64 tb, .int .i64 kb, .string (bs rb)] 38)).alloc (.cells #[.string (bs ic), .string (bs uc), .int .i64 sc, .int .i64 tc, .int .i64 kc, .string (bs rc)] 38)).heap[w.heap.size]? = some (.cells #[.string (bs ia), .string (bs ua), .int .i64 sa, .int .i64 ta, .int .i64 ka, .string (bs ra)] 38 (0, 0)) := by
    rw [Below.heap_alloc _ _ _ (by omega), Below.heap_alloc _ _ _ (by omega), heap_alloc_new]
  have g2 : (((w.alloc (.cells #[.string (bs ia), .string (bs ua), .int .i64 sa, .int .i64 ta, .int .i64 ka, .string (bs ra)] 38)).alloc (.cells #[.string (bs ib), .string (bs ub), .int .i64 sb, .int .i64 tb, .int .i64 kb, .string (bs rb)] 38)).alloc (.cells #[.string (bs ic), .string (bs uc), .int .i64 sc, .int .i64 tc, .int .i64 kc, .string (bs rc)] 38)).heap[w.heap.size + 1]? = some (.cells #[.string (bs ib), .string (bs ub), .int .i64 sb, .int .i64 tb, .int .i64 kb, .string (bs rb)] 38 (0, 0)) := by
    rw [Below.heap_alloc _ _ _ (by omega), ← hs1, heap_alloc_new]
  have g3 : (((w.alloc (.cells #[.string (bs ia), .string (bs ua), .int .i64 sa, .int .i64 ta, .int .i64 ka, .string (bs ra)] 38)).alloc (.cells #[.string (bs ib), .string (bs ub), .int .i64 sb, .int .i64 tb, .int .i64 kb, .string (bs rb)] 38)).alloc (.cells #[.string (bs ic), .string (bs uc), .int .i64 sc, .int .i64 tc, .int .i64 kc, .string (bs rc)] 38)).heap[w.heap.size + 2]? = some (.cells #[.string (bs ic), .string (bs uc), .int .i64 sc, .int .i64 tc, .int .i64 kc, .string (bs rc)] 38 (0, 0)) := by
    rw [← hs2, heap_alloc_new]
  have hb0 : Below w.heap.size w (((w.alloc (.cells #[.string (bs ia), .string (bs ua), .int .i64 sa, .int .i64 ta, .int .i64 ka, .string (bs ra)] 38)).alloc (.cells #[.string (bs ib), .string (bs ub), .int .i64 sb, .int .i64 tb, .int .i64 kb, .string (bs rb)] 38)).alloc (.cells #[.string (bs ic), .string (bs uc), .int .i64 sc, .int .i64 tc, .int .i64 kc, .string (bs rc)] 38)) := ((Below.refl _ _).alloc (Nat.le_refl _) _).alloc (by omega) _ |>.alloc (by omega) _
  have G1 := Lib.hid g1
  have G2 := Lib.hid g2
  have G3 := Lib.hid g3
  have B0 := Lib.hid hb0
  have y1 := bs_toList ia
  have y2 := bs_toList ib
  clear hs1 hs2 g1 g2 g3 hb0
  go_enter Tryd.func7, Tryd.ntmps7
  go_wp2_with fail
  have hb0 := B0.out
  (with_reducible refine Calls.mono (cs _ (hL.below hb0)) ?_)
  rintro e w1 ⟨rfl, hbx⟩
  replace G1 := Lib.hid (keep_blk hbx G1.out)
  replace G2 := Lib.hid (keep_blk hbx G2.out)
  replace G3 := Lib.hid (keep_blk hbx G3.out)
  have hb1 := hb0.trans (hbx.mono hb0.size)
  clear hbx cs hb0 B0
  obtain ⟨pG10, pG11, pG12, pG13, pG14, pG15⟩ := sixT G1.out
  obtain ⟨pG20, pG21, pG22, pG23, pG24, pG25⟩ := sixT G2.out
  obtain ⟨pG30, pG31, pG32, pG33, pG34, pG35⟩ := sixT G3.out
  go_wp2_with fail
  (with_reducible refine Calls.mono (c1 _) ?_)
  rintro e w2 ⟨rfl, hbx⟩
  clear pG10 pG11 pG12 pG13 pG14 pG15 pG20 pG21 pG22 pG23 pG24 pG25 pG30 pG31 pG32 pG33 pG34 pG35
  replace G1 := Lib.hid (keep_blk hbx G1.out)
  replace G2 := Lib.hid (keep_blk hbx G2.out)
  replace G3 := Lib.hid (keep_blk hbx G3.out)
  have hb2 := hb1.trans (hbx.mono hb1.size)
  clear hbx hb1
  obtain ⟨pG10, pG11, pG12, pG13, pG14, pG15⟩ := sixT G1.out
  obtain ⟨pG20, pG21, pG22, pG23, pG24, pG25⟩ := sixT G2.out
  obtain ⟨pG30, pG31, pG32, pG33, pG34, pG35⟩ := sixT G3.out
  go_wp2_with fail
  (with_reducible refine Calls.mono (c2 _) ?_)
  rintro e w3 ⟨rfl, hbx⟩
  clear pG10 pG11 pG12 pG13 pG14 pG15 pG20 pG21 pG22 pG23 pG24 pG25 pG30 pG31 pG32 pG33 pG34 pG35
  replace G1 := Lib.hid (keep_blk hbx G1.out)
  replace G2 := Lib.hid (keep_blk hbx G2.out)
  replace G3 := Lib.hid (keep_blk hbx G3.out)
  have hb3 := hb2.trans (hbx.mono hb2.size)
  clear hbx hb2
  obtain ⟨pG10, pG11, pG12, pG13, pG14, pG15⟩ := sixT G1.out
  obtain ⟨pG20, pG21, pG22, pG23, pG24, pG25⟩ := sixT G2.out
  obtain ⟨pG30, pG31, pG32, pG33, pG34, pG35⟩ := sixT G3.out
  go_wp2_with fail
  (with_reducible refine Calls.mono (c3 _) ?_)
  rintro e w4 ⟨rfl, hbx⟩
  clear pG10 pG11 pG12 pG13 pG14 pG15 pG20 pG21 pG22 pG23 pG24 pG25 pG30 pG31 pG32 pG33 pG34 pG35
  replace G1 := Lib.hid (keep_blk hbx G1.out)
  replace G2 := Lib.hid (keep_blk hbx G2.out)
  replace G3 := Lib.hid (keep_blk hbx G3.out)
  have hb4 := hb3.trans (hbx.mono hb3.size)
  clear hbx hb3
  obtain ⟨pG10, pG11, pG12, pG13, pG14, pG15⟩ := sixT G1.out
  obtain ⟨pG20, pG21, pG22, pG23, pG24, pG25⟩ := sixT G2.out
  obtain ⟨pG30, pG31, pG32, pG33, pG34, pG35⟩ := sixT G3.out
  go_wp2
  go_quiet (fail)
  go_wp2
  go_ret
  exact ⟨rfl, below_drewN hb4 _⟩
set_option maxRecDepth 100000 in
set_option maxHeartbeats 2000000 in
theorem ord_e (ia ua ra ib ub rb ic uc rc : List UInt8) (sa ta ka tb kb sc tc kc : Int) (z z4 z5 : Bool) (w : World) (hL : LaidA w) (n2 : ¬ ta = tb) (d3 : decide (ta ≤ tb) = true) (d4 : (ta == tb) = false) 
    (c1 : ∀ W, Calls Tryd.prog 16 #[.agg #[.string (bs ia), .string (bs ua), .int .i64 sa, .int .i64 ta, .int .i64 ka, .string (bs ra)], .agg #[.string (bs ib), .string (bs ub), .int .i64 sa, .int .i64 tb, .int .i64 kb, .string (bs rb)]] W (BoolPost W false)) (c2 : ∀ W, Calls Tryd.prog 16 #[.agg #[.string (bs ib), .string (bs ub), .int .i64 sa, .int .i64 tb, .int .i64 kb, .string (bs rb)], .agg #[.string (bs ia), .string (bs ua), .int .i64 sa, .int .i64 ta, .int .i64 ka, .string (bs ra)]] W (BoolPost W true)) (c3 : ∀ W, Calls Tryd.prog 16 #[.agg #[.string (bs ia), .string (bs ua), .int .i64 sa, .int .i64 ta, .int .i64 ka, .string (bs ra)], .agg #[.string (bs ia), .string (bs ua), .int .i64 sa, .int .i64 ta, .int .i64 ka, .string (bs ra)]] W (BoolPost W false)) (c4 : ∀ W, Calls Tryd.prog 16 #[.agg #[.string (bs ib), .string (bs ub), .int .i64 sa, .int .i64 tb, .int .i64 kb, .string (bs rb)], .agg #[.string (bs ic), .string (bs uc), .int .i64 sc, .int .i64 tc, .int .i64 kc, .string (bs rc)]] W (BoolPost W z4)) (c5 : ∀ W, Calls Tryd.prog 16 #[.agg #[.string (bs ia), .string (bs ua), .int .i64 sa, .int .i64 ta, .int .i64 ka, .string (bs ra)], .agg #[.string (bs ic), .string (bs uc), .int .i64 sc, .int .i64 tc, .int .i64 kc, .string (bs rc)]] W (BoolPost W z5)) : Calls Tryd.prog 7 #[.agg #[.string (bs ia), .string (bs ua), .int .i64 sa, .int .i64 ta, .int .i64 ka, .string (bs ra)], .agg #[.string (bs ib), .string (bs ub), .int .i64 sa, .int .i64 tb, .int .i64 kb, .string (bs rb)], .agg #[.string (bs ic), .string (bs uc), .int .i64 sc, .int .i64 tc, .int .i64 kc, .string (bs rc)]] w (BoolPost w true) := by
  have cs := fun W hW => small_any W hW
  have hs1 : (w.alloc (.cells #[.string (bs ia), .string (bs ua), .int .i64 sa, .int .i64 ta, .int .i64 ka, .string (bs ra)] 38)).heap.size = w.heap.size + 1 := by simp
  have hs2 : ((w.alloc (.cells #[.string (bs ia), .string (bs ua), .int .i64 sa, .int .i64 ta, .int .i64 ka, .string (bs ra)] 38)).alloc (.cells #[.string (bs ib), .string (bs ub), .int .i64 sa, .int .i64 tb, .int .i64 kb, .string (bs rb)] 38)).heap.size = w.heap.size + 2 := by simp
  have g1 : (((w.alloc (.cells #[.string (bs ia), .string (bs ua), .int .i64 sa, .int .i64 ta, .int .i64 ka, .string (bs ra)] 38)).alloc (.cells #[.string (bs ib), .string (bs ub), .int .i64 sa, .int .i64 tb, .int .i64 kb, .string (bs rb)] 38)).alloc (.cells #[.string (bs ic), .string (bs uc), .int .i64 sc, .int .i64 tc, .int .i64 kc, .string (bs rc)] 38)).heap[w.heap.size]? = some (.cells #[.string (bs ia), .string (bs ua), .int .i64 sa, .int .i64 ta, .int .i64 ka, .string (bs ra)] 38 (0, 0)) := by
    rw [Below.heap_alloc _ _ _ (by omega), Below.heap_alloc _ _ _ (by omega), heap_alloc_new]
  have g2 : (((w.alloc (.cells #[.string (bs ia), .string (bs ua), .int .i64 sa, .int .i64 ta, .int .i64 ka, .string (bs ra)] 38)).alloc (.cells #[.string (bs ib), .string (bs ub), .int .i64 sa, .int .i64 tb, .int .i64 kb, .string (bs rb)] 38)).alloc (.cells #[.string (bs ic), .string (bs uc), .int .i64 sc, .int .i64 tc, .int .i64 kc, .string (bs rc)] 38)).heap[w.heap.size + 1]? = some (.cells #[.string (bs ib), .string (bs ub), .int .i64 sa, .int .i64 tb, .int .i64 kb, .string (bs rb)] 38 (0, 0)) := by
    rw [Below.heap_alloc _ _ _ (by omega), ← hs1, heap_alloc_new]
  have g3 : (((w.alloc (.cells #[.string (bs ia), .string (bs ua), .int .i64 sa, .int .i64 ta, .int .i64 ka, .string (bs ra)] 38)).alloc (.cells #[.string (bs ib), .string (bs ub), .int .i64 sa, .int .i64 tb, .int .i64 kb, .string (bs rb)] 38)).alloc (.cells #[.string (bs ic), .string (bs uc), .int .i64 sc, .int .i64 tc, .int .i64 kc, .string (bs rc)] 38)).heap[w.heap.size + 2]? = some (.cells #[.string (bs ic), .string (bs uc), .int .i64 sc, .int .i64 tc, .int .i64 kc, .string (bs rc)] 38 (0, 0)) := by
    rw [← hs2, heap_alloc_new]
  have hb0 : Below w.heap.size w (((w.alloc (.cells #[.string (bs ia), .string (bs ua), .int .i64 sa, .int .i64 ta, .int .i64 ka, .string (bs ra)] 38)).alloc (.cells #[.string (bs ib), .string (bs ub), .int .i64 sa, .int .i64 tb, .int .i64 kb, .string (bs rb)] 38)).alloc (.cells #[.string (bs ic), .string (bs uc), .int .i64 sc, .int .i64 tc, .int .i64 kc, .string (bs rc)] 38)) := ((Below.refl _ _).alloc (Nat.le_refl _) _).alloc (by omega) _ |>.alloc (by omega) _
  have G1 := Lib.hid g1
  have G2 := Lib.hid g2
  have G3 := Lib.hid g3
  have B0 := Lib.hid hb0
  have y1 := bs_toList ia
  have y2 := bs_toList ib
  clear hs1 hs2 g1 g2 g3 hb0
  go_enter Tryd.func7, Tryd.ntmps7
  go_wp2_with fail
  have hb0 := B0.out
  (with_reducible refine Calls.mono (cs _ (hL.below hb0)) ?_)
  rintro e w1 ⟨rfl, hbx⟩
  replace G1 := Lib.hid (keep_blk hbx G1.out)
  replace G2 := Lib.hid (keep_blk hbx G2.out)
  replace G3 := Lib.hid (keep_blk hbx G3.out)
  have hb1 := hb0.trans (hbx.mono hb0.size)
  clear hbx cs hb0 B0
  obtain ⟨pG10, pG11, pG12, pG13, pG14, pG15⟩ := sixT G1.out
  obtain ⟨pG20, pG21, pG22, pG23, pG24, pG25⟩ := sixT G2.out
  obtain ⟨pG30, pG31, pG32, pG33, pG34, pG35⟩ := sixT G3.out
  go_wp2_with fail
  (with_reducible refine Calls.mono (c1 _) ?_)
  rintro e w2 ⟨rfl, hbx⟩
  clear pG10 pG11 pG12 pG13 pG14 pG15 pG20 pG21 pG22 pG23 pG24 pG25 pG30 pG31 pG32 pG33 pG34 pG35
  replace G1 := Lib.hid (keep_blk hbx G1.out)
  replace G2 := Lib.hid (keep_blk hbx G2.out)
  replace G3 := Lib.hid (keep_blk hbx G3.out)
  have hb2 := hb1.trans (hbx.mono hb1.size)
  clear hbx hb1
  obtain ⟨pG10, pG11, pG12, pG13, pG14, pG15⟩ := sixT G1.out
  obtain ⟨pG20, pG21, pG22, pG23, pG24, pG25⟩ := sixT G2.out
  obtain ⟨pG30, pG31, pG32, pG33, pG34, pG35⟩ := sixT G3.out
  go_wp2_with fail
  (with_reducible refine Calls.mono (c2 _) ?_)
  rintro e w3 ⟨rfl, hbx⟩
  clear pG10 pG11 pG12 pG13 pG14 pG15 pG20 pG21 pG22 pG23 pG24 pG25 pG30 pG31 pG32 pG33 pG34 pG35
  replace G1 := Lib.hid (keep_blk hbx G1.out)
  replace G2 := Lib.hid (keep_blk hbx G2.out)
  replace G3 := Lib.hid (keep_blk hbx G3.out)
  have hb3 := hb2.trans (hbx.mono hb2.size)
  clear hbx hb2
  obtain ⟨pG10, pG11, pG12, pG13, pG14, pG15⟩ := sixT G1.out
  obtain ⟨pG20, pG21, pG22, pG23, pG24, pG25⟩ := sixT G2.out
  obtain ⟨pG30, pG31, pG32, pG33, pG34, pG35⟩ := sixT G3.out
  go_wp2_with fail
  (with_reducible refine Calls.mono (c3 _) ?_)
  rintro e w4 ⟨rfl, hbx⟩
  clear pG10 pG11 pG12 pG13 pG14 pG15 pG20 pG21 pG22 pG23 pG24 pG25 pG30 pG31 pG32 pG33 pG34 pG35
  replace G1 := Lib.hid (keep_blk hbx G1.out)
  replace G2 := Lib.hid (keep_blk hbx G2.out)
  replace G3 := Lib.hid (keep_blk hbx G3.out)
  have hb4 := hb3.trans (hbx.mono hb3.size)
  clear hbx hb3
  obtain ⟨pG10, pG11, pG12, pG13, pG14, pG15⟩ := sixT G1.out
  obtain ⟨pG20, pG21, pG22, pG23, pG24, pG25⟩ := sixT G2.out
  obtain ⟨pG30, pG31, pG32, pG33, pG34, pG35⟩ := sixT G3.out
  go_wp2
  go_quiet (fail)
  go_wp2
  go_ret
  exact ⟨rfl, below_drewN hb4 _⟩
set_option maxRecDepth 100000 in
set_option maxHeartbeats 2000000 in
theorem ord_f (ia ua ra ib ub rb ic uc rc : List UInt8) (sa ta ka kb sc tc kc : Int) (z z4 z5 : Bool) (w : World) (hL : LaidA w) (d5 : (ia == ib) = false) 
    (c1 : ∀ W, Calls Tryd.prog 16 #[.agg #[.string (bs ia), .string (bs ua), .int .i64 sa, .int .i64 ta, .int .i64 ka, .string (bs ra)], .agg #[.string (bs ib), .string (bs ub), .int .i64 sa, .int .i64 ta, .int .i64 kb, .string (bs rb)]] W (BoolPost W false)) (c2 : ∀ W, Calls Tryd.prog 16 #[.agg #[.string (bs ib), .string (bs ub), .int .i64 sa, .int .i64 ta, .int .i64 kb, .string (bs rb)], .agg #[.string (bs ia), .string (bs ua), .int .i64 sa, .int .i64 ta, .int .i64 ka, .string (bs ra)]] W (BoolPost W true)) (c3 : ∀ W, Calls Tryd.prog 16 #[.agg #[.string (bs ia), .string (bs ua), .int .i64 sa, .int .i64 ta, .int .i64 ka, .string (bs ra)], .agg #[.string (bs ia), .string (bs ua), .int .i64 sa, .int .i64 ta, .int .i64 ka, .string (bs ra)]] W (BoolPost W false)) (c4 : ∀ W, Calls Tryd.prog 16 #[.agg #[.string (bs ib), .string (bs ub), .int .i64 sa, .int .i64 ta, .int .i64 kb, .string (bs rb)], .agg #[.string (bs ic), .string (bs uc), .int .i64 sc, .int .i64 tc, .int .i64 kc, .string (bs rc)]] W (BoolPost W z4)) (c5 : ∀ W, Calls Tryd.prog 16 #[.agg #[.string (bs ia), .string (bs ua), .int .i64 sa, .int .i64 ta, .int .i64 ka, .string (bs ra)], .agg #[.string (bs ic), .string (bs uc), .int .i64 sc, .int .i64 tc, .int .i64 kc, .string (bs rc)]] W (BoolPost W z5)) : Calls Tryd.prog 7 #[.agg #[.string (bs ia), .string (bs ua), .int .i64 sa, .int .i64 ta, .int .i64 ka, .string (bs ra)], .agg #[.string (bs ib), .string (bs ub), .int .i64 sa, .int .i64 ta, .int .i64 kb, .string (bs rb)], .agg #[.string (bs ic), .string (bs uc), .int .i64 sc, .int .i64 tc, .int .i64 kc, .string (bs rc)]] w (BoolPost w true) := by
  have cs := fun W hW => small_any W hW
  have hs1 : (w.alloc (.cells #[.string (bs ia), .string (bs ua), .int .i64 sa, .int .i64 ta, .int .i64 ka, .string (bs ra)] 38)).heap.size = w.heap.size + 1 := by simp
  have hs2 : ((w.alloc (.cells #[.string (bs ia), .string (bs ua), .int .i64 sa, .int .i64 ta, .int .i64 ka, .string (bs ra)] 38)).alloc (.cells #[.string (bs ib), .string (bs ub), .int .i64 sa, .int .i64 ta, .int .i64 kb, .string (bs rb)] 38)).heap.size = w.heap.size + 2 := by simp
  have g1 : (((w.alloc (.cells #[.string (bs ia), .string (bs ua), .int .i64 sa, .int .i64 ta, .int .i64 ka, .string (bs ra)] 38)).alloc (.cells #[.string (bs ib), .string (bs ub), .int .i64 sa, .int .i64 ta, .int .i64 kb, .string (bs rb)] 38)).alloc (.cells #[.string (bs ic), .string (bs uc), .int .i64 sc, .int .i64 tc, .int .i64 kc, .string (bs rc)] 38)).heap[w.heap.size]? = some (.cells #[.string (bs ia), .string (bs ua), .int .i64 sa, .int .i64 ta, .int .i64 ka, .string (bs ra)] 38 (0, 0)) := by
    rw [Below.heap_alloc _ _ _ (by omega), Below.heap_alloc _ _ _ (by omega), heap_alloc_new]
  have g2 : (((w.alloc (.cells #[.string (bs ia), .string (bs ua), .int .i64 sa, .int .i64 ta, .int .i64 ka, .string (bs ra)] 38)).alloc (.cells #[.string (bs ib), .string (bs ub), .int .i64 sa, .int .i64 ta, .int .i64 kb, .string (bs rb)] 38)).alloc (.cells #[.string (bs ic), .string (bs uc), .int .i64 sc, .int .i64 tc, .int .i64 kc, .string (bs rc)] 38)).heap[w.heap.size + 1]? = some (.cells #[.string (bs ib), .string (bs ub), .int .i64 sa, .int .i64 ta, .int .i64 kb, .string (bs rb)] 38 (0, 0)) := by
    rw [Below.heap_alloc _ _ _ (by omega), ← hs1, heap_alloc_new]
  have g3 : (((w.alloc (.cells #[.string (bs ia), .string (bs ua), .int .i64 sa, .int .i64 ta, .int .i64 ka, .string (bs ra)] 38)).alloc (.cells #[.string (bs ib), .string (bs ub), .int .i64 sa, .int .i64 ta, .int .i64 kb, .string (bs rb)] 38)).alloc (.cells #[.string (bs ic), .string (bs uc), .int .i64 sc, .int .i64 tc, .int .i64 kc, .string (bs rc)] 38)).heap[w.heap.size + 2]? = some (.cells #[.string (bs ic), .string (bs uc), .int .i64 sc, .int .i64 tc, .int .i64 kc, .string (bs rc)] 38 (0, 0)) := by
    rw [← hs2, heap_alloc_new]
  have hb0 : Below w.heap.size w (((w.alloc (.cells #[.string (bs ia), .string (bs ua), .int .i64 sa, .int .i64 ta, .int .i64 ka, .string (bs ra)] 38)).alloc (.cells #[.string (bs ib), .string (bs ub), .int .i64 sa, .int .i64 ta, .int .i64 kb, .string (bs rb)] 38)).alloc (.cells #[.string (bs ic), .string (bs uc), .int .i64 sc, .int .i64 tc, .int .i64 kc, .string (bs rc)] 38)) := ((Below.refl _ _).alloc (Nat.le_refl _) _).alloc (by omega) _ |>.alloc (by omega) _
  have G1 := Lib.hid g1
  have G2 := Lib.hid g2
  have G3 := Lib.hid g3
  have B0 := Lib.hid hb0
  have y1 := bs_toList ia
  have y2 := bs_toList ib
  clear hs1 hs2 g1 g2 g3 hb0
  go_enter Tryd.func7, Tryd.ntmps7
  go_wp2_with fail
  have hb0 := B0.out
  (with_reducible refine Calls.mono (cs _ (hL.below hb0)) ?_)
  rintro e w1 ⟨rfl, hbx⟩
  replace G1 := Lib.hid (keep_blk hbx G1.out)
  replace G2 := Lib.hid (keep_blk hbx G2.out)
  replace G3 := Lib.hid (keep_blk hbx G3.out)
  have hb1 := hb0.trans (hbx.mono hb0.size)
  clear hbx cs hb0 B0
  obtain ⟨pG10, pG11, pG12, pG13, pG14, pG15⟩ := sixT G1.out
  obtain ⟨pG20, pG21, pG22, pG23, pG24, pG25⟩ := sixT G2.out
  obtain ⟨pG30, pG31, pG32, pG33, pG34, pG35⟩ := sixT G3.out
  go_wp2_with fail
  (with_reducible refine Calls.mono (c1 _) ?_)
  rintro e w2 ⟨rfl, hbx⟩
  clear pG10 pG11 pG12 pG13 pG14 pG15 pG20 pG21 pG22 pG23 pG24 pG25 pG30 pG31 pG32 pG33 pG34 pG35
  replace G1 := Lib.hid (keep_blk hbx G1.out)
  replace G2 := Lib.hid (keep_blk hbx G2.out)
  replace G3 := Lib.hid (keep_blk hbx G3.out)
  have hb2 := hb1.trans (hbx.mono hb1.size)
  clear hbx hb1
  obtain ⟨pG10, pG11, pG12, pG13, pG14, pG15⟩ := sixT G1.out
  obtain ⟨pG20, pG21, pG22, pG23, pG24, pG25⟩ := sixT G2.out
  obtain ⟨pG30, pG31, pG32, pG33, pG34, pG35⟩ := sixT G3.out
  go_wp2_with fail
  (with_reducible refine Calls.mono (c2 _) ?_)
  rintro e w3 ⟨rfl, hbx⟩
  clear pG10 pG11 pG12 pG13 pG14 pG15 pG20 pG21 pG22 pG23 pG24 pG25 pG30 pG31 pG32 pG33 pG34 pG35
  replace G1 := Lib.hid (keep_blk hbx G1.out)
  replace G2 := Lib.hid (keep_blk hbx G2.out)
  replace G3 := Lib.hid (keep_blk hbx G3.out)
  have hb3 := hb2.trans (hbx.mono hb2.size)
  clear hbx hb2
  obtain ⟨pG10, pG11, pG12, pG13, pG14, pG15⟩ := sixT G1.out
  obtain ⟨pG20, pG21, pG22, pG23, pG24, pG25⟩ := sixT G2.out
  obtain ⟨pG30, pG31, pG32, pG33, pG34, pG35⟩ := sixT G3.out
  go_wp2_with fail
  (with_reducible refine Calls.mono (c3 _) ?_)
  rintro e w4 ⟨rfl, hbx⟩
  clear pG10 pG11 pG12 pG13 pG14 pG15 pG20 pG21 pG22 pG23 pG24 pG25 pG30 pG31 pG32 pG33 pG34 pG35
  replace G1 := Lib.hid (keep_blk hbx G1.out)
  replace G2 := Lib.hid (keep_blk hbx G2.out)
  replace G3 := Lib.hid (keep_blk hbx G3.out)
  have hb4 := hb3.trans (hbx.mono hb3.size)
  clear hbx hb3
  obtain ⟨pG10, pG11, pG12, pG13, pG14, pG15⟩ := sixT G1.out
  obtain ⟨pG20, pG21, pG22, pG23, pG24, pG25⟩ := sixT G2.out
  obtain ⟨pG30, pG31, pG32, pG33, pG34, pG35⟩ := sixT G3.out
  go_wp2
  go_quiet (fail)
  go_wp2
  go_ret
  exact ⟨rfl, below_drewN hb4 _⟩
set_option maxRecDepth 100000 in
set_option maxHeartbeats 2000000 in
theorem ord_g (ia ua ra ub rb ic uc rc : List UInt8) (sa ta ka kb sc tc kc : Int) (z z4 z5 : Bool) (w : World) (hL : LaidA w) 
    (c1 : ∀ W, Calls Tryd.prog 16 #[.agg #[.string (bs ia), .string (bs ua), .int .i64 sa, .int .i64 ta, .int .i64 ka, .string (bs ra)], .agg #[.string (bs ia), .string (bs ub), .int .i64 sa, .int .i64 ta, .int .i64 kb, .string (bs rb)]] W (BoolPost W false)) (c2 : ∀ W, Calls Tryd.prog 16 #[.agg #[.string (bs ia), .string (bs ub), .int .i64 sa, .int .i64 ta, .int .i64 kb, .string (bs rb)], .agg #[.string (bs ia), .string (bs ua), .int .i64 sa, .int .i64 ta, .int .i64 ka, .string (bs ra)]] W (BoolPost W false)) (c3 : ∀ W, Calls Tryd.prog 16 #[.agg #[.string (bs ia), .string (bs ua), .int .i64 sa, .int .i64 ta, .int .i64 ka, .string (bs ra)], .agg #[.string (bs ia), .string (bs ua), .int .i64 sa, .int .i64 ta, .int .i64 ka, .string (bs ra)]] W (BoolPost W false)) (c4 : ∀ W, Calls Tryd.prog 16 #[.agg #[.string (bs ia), .string (bs ub), .int .i64 sa, .int .i64 ta, .int .i64 kb, .string (bs rb)], .agg #[.string (bs ic), .string (bs uc), .int .i64 sc, .int .i64 tc, .int .i64 kc, .string (bs rc)]] W (BoolPost W z)) (c5 : ∀ W, Calls Tryd.prog 16 #[.agg #[.string (bs ia), .string (bs ua), .int .i64 sa, .int .i64 ta, .int .i64 ka, .string (bs ra)], .agg #[.string (bs ic), .string (bs uc), .int .i64 sc, .int .i64 tc, .int .i64 kc, .string (bs rc)]] W (BoolPost W z)) : Calls Tryd.prog 7 #[.agg #[.string (bs ia), .string (bs ua), .int .i64 sa, .int .i64 ta, .int .i64 ka, .string (bs ra)], .agg #[.string (bs ia), .string (bs ub), .int .i64 sa, .int .i64 ta, .int .i64 kb, .string (bs rb)], .agg #[.string (bs ic), .string (bs uc), .int .i64 sc, .int .i64 tc, .int .i64 kc, .string (bs rc)]] w (BoolPost w true) := by
  have cs := fun W hW => small_any W hW
  have hs1 : (w.alloc (.cells #[.string (bs ia), .string (bs ua), .int .i64 sa, .int .i64 ta, .int .i64 ka, .string (bs ra)] 38)).heap.size = w.heap.size + 1 := by simp
  have hs2 : ((w.alloc (.cells #[.string (bs ia), .string (bs ua), .int .i64 sa, .int .i64 ta, .int .i64 ka, .string (bs ra)] 38)).alloc (.cells #[.string (bs ia), .string (bs ub), .int .i64 sa, .int .i64 ta, .int .i64 kb, .string (bs rb)] 38)).heap.size = w.heap.size + 2 := by simp
  have g1 : (((w.alloc (.cells #[.string (bs ia), .string (bs ua), .int .i64 sa, .int .i64 ta, .int .i64 ka, .string (bs ra)] 38)).alloc (.cells #[.string (bs ia), .string (bs ub), .int .i64 sa, .int .i64 ta, .int .i64 kb, .string (bs rb)] 38)).alloc (.cells #[.string (bs ic), .string (bs uc), .int .i64 sc, .int .i64 tc, .int .i64 kc, .string (bs rc)] 38)).heap[w.heap.size]? = some (.cells #[.string (bs ia), .string (bs ua), .int .i64 sa, .int .i64 ta, .int .i64 ka, .string (bs ra)] 38 (0, 0)) := by
    rw [Below.heap_alloc _ _ _ (by omega), Below.heap_alloc _ _ _ (by omega), heap_alloc_new]
  have g2 : (((w.alloc (.cells #[.string (bs ia), .string (bs ua), .int .i64 sa, .int .i64 ta, .int .i64 ka, .string (bs ra)] 38)).alloc (.cells #[.string (bs ia), .string (bs ub), .int .i64 sa, .int .i64 ta, .int .i64 kb, .string (bs rb)] 38)).alloc (.cells #[.string (bs ic), .string (bs uc), .int .i64 sc, .int .i64 tc, .int .i64 kc, .string (bs rc)] 38)).heap[w.heap.size + 1]? = some (.cells #[.string (bs ia), .string (bs ub), .int .i64 sa, .int .i64 ta, .int .i64 kb, .string (bs rb)] 38 (0, 0)) := by
    rw [Below.heap_alloc _ _ _ (by omega), ← hs1, heap_alloc_new]
  have g3 : (((w.alloc (.cells #[.string (bs ia), .string (bs ua), .int .i64 sa, .int .i64 ta, .int .i64 ka, .string (bs ra)] 38)).alloc (.cells #[.string (bs ia), .string (bs ub), .int .i64 sa, .int .i64 ta, .int .i64 kb, .string (bs rb)] 38)).alloc (.cells #[.string (bs ic), .string (bs uc), .int .i64 sc, .int .i64 tc, .int .i64 kc, .string (bs rc)] 38)).heap[w.heap.size + 2]? = some (.cells #[.string (bs ic), .string (bs uc), .int .i64 sc, .int .i64 tc, .int .i64 kc, .string (bs rc)] 38 (0, 0)) := by
    rw [← hs2, heap_alloc_new]
  have hb0 : Below w.heap.size w (((w.alloc (.cells #[.string (bs ia), .string (bs ua), .int .i64 sa, .int .i64 ta, .int .i64 ka, .string (bs ra)] 38)).alloc (.cells #[.string (bs ia), .string (bs ub), .int .i64 sa, .int .i64 ta, .int .i64 kb, .string (bs rb)] 38)).alloc (.cells #[.string (bs ic), .string (bs uc), .int .i64 sc, .int .i64 tc, .int .i64 kc, .string (bs rc)] 38)) := ((Below.refl _ _).alloc (Nat.le_refl _) _).alloc (by omega) _ |>.alloc (by omega) _
  have G1 := Lib.hid g1
  have G2 := Lib.hid g2
  have G3 := Lib.hid g3
  have B0 := Lib.hid hb0
  have y1 := bs_toList ia
  clear hs1 hs2 g1 g2 g3 hb0
  go_enter Tryd.func7, Tryd.ntmps7
  go_wp2_with fail
  have hb0 := B0.out
  (with_reducible refine Calls.mono (cs _ (hL.below hb0)) ?_)
  rintro e w1 ⟨rfl, hbx⟩
  replace G1 := Lib.hid (keep_blk hbx G1.out)
  replace G2 := Lib.hid (keep_blk hbx G2.out)
  replace G3 := Lib.hid (keep_blk hbx G3.out)
  have hb1 := hb0.trans (hbx.mono hb0.size)
  clear hbx cs hb0 B0
  obtain ⟨pG10, pG11, pG12, pG13, pG14, pG15⟩ := sixT G1.out
  obtain ⟨pG20, pG21, pG22, pG23, pG24, pG25⟩ := sixT G2.out
  obtain ⟨pG30, pG31, pG32, pG33, pG34, pG35⟩ := sixT G3.out
  go_wp2_with fail
  (with_reducible refine Calls.mono (c1 _) ?_)
  rintro e w2 ⟨rfl, hbx⟩
  clear pG10 pG11 pG12 pG13 pG14 pG15 pG20 pG21 pG22 pG23 pG24 pG25 pG30 pG31 pG32 pG33 pG34 pG35
  replace G1 := Lib.hid (keep_blk hbx G1.out)
  replace G2 := Lib.hid (keep_blk hbx G2.out)
  replace G3 := Lib.hid (keep_blk hbx G3.out)
  have hb2 := hb1.trans (hbx.mono hb1.size)
  clear hbx hb1
  obtain ⟨pG10, pG11, pG12, pG13, pG14, pG15⟩ := sixT G1.out
  obtain ⟨pG20, pG21, pG22, pG23, pG24, pG25⟩ := sixT G2.out
  obtain ⟨pG30, pG31, pG32, pG33, pG34, pG35⟩ := sixT G3.out
  go_wp2_with fail
  (with_reducible refine Calls.mono (c2 _) ?_)
  rintro e w3 ⟨rfl, hbx⟩
  clear pG10 pG11 pG12 pG13 pG14 pG15 pG20 pG21 pG22 pG23 pG24 pG25 pG30 pG31 pG32 pG33 pG34 pG35
  replace G1 := Lib.hid (keep_blk hbx G1.out)
  replace G2 := Lib.hid (keep_blk hbx G2.out)
  replace G3 := Lib.hid (keep_blk hbx G3.out)
  have hb3 := hb2.trans (hbx.mono hb2.size)
  clear hbx hb2
  obtain ⟨pG10, pG11, pG12, pG13, pG14, pG15⟩ := sixT G1.out
  obtain ⟨pG20, pG21, pG22, pG23, pG24, pG25⟩ := sixT G2.out
  obtain ⟨pG30, pG31, pG32, pG33, pG34, pG35⟩ := sixT G3.out
  go_wp2_with fail
  (with_reducible refine Calls.mono (c3 _) ?_)
  rintro e w4 ⟨rfl, hbx⟩
  clear pG10 pG11 pG12 pG13 pG14 pG15 pG20 pG21 pG22 pG23 pG24 pG25 pG30 pG31 pG32 pG33 pG34 pG35
  replace G1 := Lib.hid (keep_blk hbx G1.out)
  replace G2 := Lib.hid (keep_blk hbx G2.out)
  replace G3 := Lib.hid (keep_blk hbx G3.out)
  have hb4 := hb3.trans (hbx.mono hb3.size)
  clear hbx hb3
  have F1 : Hid (∀ W, Below w4.heap.size w4 W → Below w.heap.size w W ∧ W.cell? ⟨w.heap.size, 0, none⟩ = some (.string (bs ia)) ∧ W.cell? ⟨w.heap.size, 1, none⟩ = some (.string (bs ua)) ∧ W.cell? ⟨w.heap.size, 2, none⟩ = some (.int .i64 sa) ∧ W.cell? ⟨w.heap.size, 3, none⟩ = some (.int .i64 ta) ∧ W.cell? ⟨w.heap.size, 4, none⟩ = some (.int .i64 ka) ∧ W.cell? ⟨w.heap.size, 5, none⟩ = some (.string (bs ra)) ∧ W.cell? ⟨w.heap.size + 1, 0, none⟩ = some (.string (bs ia)) ∧ W.cell? ⟨w.heap.size + 1, 1, none⟩ = some (.string (bs ub)) ∧ W.cell? ⟨w.heap.size + 1, 2, none⟩ = some (.int .i64 sa) ∧ W.cell? ⟨w.heap.size + 1, 3, none⟩ = some (.int .i64 ta) ∧ W.cell? ⟨w.heap.size + 1, 4, none⟩ = some (.int .i64 kb) ∧ W.cell? ⟨w.heap.size + 1, 5, none⟩ = some (.string (bs rb)) ∧ W.cell? ⟨w.heap.size + 2, 0, none⟩ = some (.string (bs ic)) ∧ W.cell? ⟨w.heap.size + 2, 1, none⟩ = some (.string (bs uc)) ∧ W.cell? ⟨w.heap.size + 2, 2, none⟩ = some (.int .i64 sc) ∧ W.cell? ⟨w.heap.size + 2, 3, none⟩ = some (.int .i64 tc) ∧ W.cell? ⟨w.heap.size + 2, 4, none⟩ = some (.int .i64 kc) ∧ W.cell? ⟨w.heap.size + 2, 5, none⟩ = some (.string (bs rc))) := by
    intro W hW
    obtain ⟨q00, q01, q02, q03, q04, q05⟩ := sixT (keep_blk hW G1.out)
    obtain ⟨q10, q11, q12, q13, q14, q15⟩ := sixT (keep_blk hW G2.out)
    obtain ⟨q20, q21, q22, q23, q24, q25⟩ := sixT (keep_blk hW G3.out)
    exact ⟨hb4.trans (hW.mono hb4.size), q00, q01, q02, q03, q04, q05, q10, q11, q12, q13, q14, q15, q20, q21, q22, q23, q24, q25⟩
  have F2 : Hid (∀ W W', Below w4.heap.size w4 W → Below W.heap.size W W' → Below w4.heap.size w4 W') := fun W W' h h' => h.trans (h'.mono h.size)
  have K0 := Lib.hid (Below.refl w4.heap.size w4)
  clear G1 G2 G3 hb4
  obtain ⟨hq, q00, q01, q02, q03, q04, q05, q10, q11, q12, q13, q14, q15, q20, q21, q22, q23, q24, q25⟩ := F1.out _ K0.out
  go_wp2
  clear hq q00 q01 q02 q03 q04 q05 q10 q11 q12 q13 q14 q15 q20 q21 q22 q23 q24 q25
  go_region_held3 (fun W => Below w4.heap.size w4 W ∧ (W.cell? ⟨w.heap.size, 0, none⟩ = some (.string (bs ia)) ∧ W.cell? ⟨w.heap.size, 1, none⟩ = some (.string (bs ua)) ∧ W.cell? ⟨w.heap.size, 2, none⟩ = some (.int .i64 sa) ∧ W.cell? ⟨w.heap.size, 3, none⟩ = some (.int .i64 ta) ∧ W.cell? ⟨w.heap.size, 4, none⟩ = some (.int .i64 ka) ∧ W.cell? ⟨w.heap.size, 5, none⟩ = some (.string (bs ra)) ∧ W.cell? ⟨w.heap.size + 1, 0, none⟩ = some (.string (bs ia)) ∧ W.cell? ⟨w.heap.size + 1, 1, none⟩ = some (.string (bs ub)) ∧ W.cell? ⟨w.heap.size + 1, 2, none⟩ = some (.int .i64 sa) ∧ W.cell? ⟨w.heap.size + 1, 3, none⟩ = some (.int .i64 ta) ∧ W.cell? ⟨w.heap.size + 1, 4, none⟩ = some (.int .i64 kb) ∧ W.cell? ⟨w.heap.size + 1, 5, none⟩ = some (.string (bs rb)) ∧ W.cell? ⟨w.heap.size + 2, 0, none⟩ = some (.string (bs ic)) ∧ W.cell? ⟨w.heap.size + 2, 1, none⟩ = some (.string (bs uc)) ∧ W.cell? ⟨w.heap.size + 2, 2, none⟩ = some (.int .i64 sc) ∧ W.cell? ⟨w.heap.size + 2, 3, none⟩ = some (.int .i64 tc) ∧ W.cell? ⟨w.heap.size + 2, 4, none⟩ = some (.int .i64 kc) ∧ W.cell? ⟨w.heap.size + 2, 5, none⟩ = some (.string (bs rc)))) (first | exact ⟨K0.out, (F1.out _ K0.out).2⟩ | exact ⟨K0.out.drew, (F1.out _ K0.out.drew).2⟩ | go_keep | exact ⟨F2.out _ _ (by first | assumption | (apply And.left; assumption)) hbx, (F1.out _ (F2.out _ _ (by first | assumption | (apply And.left; assumption)) hbx)).2⟩) (first
    | (go_at_call 16; (with_reducible refine Calls.mono (c5 _) ?_); rintro e w' ⟨rfl, hbx⟩)
    | (go_at_call 16; (with_reducible refine Calls.mono (c4 _) ?_); rintro e w' ⟨rfl, hbx⟩))
  all_goals
    go_wp2
    go_ret
    exact ⟨rfl, (F1.out _ (by first | assumption | (apply And.left; assumption) | exact F2.out _ _ (by first | assumption | (apply And.left; assumption)) hbx)).1⟩
theorem ne_id {a b : List UInt8} (h : ltB a b = true) : (a == b) = false ∧ (b == a) = false := by
  have h1 : a ≠ b := fun e => by rw [e, ltB_irrefl] at h; cases h
  exact ⟨beq_eq_false_iff_ne.2 h1, beq_eq_false_iff_ne.2 (fun e => h1 e.symm)⟩
theorem beq_ne {a b : Int} (h : a ≠ b) : (a == b) = false := beq_eq_false_iff_ne.2 h
theorem rorders_any (a b c : Card) (w : World) (hL : LaidA w) : Calls Tryd.prog 7 #[.agg (cellsC a), .agg (cellsC b), .agg (cellsC c)] w (BoolPost w true) := by
  have h1 := fun W => less_any a b W
  have h2 := fun W => less_any b a W
  have h3 := fun W => less_any a a W
  have h4 := fun W => less_any b c W
  have h5 := fun W => less_any a c W
  rw [less_irrefl] at h3
  cases hab : lessC a b with
  | true =>
    have hl := (less_iff a b).1 hab
    rw [hab] at h1
    rw [less_asymm hab] at h2
    cases hbc : lessC b c with
    | true =>
      rw [hbc] at h4
      rw [less_trans hab hbc] at h5
      obtain ⟨ia, ua, sa, ta, ka, ra⟩ := a
      obtain ⟨ib, ub, sb, tb, kb, rb⟩ := b
      obtain ⟨ic, uc, sc, tc, kc, rc⟩ := c
      dsimp only at hl
      rcases hl with hl | ⟨rfl, hl | ⟨rfl, hl⟩⟩
      · exact ord_at ia ua ra ib ub rb ic uc rc sa ta ka sb tb kb sc tc kc true true true w hL (n1 := by omega) (d1 := decide_eq_false (by omega)) (d2 := beq_ne (by omega)) (c1 := h1) (c2 := h2) (c3 := h3) (c4 := h4) (c5 := h5)
      · exact ord_bt ia ua ra ib ub rb ic uc rc sa ta ka tb kb sc tc kc true true true w hL (n2 := by omega) (d3 := decide_eq_false (by omega)) (d4 := beq_ne (by omega)) (c1 := h1) (c2 := h2) (c3 := h3) (c4 := h4) (c5 := h5)
      · exact ord_ct ia ua ra ib ub rb ic uc rc sa ta ka kb sc tc kc true true true w hL (d5 := by first | exact (ne_id hl).1 | exact (ne_id hl).2) (c1 := h1) (c2 := h2) (c3 := h3) (c4 := h4) (c5 := h5)
    | false =>
      rw [hbc] at h4
      obtain ⟨ia, ua, sa, ta, ka, ra⟩ := a
      obtain ⟨ib, ub, sb, tb, kb, rb⟩ := b
      obtain ⟨ic, uc, sc, tc, kc, rc⟩ := c
      dsimp only at hl
      rcases hl with hl | ⟨rfl, hl | ⟨rfl, hl⟩⟩
      · exact ord_af ia ua ra ib ub rb ic uc rc sa ta ka sb tb kb sc tc kc true true _ w hL (n1 := by omega) (d1 := decide_eq_false (by omega)) (d2 := beq_ne (by omega)) (c1 := h1) (c2 := h2) (c3 := h3) (c4 := h4) (c5 := h5)
      · exact ord_bf ia ua ra ib ub rb ic uc rc sa ta ka tb kb sc tc kc true true _ w hL (n2 := by omega) (d3 := decide_eq_false (by omega)) (d4 := beq_ne (by omega)) (c1 := h1) (c2 := h2) (c3 := h3) (c4 := h4) (c5 := h5)
      · exact ord_cf ia ua ra ib ub rb ic uc rc sa ta ka kb sc tc kc true true _ w hL (d5 := by first | exact (ne_id hl).1 | exact (ne_id hl).2) (c1 := h1) (c2 := h2) (c3 := h3) (c4 := h4) (c5 := h5)
  | false =>
    rw [hab] at h1
    cases hba : lessC b a with
    | true =>
      have hl := (less_iff b a).1 hba
      rw [hba] at h2
      obtain ⟨ia, ua, sa, ta, ka, ra⟩ := a
      obtain ⟨ib, ub, sb, tb, kb, rb⟩ := b
      obtain ⟨ic, uc, sc, tc, kc, rc⟩ := c
      dsimp only at hl
      rcases hl with hl | ⟨rfl, hl | ⟨rfl, hl⟩⟩
      · exact ord_d ia ua ra ib ub rb ic uc rc sa ta ka sb tb kb sc tc kc true _ _ w hL (n1 := by omega) (d1 := decide_eq_true (by omega)) (d2 := beq_ne (by omega)) (c1 := h1) (c2 := h2) (c3 := h3) (c4 := h4) (c5 := h5)
      · exact ord_e ia ua ra ib ub rb ic uc rc sb ta ka tb kb sc tc kc true _ _ w hL (n2 := by omega) (d3 := decide_eq_true (by omega)) (d4 := beq_ne (by omega)) (c1 := h1) (c2 := h2) (c3 := h3) (c4 := h4) (c5 := h5)
      · exact ord_f ia ua ra ib ub rb ic uc rc sb tb ka kb sc tc kc true _ _ w hL (d5 := by first | exact (ne_id hl).1 | exact (ne_id hl).2) (c1 := h1) (c2 := h2) (c3 := h3) (c4 := h4) (c5 := h5)
    | false =>
      have hl := (less_eq a b).1 ⟨hab, hba⟩
      rw [hba] at h2
      obtain ⟨ia, ua, sa, ta, ka, ra⟩ := a
      obtain ⟨ib, ub, sb, tb, kb, rb⟩ := b
      obtain ⟨ic, uc, sc, tc, kc, rc⟩ := c
      dsimp only at hl
      obtain ⟨rfl, rfl, rfl⟩ := hl
      rw [show lessC ⟨ia, ub, sa, ta, kb, rb⟩ ⟨ic, uc, sc, tc, kc, rc⟩ = lessC ⟨ia, ua, sa, ta, ka, ra⟩ ⟨ic, uc, sc, tc, kc, rc⟩ by unfold lessC cmpC; rfl] at h4
      exact ord_g ia ua ra ub rb ic uc rc sa ta ka kb sc tc kc _ true true w hL (c1 := h1) (c2 := h2) (c3 := h3) (c4 := h4) (c5 := h5)
end Go.Proofs.YtjcaaiikccnpeaaDoor
