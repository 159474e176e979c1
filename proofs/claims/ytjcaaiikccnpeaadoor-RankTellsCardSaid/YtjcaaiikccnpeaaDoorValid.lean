/- valid, walked; equality of weights. -/
import Derived.Test.YtjcaaiikccnpeaaDoorParseX
import Derived.Laws.StructEq
namespace Go.Proofs.YtjcaaiikccnpeaaDoor
open Go.ChangeShapes Go.WideShapes Go.ChangeAt Go.RowKit Go.Lib
set_option linter.unusedVariables false

theorem fourW {w W : World} {a b c d : Int} (h : W.heap[w.heap.size]? = some (.cells #[.int .i64 a, .int .i64 b, .int .i64 c, .int .i64 d] 23 (0, 0))) :
    W.cell? ⟨w.heap.size, 0, none⟩ = some (.int .i64 a) ∧ W.cell? ⟨w.heap.size, 1, none⟩ = some (.int .i64 b) ∧ W.cell? ⟨w.heap.size, 2, none⟩ = some (.int .i64 c) ∧ W.cell? ⟨w.heap.size, 3, none⟩ = some (.int .i64 d) := by
  refine ⟨?_, ?_, ?_, ?_⟩
  · rw [cell_of_row W _ 0 _ _ _ h]; rfl
  · rw [cell_of_row W _ 1 _ _ _ h]; rfl
  · rw [cell_of_row W _ 2 _ _ _ h]; rfl
  · rw [cell_of_row W _ 3 _ _ _ h]; rfl
set_option maxRecDepth 100000 in
theorem valid_lo0 (a b c d : Int) (w : World) (ha : a < 0) : Calls Tryd.prog 11 #[.agg (cellsW ⟨a, b, c, d⟩)] w (BoolPost w false) := by
  unfold cellsW
  simp only
  have da0 : decide (0 ≤ a) = false := decide_eq_false (by omega)
  have hA : (w.alloc (.cells #[.int .i64 a, .int .i64 b, .int .i64 c, .int .i64 d] 23)).heap[w.heap.size]? = some (.cells #[.int .i64 a, .int .i64 b, .int .i64 c, .int .i64 d] 23 (0, 0)) := heap_alloc_new _ _
  have B := Lib.hid ((Below.refl w.heap.size w).alloc (Nat.le_refl _) (.cells #[.int .i64 a, .int .i64 b, .int .i64 c, .int .i64 d] 23))
  obtain ⟨p0, p1, p2, p3⟩ := fourW hA
  clear hA
  have P0 := Lib.hid p0
  have P1 := Lib.hid p1
  have P2 := Lib.hid p2
  have P3 := Lib.hid p3
  clear p0 p1 p2 p3
  go_enter Tryd.func11, Tryd.ntmps11
  go_wp2
  generalize (w.alloc (.cells #[.int .i64 a, .int .i64 b, .int .i64 c, .int .i64 d] 23)) = Wb at *
  have p0 := P0.out
  have p1 := P1.out
  have p2 := P2.out
  have p3 := P3.out
  go_wp2
  go_ret
  exact ⟨rfl, B.out⟩
set_option maxRecDepth 100000 in
theorem valid_hi0 (a b c d : Int) (w : World) (ha : 0 ≤ a) (ga : 1125899906842624 < a) : Calls Tryd.prog 11 #[.agg (cellsW ⟨a, b, c, d⟩)] w (BoolPost w false) := by
  unfold cellsW
  simp only
  have da0 : decide (0 ≤ a) = true := decide_eq_true ha
  have da1 : decide (a ≤ 1125899906842624) = false := decide_eq_false (by omega)
  have hA : (w.alloc (.cells #[.int .i64 a, .int .i64 b, .int .i64 c, .int .i64 d] 23)).heap[w.heap.size]? = some (.cells #[.int .i64 a, .int .i64 b, .int .i64 c, .int .i64 d] 23 (0, 0)) := heap_alloc_new _ _
  have B := Lib.hid ((Below.refl w.heap.size w).alloc (Nat.le_refl _) (.cells #[.int .i64 a, .int .i64 b, .int .i64 c, .int .i64 d] 23))
  obtain ⟨p0, p1, p2, p3⟩ := fourW hA
  clear hA
  have P0 := Lib.hid p0
  have P1 := Lib.hid p1
  have P2 := Lib.hid p2
  have P3 := Lib.hid p3
  clear p0 p1 p2 p3
  go_enter Tryd.func11, Tryd.ntmps11
  go_wp2
  generalize (w.alloc (.cells #[.int .i64 a, .int .i64 b, .int .i64 c, .int .i64 d] 23)) = Wb at *
  have p0 := P0.out
  have p1 := P1.out
  have p2 := P2.out
  have p3 := P3.out
  go_wp2
  go_ret
  exact ⟨rfl, B.out⟩
set_option maxRecDepth 100000 in
theorem valid_lo1 (a b c d : Int) (w : World) (ha : okN a) (hb : b < 0) : Calls Tryd.prog 11 #[.agg (cellsW ⟨a, b, c, d⟩)] w (BoolPost w false) := by
  unfold cellsW
  simp only
  have da0 : decide (0 ≤ a) = true := decide_eq_true ha.1
  have da1 : decide (a ≤ 1125899906842624) = true := decide_eq_true ha.2
  have db0 : decide (0 ≤ b) = false := decide_eq_false (by omega)
  have hA : (w.alloc (.cells #[.int .i64 a, .int .i64 b, .int .i64 c, .int .i64 d] 23)).heap[w.heap.size]? = some (.cells #[.int .i64 a, .int .i64 b, .int .i64 c, .int .i64 d] 23 (0, 0)) := heap_alloc_new _ _
  have B := Lib.hid ((Below.refl w.heap.size w).alloc (Nat.le_refl _) (.cells #[.int .i64 a, .int .i64 b, .int .i64 c, .int .i64 d] 23))
  obtain ⟨p0, p1, p2, p3⟩ := fourW hA
  clear hA
  have P0 := Lib.hid p0
  have P1 := Lib.hid p1
  have P2 := Lib.hid p2
  have P3 := Lib.hid p3
  clear p0 p1 p2 p3
  go_enter Tryd.func11, Tryd.ntmps11
  go_wp2
  generalize (w.alloc (.cells #[.int .i64 a, .int .i64 b, .int .i64 c, .int .i64 d] 23)) = Wb at *
  have p0 := P0.out
  have p1 := P1.out
  have p2 := P2.out
  have p3 := P3.out
  go_wp2
  go_ret
  exact ⟨rfl, B.out⟩
set_option maxRecDepth 100000 in
theorem valid_hi1 (a b c d : Int) (w : World) (ha : okN a) (hb : 0 ≤ b) (gb : 1125899906842624 < b) : Calls Tryd.prog 11 #[.agg (cellsW ⟨a, b, c, d⟩)] w (BoolPost w false) := by
  unfold cellsW
  simp only
  have da0 : decide (0 ≤ a) = true := decide_eq_true ha.1
  have da1 : decide (a ≤ 1125899906842624) = true := decide_eq_true ha.2
  have db0 : decide (0 ≤ b) = true := decide_eq_true hb
  have db1 : decide (b ≤ 1125899906842624) = false := decide_eq_false (by omega)
  have hA : (w.alloc (.cells #[.int .i64 a, .int .i64 b, .int .i64 c, .int .i64 d] 23)).heap[w.heap.size]? = some (.cells #[.int .i64 a, .int .i64 b, .int .i64 c, .int .i64 d] 23 (0, 0)) := heap_alloc_new _ _
  have B := Lib.hid ((Below.refl w.heap.size w).alloc (Nat.le_refl _) (.cells #[.int .i64 a, .int .i64 b, .int .i64 c, .int .i64 d] 23))
  obtain ⟨p0, p1, p2, p3⟩ := fourW hA
  clear hA
  have P0 := Lib.hid p0
  have P1 := Lib.hid p1
  have P2 := Lib.hid p2
  have P3 := Lib.hid p3
  clear p0 p1 p2 p3
  go_enter Tryd.func11, Tryd.ntmps11
  go_wp2
  generalize (w.alloc (.cells #[.int .i64 a, .int .i64 b, .int .i64 c, .int .i64 d] 23)) = Wb at *
  have p0 := P0.out
  have p1 := P1.out
  have p2 := P2.out
  have p3 := P3.out
  go_wp2
  go_ret
  exact ⟨rfl, B.out⟩
set_option maxRecDepth 100000 in
theorem valid_lo2 (a b c d : Int) (w : World) (ha : okN a) (hb : okN b) (hc : c < 0) : Calls Tryd.prog 11 #[.agg (cellsW ⟨a, b, c, d⟩)] w (BoolPost w false) := by
  unfold cellsW
  simp only
  have da0 : decide (0 ≤ a) = true := decide_eq_true ha.1
  have da1 : decide (a ≤ 1125899906842624) = true := decide_eq_true ha.2
  have db0 : decide (0 ≤ b) = true := decide_eq_true hb.1
  have db1 : decide (b ≤ 1125899906842624) = true := decide_eq_true hb.2
  have dc0 : decide (0 ≤ c) = false := decide_eq_false (by omega)
  have hA : (w.alloc (.cells #[.int .i64 a, .int .i64 b, .int .i64 c, .int .i64 d] 23)).heap[w.heap.size]? = some (.cells #[.int .i64 a, .int .i64 b, .int .i64 c, .int .i64 d] 23 (0, 0)) := heap_alloc_new _ _
  have B := Lib.hid ((Below.refl w.heap.size w).alloc (Nat.le_refl _) (.cells #[.int .i64 a, .int .i64 b, .int .i64 c, .int .i64 d] 23))
  obtain ⟨p0, p1, p2, p3⟩ := fourW hA
  clear hA
  have P0 := Lib.hid p0
  have P1 := Lib.hid p1
  have P2 := Lib.hid p2
  have P3 := Lib.hid p3
  clear p0 p1 p2 p3
  go_enter Tryd.func11, Tryd.ntmps11
  go_wp2
  generalize (w.alloc (.cells #[.int .i64 a, .int .i64 b, .int .i64 c, .int .i64 d] 23)) = Wb at *
  have p0 := P0.out
  have p1 := P1.out
  have p2 := P2.out
  have p3 := P3.out
  go_wp2
  go_ret
  exact ⟨rfl, B.out⟩
set_option maxRecDepth 100000 in
theorem valid_hi2 (a b c d : Int) (w : World) (ha : okN a) (hb : okN b) (hc : 0 ≤ c) (gc : 1125899906842624 < c) : Calls Tryd.prog 11 #[.agg (cellsW ⟨a, b, c, d⟩)] w (BoolPost w false) := by
  unfold cellsW
  simp only
  have da0 : decide (0 ≤ a) = true := decide_eq_true ha.1
  have da1 : decide (a ≤ 1125899906842624) = true := decide_eq_true ha.2
  have db0 : decide (0 ≤ b) = true := decide_eq_true hb.1
  have db1 : decide (b ≤ 1125899906842624) = true := decide_eq_true hb.2
  have dc0 : decide (0 ≤ c) = true := decide_eq_true hc
  have dc1 : decide (c ≤ 1125899906842624) = false := decide_eq_false (by omega)
  have hA : (w.alloc (.cells #[.int .i64 a, .int .i64 b, .int .i64 c, .int .i64 d] 23)).heap[w.heap.size]? = some (.cells #[.int .i64 a, .int .i64 b, .int .i64 c, .int .i64 d] 23 (0, 0)) := heap_alloc_new _ _
  have B := Lib.hid ((Below.refl w.heap.size w).alloc (Nat.le_refl _) (.cells #[.int .i64 a, .int .i64 b, .int .i64 c, .int .i64 d] 23))
  obtain ⟨p0, p1, p2, p3⟩ := fourW hA
  clear hA
  have P0 := Lib.hid p0
  have P1 := Lib.hid p1
  have P2 := Lib.hid p2
  have P3 := Lib.hid p3
  clear p0 p1 p2 p3
  go_enter Tryd.func11, Tryd.ntmps11
  go_wp2
  generalize (w.alloc (.cells #[.int .i64 a, .int .i64 b, .int .i64 c, .int .i64 d] 23)) = Wb at *
  have p0 := P0.out
  have p1 := P1.out
  have p2 := P2.out
  have p3 := P3.out
  go_wp2
  go_ret
  exact ⟨rfl, B.out⟩
set_option maxRecDepth 100000 in
theorem valid_lo3 (a b c d : Int) (w : World) (ha : okN a) (hb : okN b) (hc : okN c) (hd : d < 0) : Calls Tryd.prog 11 #[.agg (cellsW ⟨a, b, c, d⟩)] w (BoolPost w false) := by
  unfold cellsW
  simp only
  have da0 : decide (0 ≤ a) = true := decide_eq_true ha.1
  have da1 : decide (a ≤ 1125899906842624) = true := decide_eq_true ha.2
  have db0 : decide (0 ≤ b) = true := decide_eq_true hb.1
  have db1 : decide (b ≤ 1125899906842624) = true := decide_eq_true hb.2
  have dc0 : decide (0 ≤ c) = true := decide_eq_true hc.1
  have dc1 : decide (c ≤ 1125899906842624) = true := decide_eq_true hc.2
  have dd0 : decide (0 ≤ d) = false := decide_eq_false (by omega)
  have hA : (w.alloc (.cells #[.int .i64 a, .int .i64 b, .int .i64 c, .int .i64 d] 23)).heap[w.heap.size]? = some (.cells #[.int .i64 a, .int .i64 b, .int .i64 c, .int .i64 d] 23 (0, 0)) := heap_alloc_new _ _
  have B := Lib.hid ((Below.refl w.heap.size w).alloc (Nat.le_refl _) (.cells #[.int .i64 a, .int .i64 b, .int .i64 c, .int .i64 d] 23))
  obtain ⟨p0, p1, p2, p3⟩ := fourW hA
  clear hA
  have P0 := Lib.hid p0
  have P1 := Lib.hid p1
  have P2 := Lib.hid p2
  have P3 := Lib.hid p3
  clear p0 p1 p2 p3
  go_enter Tryd.func11, Tryd.ntmps11
  go_wp2
  generalize (w.alloc (.cells #[.int .i64 a, .int .i64 b, .int .i64 c, .int .i64 d] 23)) = Wb at *
  have p0 := P0.out
  have p1 := P1.out
  have p2 := P2.out
  have p3 := P3.out
  go_wp2
  go_ret
  exact ⟨rfl, B.out⟩
set_option maxRecDepth 100000 in
theorem valid_hi3 (a b c d : Int) (w : World) (ha : okN a) (hb : okN b) (hc : okN c) (hd : 0 ≤ d) (gd : 1125899906842624 < d) : Calls Tryd.prog 11 #[.agg (cellsW ⟨a, b, c, d⟩)] w (BoolPost w false) := by
  unfold cellsW
  simp only
  have da0 : decide (0 ≤ a) = true := decide_eq_true ha.1
  have da1 : decide (a ≤ 1125899906842624) = true := decide_eq_true ha.2
  have db0 : decide (0 ≤ b) = true := decide_eq_true hb.1
  have db1 : decide (b ≤ 1125899906842624) = true := decide_eq_true hb.2
  have dc0 : decide (0 ≤ c) = true := decide_eq_true hc.1
  have dc1 : decide (c ≤ 1125899906842624) = true := decide_eq_true hc.2
  have dd0 : decide (0 ≤ d) = true := decide_eq_true hd
  have dd1 : decide (d ≤ 1125899906842624) = false := decide_eq_false (by omega)
  have hA : (w.alloc (.cells #[.int .i64 a, .int .i64 b, .int .i64 c, .int .i64 d] 23)).heap[w.heap.size]? = some (.cells #[.int .i64 a, .int .i64 b, .int .i64 c, .int .i64 d] 23 (0, 0)) := heap_alloc_new _ _
  have B := Lib.hid ((Below.refl w.heap.size w).alloc (Nat.le_refl _) (.cells #[.int .i64 a, .int .i64 b, .int .i64 c, .int .i64 d] 23))
  obtain ⟨p0, p1, p2, p3⟩ := fourW hA
  clear hA
  have P0 := Lib.hid p0
  have P1 := Lib.hid p1
  have P2 := Lib.hid p2
  have P3 := Lib.hid p3
  clear p0 p1 p2 p3
  go_enter Tryd.func11, Tryd.ntmps11
  go_wp2
  generalize (w.alloc (.cells #[.int .i64 a, .int .i64 b, .int .i64 c, .int .i64 d] 23)) = Wb at *
  have p0 := P0.out
  have p1 := P1.out
  have p2 := P2.out
  have p3 := P3.out
  go_wp2
  go_ret
  exact ⟨rfl, B.out⟩
set_option maxRecDepth 100000 in
theorem valid_yes (a b c d : Int) (w : World) (ha : okN a) (hb : okN b) (hc : okN c) (hd : okN d)  : Calls Tryd.prog 11 #[.agg (cellsW ⟨a, b, c, d⟩)] w (BoolPost w true) := by
  unfold cellsW
  simp only
  have da0 : decide (0 ≤ a) = true := decide_eq_true ha.1
  have da1 : decide (a ≤ 1125899906842624) = true := decide_eq_true ha.2
  have db0 : decide (0 ≤ b) = true := decide_eq_true hb.1
  have db1 : decide (b ≤ 1125899906842624) = true := decide_eq_true hb.2
  have dc0 : decide (0 ≤ c) = true := decide_eq_true hc.1
  have dc1 : decide (c ≤ 1125899906842624) = true := decide_eq_true hc.2
  have dd0 : decide (0 ≤ d) = true := decide_eq_true hd.1
  have dd1 : decide (d ≤ 1125899906842624) = true := decide_eq_true hd.2
  have hA : (w.alloc (.cells #[.int .i64 a, .int .i64 b, .int .i64 c, .int .i64 d] 23)).heap[w.heap.size]? = some (.cells #[.int .i64 a, .int .i64 b, .int .i64 c, .int .i64 d] 23 (0, 0)) := heap_alloc_new _ _
  have B := Lib.hid ((Below.refl w.heap.size w).alloc (Nat.le_refl _) (.cells #[.int .i64 a, .int .i64 b, .int .i64 c, .int .i64 d] 23))
  obtain ⟨p0, p1, p2, p3⟩ := fourW hA
  clear hA
  have P0 := Lib.hid p0
  have P1 := Lib.hid p1
  have P2 := Lib.hid p2
  have P3 := Lib.hid p3
  clear p0 p1 p2 p3
  go_enter Tryd.func11, Tryd.ntmps11
  go_wp2
  generalize (w.alloc (.cells #[.int .i64 a, .int .i64 b, .int .i64 c, .int .i64 d] 23)) = Wb at *
  have p0 := P0.out
  have p1 := P1.out
  have p2 := P2.out
  have p3 := P3.out
  go_wp2
  go_ret
  exact ⟨rfl, B.out⟩
theorem valid_any (v : Wts) (w : World) : Calls Tryd.prog 11 #[.agg (cellsW v)] w (BoolPost w (decide v.Ok)) := by
  obtain ⟨a, b, c, d⟩ := v
  by_cases h : (⟨a, b, c, d⟩ : Wts).Ok
  · rw [decide_eq_true h]
    exact valid_yes a b c d w h.1 h.2.1 h.2.2.1 h.2.2.2
  rw [decide_eq_false h]
  by_cases la : a < 0
  · exact valid_lo0 a b c d w  la
  by_cases ga : 1125899906842624 < a
  · exact valid_hi0 a b c d w  (by omega) ga
  have ha : okN a := ⟨by omega, by omega⟩
  by_cases lb : b < 0
  · exact valid_lo1 a b c d w ha lb
  by_cases gb : 1125899906842624 < b
  · exact valid_hi1 a b c d w ha (by omega) gb
  have hb : okN b := ⟨by omega, by omega⟩
  by_cases lc : c < 0
  · exact valid_lo2 a b c d w ha hb lc
  by_cases gc : 1125899906842624 < c
  · exact valid_hi2 a b c d w ha hb (by omega) gc
  have hc : okN c := ⟨by omega, by omega⟩
  by_cases ld : d < 0
  · exact valid_lo3 a b c d w ha hb hc ld
  by_cases gd : 1125899906842624 < d
  · exact valid_hi3 a b c d w ha hb hc (by omega) gd
  have hd : okN d := ⟨by omega, by omega⟩
  exact absurd ⟨ha, hb, hc, hd⟩ h
/-- all that the walks ask -/
structure LaidA (w : World) : Prop where
  i : Laid w
  m : ∃ m, w.cell? ⟨0, 0, none⟩ = some (.int .i64 m)
theorem LaidA.below {w w' : World} (h : LaidA w) (hb : Below w.heap.size w w') : LaidA w' := by
  refine ⟨h.i.below hb, ?_⟩
  obtain ⟨m, hm⟩ := h.m
  exact ⟨m, (hb.cell (World.block_lt_of_cell? w _ hm)).trans hm⟩
theorem parse_w (s : List UInt8) (w : World) (hs : s.length ≤ 1000000) (hL : LaidA w) : Calls Tryd.prog 9 #[.string (bs s)] w (WPost w (parseW s)) := by
  obtain ⟨m, hm⟩ := hL.m
  exact parseW_any s m w (by omega) (by omega) (by have := hL.i.size; omega) hm hL.i
end Go.Proofs.YtjcaaiikccnpeaaDoor
