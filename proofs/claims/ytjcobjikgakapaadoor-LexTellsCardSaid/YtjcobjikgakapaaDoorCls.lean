/- The classes of bytes, walked. -/
import Derived.Test.YtjcobjikgakapaaDoorChecked
import Derived.Test.YtjcobjikgakapaaDoorLexPure
import Derived.WalkKit
import Derived.ProofKit
import Derived.OpenShut
import Derived.Outline
import Derived.OwnWalk
import Derived.Below
import Derived.Laws.Rows
import Derived.Laws.Tables
import Derived.Laws.CopyOwn
import Derived.Deep.QuietTactic
import Derived.BigQuiet
import Derived.Lib.Hide
import Derived.Lib.SmallJoins
namespace Go.Proofs.YtjcobjikgakapaaDoor
open Go.ChangeShapes Go.WideShapes Go.ChangeAt Go.RowKit Go.Lib
set_option linter.unusedVariables false

/-- a table of 256 bytes -/
def tab (f : Nat → Nat) : Array Value := ((List.range 256).map fun i => Value.int .u8 (f i : Nat)).toArray
theorem tab_size (f : Nat → Nat) : (tab f).size = 256 := by simp [tab]
theorem tab_get (f : Nat → Nat) {i : Nat} (h : i < 256) : (tab f)[i]? = some (.int .u8 (f i : Nat)) := by
  simp [tab, h]
theorem tab_set (f : Nat → Nat) (j v : Nat) : (tab f).setIfInBounds j (.int .u8 (v : Nat)) = tab (fun i => if i = j then v else f i) := by
  apply Array.ext_getElem?
  intro i
  rw [Array.getElem?_setIfInBounds, tab_size]
  by_cases hij : j = i
  · subst hij
    rw [if_pos rfl]
    by_cases h : j < 256
    · rw [if_pos h, tab_get _ h, if_pos rfl]
    · rw [if_neg h, Array.getElem?_eq_none (by rw [tab_size]; omega)]
  · rw [if_neg hij]
    by_cases h : i < 256
    · rw [tab_get _ h, tab_get _ h, if_neg (fun e => hij e.symm)]
    · rw [Array.getElem?_eq_none (by rw [tab_size]; omega), Array.getElem?_eq_none (by rw [tab_size]; omega)]
theorem tab_ext {f g : Nat → Nat} (h : ∀ i, i < 256 → f i = g i) : tab f = tab g := by
  unfold tab
  congr 1
  apply List.map_congr_left
  intro i hi
  rw [h i (by simpa using hi)]
def zf : Nat → Nat := fun _ => 0
theorem zero_tab : Tryd.zeroCells37 = tab zf := by kernel_rfl
def g1 (k i : Nat) : Nat := if (i = 9 ∧ 0 < k) ∨ (i = 10 ∧ 1 < k) ∨ (i = 13 ∧ 2 < k) ∨ (i = 32 ∧ 3 < k) then 1 else 0
def g2 (k i : Nat) : Nat := if 97 ≤ i ∧ i < 97 + k then 2 else g1 4 i
def g3 (k i : Nat) : Nat := if 48 ≤ i ∧ i < 48 + k then 3 else g2 26 i
def clsN (i : Nat) : Nat := if i = 34 then 5 else if i = 95 then 4 else g3 10 i
theorem g1_0 : tab zf = tab (g1 0) := tab_ext fun i _ => by simp [g1, zf]
theorem g2_0 : tab (g1 4) = tab (g2 0) := tab_ext fun i _ => by unfold g2; rw [if_neg (by omega)]
theorem g3_0 : tab (g2 26) = tab (g3 0) := tab_ext fun i _ => by unfold g3; rw [if_neg (by omega)]
theorem g1_set0 : (tab (g1 0)).setIfInBounds 9 (.int .u8 1) = tab (g1 1) := by
  rw [show (1 : Int) = ((1 : Nat) : Int) from rfl, tab_set]
  exact tab_ext fun i _ => by unfold g1; (repeat' split) <;> omega
theorem g1_set1 : (tab (g1 1)).setIfInBounds 10 (.int .u8 1) = tab (g1 2) := by
  rw [show (1 : Int) = ((1 : Nat) : Int) from rfl, tab_set]
  exact tab_ext fun i _ => by unfold g1; (repeat' split) <;> omega
theorem g1_set2 : (tab (g1 2)).setIfInBounds 13 (.int .u8 1) = tab (g1 3) := by
  rw [show (1 : Int) = ((1 : Nat) : Int) from rfl, tab_set]
  exact tab_ext fun i _ => by unfold g1; (repeat' split) <;> omega
theorem g1_set3 : (tab (g1 3)).setIfInBounds 32 (.int .u8 1) = tab (g1 4) := by
  rw [show (1 : Int) = ((1 : Nat) : Int) from rfl, tab_set]
  exact tab_ext fun i _ => by unfold g1; (repeat' split) <;> omega
theorem g2_set (k : Nat) : (tab (g2 k)).setIfInBounds (97 + k) (.int .u8 2) = tab (g2 (k + 1)) := by
  rw [show (2 : Int) = ((2 : Nat) : Int) from rfl, tab_set]
  exact tab_ext fun i _ => by unfold g2; (repeat' split) <;> first | rfl | omega
theorem g3_set (k : Nat) : (tab (g3 k)).setIfInBounds (48 + k) (.int .u8 3) = tab (g3 (k + 1)) := by
  rw [show (3 : Int) = ((3 : Nat) : Int) from rfl, tab_set]
  exact tab_ext fun i _ => by unfold g3; (repeat' split) <;> first | rfl | omega
def g4 (i : Nat) : Nat := if i = 95 then 4 else g3 10 i
theorem g4_set : (tab (g3 10)).setIfInBounds 95 (.int .u8 4) = tab g4 := by
  rw [show (4 : Int) = ((4 : Nat) : Int) from rfl, tab_set]
  exact tab_ext fun i _ => by unfold g4; split <;> rfl
theorem cls_set : (tab g4).setIfInBounds 34 (.int .u8 5) = tab clsN := by
  rw [show (5 : Int) = ((5 : Nat) : Int) from rfl, tab_set]
  exact tab_ext fun i _ => by unfold clsN g4; split <;> rfl
/-- the two tables of the call: the one that is filled holds f -/
structure CW (B : Nat) (w wr : World) (f : Nat → Nat) : Prop where
  t1 : wr.heap[B + 1]? = some (.cells (tab f) 37 (0, 0))
  t0 : wr.heap[B]? = some (.cells (tab zf) 37 (0, 0))
  sz : B + 2 ≤ wr.heap.size
  bl : Below B w wr
theorem CW.set {B : Nat} {w wr : World} {f g : Nat → Nat} (h : CW B w wr f) (j : Nat) (v : Int) (e : (tab f).setIfInBounds j (.int .u8 v) = tab g) : CW B w (wr.setCell ⟨B + 1, j, none⟩ (.int .u8 v)) g := by
  refine ⟨?_, ?_, ?_, h.bl.setCell (by simp) _⟩
  · rw [heap_setCell_same _ _ _ _ _ _ h.t1, e]
  · rw [heap_setCell_other _ _ _ _ (by simp), h.t0]
  · have := h.sz; simpa [World.setCell] using this
theorem CW.c1 {B : Nat} {w wr : World} {f : Nat → Nat} (h : CW B w wr f) {j : Nat} (hj : j < 256) : wr.cell? ⟨B + 1, j, none⟩ = some (.int .u8 (f j : Nat)) := by
  rw [cell_of_row _ _ _ _ _ _ h.t1, tab_get _ hj]
theorem CW.f1 {B : Nat} {w wr : World} {f : Nat → Nat} (h : CW B w wr f) (j : Nat) : wr.frozen? ⟨B + 1, j, none⟩ = false := frozen_of_row _ _ _ _ _ h.t1
theorem tab_one (f : Nat → Nat) : (tab f).all (·.oneCell') = true := by
  rw [Array.all_eq_true_iff_forall_mem]
  intro x hx
  simp only [tab, List.mem_toArray, List.mem_map] at hx
  obtain ⟨i, _, rfl⟩ := hx
  rfl
theorem info37 : (Tryd.prog.info? 37).map (·.size) = some 256 := by kernel_rfl
set_option maxRecDepth 100000 in
set_option maxHeartbeats 1000000 in
theorem classes_any (w : World) : Calls Tryd.prog 18 #[] w (fun e w' => e = .returned (.agg (tab clsN)) ∧ Below w.heap.size w w') := by
  obtain ⟨B, hB⟩ : ∃ B, w.heap.size = B := ⟨_, rfl⟩
  rw [hB]
  have hcv := Joins.run_convert_bytes_const_at (P := Tryd.prog) ((w.alloc (.cells Tryd.zeroCells37 37)).alloc (.cells Tryd.zeroCells37 37)) 47 5 #[.int .u8 9, .int .u8 10, .int .u8 13, .int .u8 32] 4 4 (B + 1 + 1) (by simp [hB]) Tryd.underlying47 Tryd.underlying5
  go_enter Tryd.func18, Tryd.ntmps18
  go_wp2
  obtain ⟨W, hW⟩ : ∃ W, W = ((w.alloc (.cells Tryd.zeroCells37 37)).alloc (.cells Tryd.zeroCells37 37)).alloc (.cells #[.int .u8 9, .int .u8 10, .int .u8 13, .int .u8 32] 5 (4, 5)) := ⟨_, rfl⟩
  have hC : CW B w W (g1 0) := by
    have s1 : (w.alloc (.cells Tryd.zeroCells37 37)).heap.size = B + 1 := by simp [hB]
    have s2 : ((w.alloc (.cells Tryd.zeroCells37 37)).alloc (.cells Tryd.zeroCells37 37)).heap.size = B + 2 := by simp [hB]
    refine ⟨?_, ?_, ?_, ?_⟩
    · rw [hW, heap_alloc_old _ _ (by omega), ← s1, heap_alloc_new, zero_tab, g1_0]
    · rw [hW, heap_alloc_old _ _ (by omega), heap_alloc_old _ _ (by omega), ← hB, heap_alloc_new, zero_tab]
    · rw [hW]; simp [hB]
    · rw [hW]
      exact (((Below.refl _ _).alloc (by omega) _).alloc (by omega) _).alloc (by omega) _
  have hD : W.heap[B + 1 + 1]? = some (.cells #[.int .u8 9, .int .u8 10, .int .u8 13, .int .u8 32] 5 (4, 5)) := by
    have s2 : ((w.alloc (.cells Tryd.zeroCells37 37)).alloc (.cells Tryd.zeroCells37 37)).heap.size = B + 1 + 1 := by simp [hB]
    rw [hW, ← s2, heap_alloc_new]
  have hsW : B + 2 < W.heap.size := by rw [hW]; simp [hB]
  rw [← hW]
  clear hW hcv
  go_loopw [9] (fun v wr => ∃ k : Nat, k ≤ 4 ∧ v = .int .i64 k ∧ CW B w wr (g1 k) ∧ wr.heap[B + 1 + 1]? = some (.cells #[.int .u8 9, .int .u8 10, .int .u8 13, .int .u8 32] 5 (4, 5))) (fun v _ => 4 - (intOf v).toNat)
  case atStart => exact ⟨0, by omega, rfl, hC, hD⟩
  case round =>
    obtain ⟨k, hk, rfl, hC, hD⟩ := hrel
    have hcd := fun j => cell_of_row wr _ j _ _ _ hD
    by_cases hlt : k < 4
    · rcases (by omega : k = 0 ∨ k = 1 ∨ k = 2 ∨ k = 3) with rfl | rfl | rfl | rfl
      · have q1 := hcd 0
        have q2 := hC.c1 (j := 9) (by omega)
        have q3 := hC.f1 9
        clear hcd
        have hC' := hC.set 9 1 g1_set0
        have hD' := (heap_setCell_other wr ⟨B + 1, 9, none⟩ (B + 1 + 1) (.int .u8 1) (by simp)).trans hD
        have HC := Lib.hid hC'
        have HD := Lib.hid hD'
        clear hC hD hC' hD'
        go_wp2
        go_roundw
        case rel => exact ⟨1, by omega, rfl, HC.out, HD.out⟩
        case measure => simp [intOf]
      · have q1 := hcd 1
        have q2 := hC.c1 (j := 10) (by omega)
        have q3 := hC.f1 10
        clear hcd
        have hC' := hC.set 10 1 g1_set1
        have hD' := (heap_setCell_other wr ⟨B + 1, 10, none⟩ (B + 1 + 1) (.int .u8 1) (by simp)).trans hD
        have HC := Lib.hid hC'
        have HD := Lib.hid hD'
        clear hC hD hC' hD'
        go_wp2
        go_roundw
        case rel => exact ⟨2, by omega, rfl, HC.out, HD.out⟩
        case measure => simp [intOf]
      · have q1 := hcd 2
        have q2 := hC.c1 (j := 13) (by omega)
        have q3 := hC.f1 13
        clear hcd
        have hC' := hC.set 13 1 g1_set2
        have hD' := (heap_setCell_other wr ⟨B + 1, 13, none⟩ (B + 1 + 1) (.int .u8 1) (by simp)).trans hD
        have HC := Lib.hid hC'
        have HD := Lib.hid hD'
        clear hC hD hC' hD'
        go_wp2
        go_roundw
        case rel => exact ⟨3, by omega, rfl, HC.out, HD.out⟩
        case measure => simp [intOf]
      · have q1 := hcd 3
        have q2 := hC.c1 (j := 32) (by omega)
        have q3 := hC.f1 32
        clear hcd
        have hC' := hC.set 32 1 g1_set3
        have hD' := (heap_setCell_other wr ⟨B + 1, 32, none⟩ (B + 1 + 1) (.int .u8 1) (by simp)).trans hD
        have HC := Lib.hid hC'
        have HD := Lib.hid hD'
        clear hC hD hC' hD'
        go_wp2
        go_roundw
        case rel => exact ⟨4, by omega, rfl, HC.out, HD.out⟩
        case measure => simp [intOf]
    · obtain rfl : k = 4 := by omega
      clear hcd hD
      have hC : CW B w wr (g2 0) := ⟨by rw [← g2_0]; exact hC.t1, hC.t0, hC.sz, hC.bl⟩
      have HC := Lib.hid hC
      clear hC
      go_wp2
      obtain ⟨w2, rfl⟩ : ∃ w2 : World, w2 = wr := ⟨_, rfl⟩
      go_loopw [4] (fun v wr => ∃ k : Nat, k ≤ 26 ∧ v = .int .i32 (97 + k) ∧ CW B w wr (g2 k)) (fun v _ => 123 - (intOf v).toNat)
      case atStart => exact ⟨0, by omega, rfl, HC.out⟩
      case round =>
        clear HC
        obtain ⟨k, hk, rfl, hC⟩ := hrel
        by_cases hlt : k < 26
        · have q2 := hC.c1 (j := 97 + k) (by omega)
          have q3 := hC.f1 (97 + k)
          have HC := Lib.hid (hC.set (97 + k) 2 (g2_set k))
          have e1 : (97 + (k : Int)).toNat = 97 + k := by omega
          clear hC
          go_wp2
          go_roundw
          case rel => exact ⟨k + 1, by omega, by go_num, HC.out⟩
          case measure => simp [intOf]; omega
        · obtain rfl : k = 26 := by omega
          have hC : CW B w wr (g3 0) := ⟨by rw [← g3_0]; exact hC.t1, hC.t0, hC.sz, hC.bl⟩
          have HC := Lib.hid hC
          clear hC
          go_wp2
          obtain ⟨w3, rfl⟩ : ∃ w3 : World, w3 = wr := ⟨_, rfl⟩
          go_loopw [5] (fun v wr => ∃ k : Nat, k ≤ 10 ∧ v = .int .i32 (48 + k) ∧ CW B w wr (g3 k)) (fun v _ => 58 - (intOf v).toNat)
          case atStart => exact ⟨0, by omega, rfl, HC.out⟩
          case round =>
            clear HC
            obtain ⟨k, hk, rfl, hC⟩ := hrel
            by_cases hlt : k < 10
            · have q2 := hC.c1 (j := 48 + k) (by omega)
              have q3 := hC.f1 (48 + k)
              have HC := Lib.hid (hC.set (48 + k) 3 (g3_set k))
              have e1 : (48 + (k : Int)).toNat = 48 + k := by omega
              clear hC
              go_wp2
              go_roundw
              case rel => exact ⟨k + 1, by omega, by go_num, HC.out⟩
              case measure => simp [intOf]; omega
            · obtain rfl : k = 10 := by omega
              have q2 := hC.c1 (j := 95) (by omega)
              have q3 := hC.f1 95
              have hC1 := hC.set 95 4 g4_set
              have q4 := hC1.c1 (j := 34) (by omega)
              have q5 := hC1.f1 34
              have hC2 := hC1.set 34 5 cls_set
              have HC := Lib.hid hC2
              clear hC hC1 hC2
              have hu : (match (TypeDesc.array 256 5) with | .struct _ | .array _ _ => true | _ => false) = true := rfl
              go_wp2_with (first
                | (refine wpList_load_row rfl 37 (.tmp 1) rfl (B + 1) rfl 37 (tab clsN) (0, 0) _ HC.out.t1 Tryd.underlying37 (by rfl) (by rw [tab_size]; exact info37) ?_)
                | (refine wpList_store_row rfl 37 (.tmp 0) (.tmp 30) rfl B (tab clsN) rfl rfl 37 (tab zf) HC.out.t0 (by rw [tab_size]; exact info37) (by rw [tab_size, tab_size]) (tab_one _) ?_))
              refine bodyPost_ret (v := .agg (tab clsN)) (results_cell_row rfl _ _ B 37 (tab clsN) (0, 0) _ rfl (setRow_heap _ B (tab zf) _ 37 (0, 0) HC.out.t0) Tryd.underlying37 rfl (by rw [tab_size]; exact info37)) rfl ⟨rfl, ?_⟩
              exact below_setRow HC.out.bl (Nat.le_refl _) _
end Go.Proofs.YtjcobjikgakapaaDoor
