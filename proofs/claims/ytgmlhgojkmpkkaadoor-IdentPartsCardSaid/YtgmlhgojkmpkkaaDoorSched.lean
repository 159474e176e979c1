/- The schedule of a block, walked. -/
import Derived.Test.YtgmlhgojkmpkkaaDoorTurn
import Derived.Test.YtgmlhgojkmpkkaaDoorSchedPure
import Derived.Test.YtgmlhgojkmpkkaaDoorTail
import Derived.Laws.CopyOwn
import Derived.Laws.Tables
namespace Go.Proofs.YtgmlhgojkmpkkaaDoor
open Go.ChangeShapes Go.WideShapes Go.ChangeAt Go.RowKit Go.Lib
set_option linter.unusedVariables false

theorem zero64 (b : List UInt8) : (#[.int .u32 0, .int .u32 0, .int .u32 0, .int .u32 0, .int .u32 0, .int .u32 0, .int .u32 0, .int .u32 0, .int .u32 0, .int .u32 0, .int .u32 0, .int .u32 0, .int .u32 0, .int .u32 0, .int .u32 0, .int .u32 0, .int .u32 0, .int .u32 0, .int .u32 0, .int .u32 0, .int .u32 0, .int .u32 0, .int .u32 0, .int .u32 0, .int .u32 0, .int .u32 0, .int .u32 0, .int .u32 0, .int .u32 0, .int .u32 0, .int .u32 0, .int .u32 0, .int .u32 0, .int .u32 0, .int .u32 0, .int .u32 0, .int .u32 0, .int .u32 0, .int .u32 0, .int .u32 0, .int .u32 0, .int .u32 0, .int .u32 0, .int .u32 0, .int .u32 0, .int .u32 0, .int .u32 0, .int .u32 0, .int .u32 0, .int .u32 0, .int .u32 0, .int .u32 0, .int .u32 0, .int .u32 0, .int .u32 0, .int .u32 0, .int .u32 0, .int .u32 0, .int .u32 0, .int .u32 0, .int .u32 0, .int .u32 0, .int .u32 0, .int .u32 0] : Array Value) = tabW 64 (part b 0) := by rw [part_none]; kernel_rfl
theorem info64 : (Tryd.prog.info? 55).map (·.size) = some 64 := by kernel_rfl
theorem bs_at (l : List UInt8) {k : Nat} (h : k < l.length) : ∀ h', ((bs l)[k]'h').toNat = byN l k := by
  intro h'
  simp only [bs, byN]
  rw [List.getD_eq_getElem?_getD, List.getElem?_eq_getElem h]
  rfl
theorem slice_any (l : List UInt8) (a b : Nat) (h : a ≤ b) (hb : b ≤ l.length) (i j : Int) (hi : i = a) (hj : j = b) (w : World) : (Instr.slice 9 (.string (bs l)) (some (.int .i64 i)) (some (.int .i64 j)) none).run Tryd.prog w = .ok (.string (bs ((l.drop a).take (b - a)))) w := by
  subst hi; subst hj
  rw [run_slice_string w 9 (bs l) .i64 .i64 a b Tryd.underlying9 (by omega) (by omega) (by rw [bs_size]; omega), ← bs_extract]
  rfl
/-- the two tables of the call: the one that is filled holds f -/
structure SW (B : Nat) (w wr : World) (b : List UInt8) (k : Nat) : Prop where
  t1 : wr.heap[B + 1]? = some (.cells (tabW 64 (part b k)) 55 (0, 0))
  t0 : wr.heap[B]? = some (.cells (tabW 64 (part b 0)) 55 (0, 0))
  sz : B + 2 ≤ wr.heap.size
  bl : Below B w wr
theorem SW.set {B : Nat} {w wr : World} {b : List UInt8} {k : Nat} (h : SW B w wr b k) : SW B w (wr.setCell ⟨B + 1, k, none⟩ (.int .u32 (sch b k))) b (k + 1) := by
  refine ⟨?_, ?_, ?_, h.bl.setCell (by simp) _⟩
  · rw [heap_setCell_same _ _ _ _ _ _ h.t1, part_set]
  · rw [heap_setCell_other _ _ _ _ (by simp), h.t0]
  · have := h.sz; simpa [World.setCell] using this
theorem SW.drew {B : Nat} {w wr : World} {b : List UInt8} {k : Nat} (h : SW B w wr b k) : SW B w wr.drew b k := ⟨h.t1, h.t0, h.sz, h.bl.drew⟩
theorem SW.drewN {B : Nat} {w wr : World} {b : List UInt8} {k : Nat} (h : SW B w wr b k) (n : Nat) : SW B w (wr.drewN n) b k := ⟨h.t1, h.t0, h.sz, below_drewN h.bl n⟩
theorem SW.c1 {B : Nat} {w wr : World} {b : List UInt8} {k : Nat} (h : SW B w wr b k) {j : Nat} (hj : j < k) (hk : k ≤ 64) : wr.cell? ⟨B + 1, j, none⟩ = some (.int .u32 (sch b j)) := by
  rw [cell_of_row _ _ _ _ _ _ h.t1, tabW_get _ (by omega), part_in hj]
theorem SW.c2 {B : Nat} {w wr : World} {b : List UInt8} {k : Nat} (h : SW B w wr b k) (hk : k < 64) : wr.cell? ⟨B + 1, k, none⟩ = some (.int .u32 (part b k k)) := by
  rw [cell_of_row _ _ _ _ _ _ h.t1, tabW_get _ (by omega)]
theorem SW.f1 {B : Nat} {w wr : World} {b : List UInt8} {k : Nat} (h : SW B w wr b k) (j : Nat) : wr.frozen? ⟨B + 1, j, none⟩ = false := frozen_of_row _ _ _ _ _ h.t1
set_option maxRecDepth 100000 in
set_option maxHeartbeats 1000000 in
theorem sched_any (l : List UInt8) (hl : l.length = 64) (w : World) : Calls Tryd.prog 44 #[.string (bs l)] w (fun e w' => e = .returned (.agg (tabW 64 (sch l))) ∧ Below w.heap.size w w') := by
  obtain ⟨B, hB⟩ : ∃ B, w.heap.size = B := ⟨_, rfl⟩
  rw [hB]
  go_enter Tryd.func44, Tryd.ntmps44
  go_wp2
  obtain ⟨W, hW⟩ : ∃ W, W = (w.alloc (.cells #[.int .u32 0, .int .u32 0, .int .u32 0, .int .u32 0, .int .u32 0, .int .u32 0, .int .u32 0, .int .u32 0, .int .u32 0, .int .u32 0, .int .u32 0, .int .u32 0, .int .u32 0, .int .u32 0, .int .u32 0, .int .u32 0, .int .u32 0, .int .u32 0, .int .u32 0, .int .u32 0, .int .u32 0, .int .u32 0, .int .u32 0, .int .u32 0, .int .u32 0, .int .u32 0, .int .u32 0, .int .u32 0, .int .u32 0, .int .u32 0, .int .u32 0, .int .u32 0, .int .u32 0, .int .u32 0, .int .u32 0, .int .u32 0, .int .u32 0, .int .u32 0, .int .u32 0, .int .u32 0, .int .u32 0, .int .u32 0, .int .u32 0, .int .u32 0, .int .u32 0, .int .u32 0, .int .u32 0, .int .u32 0, .int .u32 0, .int .u32 0, .int .u32 0, .int .u32 0, .int .u32 0, .int .u32 0, .int .u32 0, .int .u32 0, .int .u32 0, .int .u32 0, .int .u32 0, .int .u32 0, .int .u32 0, .int .u32 0, .int .u32 0, .int .u32 0] 55)).alloc (.cells #[.int .u32 0, .int .u32 0, .int .u32 0, .int .u32 0, .int .u32 0, .int .u32 0, .int .u32 0, .int .u32 0, .int .u32 0, .int .u32 0, .int .u32 0, .int .u32 0, .int .u32 0, .int .u32 0, .int .u32 0, .int .u32 0, .int .u32 0, .int .u32 0, .int .u32 0, .int .u32 0, .int .u32 0, .int .u32 0, .int .u32 0, .int .u32 0, .int .u32 0, .int .u32 0, .int .u32 0, .int .u32 0, .int .u32 0, .int .u32 0, .int .u32 0, .int .u32 0, .int .u32 0, .int .u32 0, .int .u32 0, .int .u32 0, .int .u32 0, .int .u32 0, .int .u32 0, .int .u32 0, .int .u32 0, .int .u32 0, .int .u32 0, .int .u32 0, .int .u32 0, .int .u32 0, .int .u32 0, .int .u32 0, .int .u32 0, .int .u32 0, .int .u32 0, .int .u32 0, .int .u32 0, .int .u32 0, .int .u32 0, .int .u32 0, .int .u32 0, .int .u32 0, .int .u32 0, .int .u32 0, .int .u32 0, .int .u32 0, .int .u32 0, .int .u32 0] 55) := ⟨_, rfl⟩
  have hC : SW B w W l 0 := by
    have s1 : (w.alloc (.cells #[.int .u32 0, .int .u32 0, .int .u32 0, .int .u32 0, .int .u32 0, .int .u32 0, .int .u32 0, .int .u32 0, .int .u32 0, .int .u32 0, .int .u32 0, .int .u32 0, .int .u32 0, .int .u32 0, .int .u32 0, .int .u32 0, .int .u32 0, .int .u32 0, .int .u32 0, .int .u32 0, .int .u32 0, .int .u32 0, .int .u32 0, .int .u32 0, .int .u32 0, .int .u32 0, .int .u32 0, .int .u32 0, .int .u32 0, .int .u32 0, .int .u32 0, .int .u32 0, .int .u32 0, .int .u32 0, .int .u32 0, .int .u32 0, .int .u32 0, .int .u32 0, .int .u32 0, .int .u32 0, .int .u32 0, .int .u32 0, .int .u32 0, .int .u32 0, .int .u32 0, .int .u32 0, .int .u32 0, .int .u32 0, .int .u32 0, .int .u32 0, .int .u32 0, .int .u32 0, .int .u32 0, .int .u32 0, .int .u32 0, .int .u32 0, .int .u32 0, .int .u32 0, .int .u32 0, .int .u32 0, .int .u32 0, .int .u32 0, .int .u32 0, .int .u32 0] 55)).heap.size = B + 1 := by simp [hB]
    refine ⟨?_, ?_, ?_, ?_⟩
    · rw [hW, ← s1, heap_alloc_new, zero64 l]
    · rw [hW, Below.heap_alloc _ _ _ (by omega), ← hB, heap_alloc_new, zero64 l]
    · rw [hW]; simp [hB]
    · rw [hW]
      exact ((Below.refl _ _).alloc (by omega) _).alloc (by omega) _
  rw [← hW]
  clear hW
  go_loopw [11] (fun v wr => ∃ k : Nat, k ≤ 16 ∧ v = .int .i64 k ∧ SW B w wr l k) (fun v _ => 16 - (intOf v).toNat)
  case atStart => exact ⟨0, by omega, rfl, hC⟩
  case round =>
    clear hC
    obtain ⟨k, hk, rfl, hC⟩ := hrel
    by_cases hlt : k < 16
    · have hsl := slice_any l (4 * k) (4 * k + 4) (by omega) (by omega) (4 * (k : Int)) (4 * (k : Int) + 4) (by omega) (by omega)
      have e4 : 4 * k + 4 - 4 * k = 4 := by omega
      rw [e4] at hsl
      have b0 := byN_lt l (4 * k)
      have b1 := byN_lt l (4 * k + 1)
      have b2 := byN_lt l (4 * k + 2)
      have b3 := byN_lt l (4 * k + 3)
      have hx : ∀ j, j < 4 → byN ((l.drop (4 * k)).take 4) j = byN l (4 * k + j) := by
        intro j hj
        unfold byN
        rw [List.getD_eq_getElem?_getD, List.getD_eq_getElem?_getD, List.getElem?_take, if_pos hj, List.getElem?_drop]
      have hxl : ((l.drop (4 * k)).take 4).length = 4 := by simp; omega
      have i0 := bs_at ((l.drop (4 * k)).take 4) (k := 0) (by omega)
      have i1 := bs_at ((l.drop (4 * k)).take 4) (k := 1) (by omega)
      have i2 := bs_at ((l.drop (4 * k)).take 4) (k := 2) (by omega)
      have i3 := bs_at ((l.drop (4 * k)).take 4) (k := 3) (by omega)
      rw [hx _ (by omega)] at i0 i1 i2 i3
      have hws : Hid (sch l k = wordB l k) := sch_lo l hlt
      have hor := word_or _ _ _ _ b0 b1 b2 b3
      have hsz : (bs ((l.drop (4 * k)).take 4)).size = 4 := by rw [bs_size, hxl]
      have hC' := hC.drew.set
      rw [hws.out] at hC'
      unfold wordB at hC'
      rw [Nat.add_zero] at i0
      generalize byN l (4 * k) = d0 at *
      generalize byN l (4 * k + 1) = d1 at *
      generalize byN l (4 * k + 2) = d2 at *
      generalize byN l (4 * k + 3) = d3 at *
      generalize bs ((l.drop (4 * k)).take 4) = S at *
      have q2 := hC.drew.c2 (by omega)
      have q3 := hC.drew.f1 k
      have HC := Lib.hid hC'
      clear hC hC' hx hxl hws
      go_wp2
      refine wp_region_still_tail 20 (by kernel_rfl) (by kernel_rfl) ?_
      simp only [List.take_succ_cons, List.take_zero, List.drop_succ_cons, List.drop_zero]
      refine wpStill_of_wpQuiet _ _ ?_
      repeat (first | go_big_quiet_skip | (go_big_quiet_want; go_big_quiet_op; first | go_big_quiet_on | (apply Exists.intro; refine ⟨?_, ?_⟩; (fail); go_big_quiet_on)))
      refine wpQuiet_nil ?_
      change wpList _ _ _ _ _ wr.drew
      go_wp2
      go_roundw
      case rel => exact ⟨k + 1, by omega, by go_num, HC.out⟩
      case measure => simp [intOf]; omega
    · have hk16 : k = 16 := by omega
      have hC : SW B w wr l 16 := by rw [← hk16]; exact hC
      have dk : decide ((k : Int) < 16) = false := decide_eq_false (by omega)
      clear hk16 hk hlt
      generalize (k : Int) = kz at *
      go_wp2
      obtain ⟨w2, rfl⟩ : ∃ w2 : World, w2 = wr := ⟨_, rfl⟩
      go_loopw [6] (fun v wr => ∃ k : Nat, 16 ≤ k ∧ k ≤ 64 ∧ v = .int .i64 k ∧ SW B w wr l k) (fun v _ => 64 - (intOf v).toNat)
      case atStart => exact ⟨16, by omega, by omega, rfl, hC⟩
      case round =>
        clear hC
        obtain ⟨k, hk0, hk, rfl, hC⟩ := hrel
        by_cases hlt : k < 64
        · have p1 := hC.c1 (j := k - 15) (by omega) (by omega)
          have p2 := hC.c1 (j := k - 2) (by omega) (by omega)
          have hc3 := Lib.hid (fun n => (hC.drewN n).drew.c1 (j := k - 16) (by omega) (by omega))
          have hc4 := Lib.hid (fun n => (hC.drewN n).drew.c1 (j := k - 7) (by omega) (by omega))
          have hcq := Lib.hid (fun n => (hC.drewN n).drew.c2 hlt)
          have hcf := Lib.hid (fun n => (hC.drewN n).drew.f1 k)
          have q4 := hC.f1 (k - 15)
          have t15 : ((k : Int) - 15).toNat = k - 15 := by omega
          have t2 : ((k : Int) - 2).toNat = k - 2 := by omega
          have t16 : ((k : Int) - 16).toNat = k - 16 := by omega
          have t7 : ((k : Int) - 7).toNat = k - 7 := by omega
          have o15 := sch_ok l (k - 15)
          have o2 := sch_ok l (k - 2)
          have o16 := sch_ok l (k - 16)
          have o7 := sch_ok l (k - 7)
          have HS := Lib.hid (sch_hi l hk0)
          have HC := Lib.hid (fun n => (hC.drewN n).drew.set)
          clear hC
          generalize sch l k = sk at *
          generalize sch l (k - 15) = x at *
          generalize sch l (k - 2) = y at *
          generalize sch l (k - 16) = u at *
          generalize sch l (k - 7) = v at *
          have ca := fun W => turn_7 x W o15.1 o15.2
          have cb := fun W => turn_18 x W o15.1 o15.2
          have cc := fun W => turn_17 y W o2.1 o2.2
          have cd := fun W => turn_19 y W o2.1 o2.2
          go_wp2
          go_quiet (fail)
          go_wp2_with fail
          (with_reducible refine (ca _).mono ?_)
          rintro e w' ⟨rfl, rfl⟩
          go_wp2_with fail
          (with_reducible refine (cb _).mono ?_)
          rintro e w' ⟨rfl, rfl⟩
          go_wp2_with fail
          (with_reducible refine (cc _).mono ?_)
          rintro e w' ⟨rfl, rfl⟩
          go_wp2_with fail
          (with_reducible refine (cd _).mono ?_)
          rintro e w' ⟨rfl, rfl⟩
          go_wp2
          have p3 := hc3.out nq
          have p4 := hc4.out nq
          have q2 := hcq.out nq
          have q3 := hcf.out nq
          have HCn := Lib.hid (HC.out nq)
          clear hc3 hc4 hcq hcf HC
          generalize wr.drewN nq = wd at *
          refine wp_region_still_tail 15 (by kernel_rfl) (by kernel_rfl) ?_
          simp only [List.take_succ_cons, List.take_zero, List.drop_succ_cons, List.drop_zero]
          refine wpStill_of_wpQuiet _ _ ?_
          repeat (first | go_big_quiet_skip | (go_big_quiet_want; go_big_quiet_op; first | go_big_quiet_on | (apply Exists.intro; refine ⟨?_, ?_⟩; (fail); go_big_quiet_on)))
          refine wpQuiet_nil ?_
          change wpList _ _ _ _ _ wd.drew
          go_wp2
          go_roundw
          case rel =>
            have hfin := HCn.out
            rw [HS.out] at hfin
            unfold sm0 sm1 at hfin
            exact ⟨k + 1, by omega, by omega, by go_num, hfin⟩
          case measure => simp [intOf]; omega
        · obtain rfl : k = 64 := by omega
          have T1 := hC.t1
          rw [part_full] at T1
          have T0 := hC.t0
          have HB := Lib.hid hC.bl
          clear hC
          have hu : (match (TypeDesc.array 64 42) with | .struct _ | .array _ _ => true | _ => false) = true := rfl
          go_wp2_with (first
            | (refine wpList_load_row rfl 55 (.tmp 3) rfl (B + 1) rfl 55 (tabW 64 (sch l)) (0, 0) _ T1 Tryd.underlying55 (by rfl) (by rw [tabW_size]; exact info64) ?_)
            | (refine wpList_store_row rfl 55 (.tmp 2) (.tmp 85) rfl B (tabW 64 (sch l)) rfl rfl 55 (tabW 64 (part l 0)) T0 (by rw [tabW_size]; exact info64) (by rw [tabW_size, tabW_size]) (tabW_one _ _) ?_))
          refine bodyPost_ret (v := .agg (tabW 64 (sch l))) (results_cell_row rfl _ _ B 55 (tabW 64 (sch l)) (0, 0) _ rfl (setRow_heap _ B (tabW 64 (part l 0)) _ 55 (0, 0) T0) Tryd.underlying55 rfl (by rw [tabW_size]; exact info64)) rfl ⟨rfl, ?_⟩
          exact below_setRow HB.out (Nat.le_refl _) _
end Go.Proofs.YtgmlhgojkmpkkaaDoor
