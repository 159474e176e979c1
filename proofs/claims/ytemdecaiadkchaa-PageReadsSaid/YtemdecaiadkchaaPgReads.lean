/- PageReads, walked: it answers true. -/
import Derived.Test.YtemdecaiadkchaaPgReadsA
namespace Go.Proofs.Ytemdecaiadkchaa
open Go.ChangeShapes Go.WideShapes Go.ChangeAt Go.RowKit Go.Lib
set_option linter.unusedVariables false
set_option linter.unusedSimpArgs false

set_option maxRecDepth 100000 in
set_option maxHeartbeats 40000000 in
theorem reads_01s (m n : Mk) (s : List UInt8) (w : World) (l1 : s.length ≤ 200) (l2 : m.id.length ≤ 200) (l3 : n.id.length ≤ 200) (hm : rightB m = false) (hn : rightB n = true) (y : Mk) (hy : readM s = some y) :
    Calls Try.prog 3 #[.agg (cellsM m), .agg (cellsM n), .string (bs s)] w (BoolPost w true) := by
  have cs := fun W => small_any W
  have cbm := fun W => bytes_any m W
  have crm := fun W => right_any m W
  have cxr := fun W => read_any (bytesM m) W (by have := bytes_len m; omega)
  have cyr := fun W => read_any s W (by omega)
  have cbn := fun W => bytes_any n W
  have crn := fun W => right_any n W
  rw [hm] at crm
  rw [hn] at crn
  unfold ReadP at cxr cyr
  rw [hy] at cyr
  rw [bytes_bad hm, read_nil] at cxr
  rw [bytes_bad hm] at cbm
  have hnil : bs [] = ⟨#[]⟩ := rfl
  obtain ⟨hy1, hy2⟩ := of_read hy
  have cry := fun W => right_any y W
  have cby := fun W => bytes_any y W
  rw [hy1] at cry
  rw [hy2] at cby
  have ts := bs_toList s
  have ss := bs_size s
  have sm := bs_size m.id
  have sn := bs_size n.id
  have d1 : decide (200 < (s.length : Int)) = false := decide_eq_false (by omega)
  have d2 : decide (200 < (m.id.length : Int)) = false := decide_eq_false (by omega)
  have d3 : decide (200 < (n.id.length : Int)) = false := decide_eq_false (by omega)
  have tss : (s == s) = true := by simp
  have g3 := heap_alloc_new w (.cells (cellsM m) 23)
  have g4 := heap_alloc_new (w.alloc (.cells (cellsM m) 23)) (.cells (cellsM n) 23)
  rw [World.size_alloc] at g4
  have g3' := (Below.heap_alloc _ (.cells (cellsM n) 23) _ (lt_of_heap g3)).trans g3
  have hB0 := ((Below.refl w.heap.size w).alloc (Nat.le_refl _) (.cells (cellsM m) 23)).alloc (by simp) (.cells (cellsM n) 23)
  have M3 := Lib.hid g3'
  have M4 := Lib.hid g4
  have HB := Lib.hid hB0
  have q3 : ((w.alloc (.cells (cellsM m) 23)).alloc (.cells (cellsM n) 23)).cell? ⟨w.heap.size, 3, none⟩ = some (.string (bs m.id)) := (fiveM g3').2.2.2.1
  have q4 : ((w.alloc (.cells (cellsM m) 23)).alloc (.cells (cellsM n) 23)).cell? ⟨w.heap.size + 1, 3, none⟩ = some (.string (bs n.id)) := (fiveM g4).2.2.2.1
  clear g3 g4 g3' hB0 hm hn hy l1 l2 l3 hy1 hy2
  unfold StrPost at cbm cbn cby
  simp only [Option.getD_some, Option.getD_none, Option.isSome_some, Option.isSome_none] at cxr cyr
  rw [hnil] at cbm cxr
  have hzc : cellsM zeroM = #[.int .i64 0, .int .i64 0, .int .i64 0, .string ⟨#[]⟩, .bool false] := rfl
  try rw [hzc] at cxr
  try rw [hzc] at cyr
  simp only [cellsM] at cbm crm cxr cyr q3 q4 cbn crn cry cby
  simp only [cellsM]
  go_enter Try.func3, Try.ntmps3
  go_wp2_with fail
  (with_reducible refine Calls.mono (cs _) ?_)
  rintro e w1 ⟨rfl, hbx⟩
  replace M3 := Lib.hid (keep_blkP hbx M3.out)
  replace M4 := Lib.hid (keep_blkP hbx M4.out)
  replace HB := Lib.hid (HB.out.trans (hbx.mono HB.out.size))
  clear hbx q3 q4 cs
  obtain ⟨pM30, pM31, pM32, pM33, pM34⟩ : (w1.cell? ⟨w.heap.size, 0, none⟩ = some (.int .i64 m.now) ∧ w1.cell? ⟨w.heap.size, 1, none⟩ = some (.int .i64 m.score) ∧ w1.cell? ⟨w.heap.size, 2, none⟩ = some (.int .i64 m.time) ∧ w1.cell? ⟨w.heap.size, 3, none⟩ = some (.string (bs m.id)) ∧ w1.cell? ⟨w.heap.size, 4, none⟩ = some (.bool m.beg)) := fiveM (k := m) M3.out
  obtain ⟨pM40, pM41, pM42, pM43, pM44⟩ : (w1.cell? ⟨w.heap.size + 1, 0, none⟩ = some (.int .i64 n.now) ∧ w1.cell? ⟨w.heap.size + 1, 1, none⟩ = some (.int .i64 n.score) ∧ w1.cell? ⟨w.heap.size + 1, 2, none⟩ = some (.int .i64 n.time) ∧ w1.cell? ⟨w.heap.size + 1, 3, none⟩ = some (.string (bs n.id)) ∧ w1.cell? ⟨w.heap.size + 1, 4, none⟩ = some (.bool n.beg)) := fiveM (k := n) M4.out
  go_wp2_with fail
  (with_reducible refine Calls.mono (cbm _) ?_)
  rintro e w2 ⟨rfl, hbx⟩
  clear pM30 pM31 pM32 pM33 pM34 pM40 pM41 pM42 pM43 pM44
  replace M3 := Lib.hid (keep_blkP hbx M3.out)
  replace M4 := Lib.hid (keep_blkP hbx M4.out)
  replace HB := Lib.hid (HB.out.trans (hbx.mono HB.out.size))
  clear hbx
  obtain ⟨pM30, pM31, pM32, pM33, pM34⟩ : (w2.cell? ⟨w.heap.size, 0, none⟩ = some (.int .i64 m.now) ∧ w2.cell? ⟨w.heap.size, 1, none⟩ = some (.int .i64 m.score) ∧ w2.cell? ⟨w.heap.size, 2, none⟩ = some (.int .i64 m.time) ∧ w2.cell? ⟨w.heap.size, 3, none⟩ = some (.string (bs m.id)) ∧ w2.cell? ⟨w.heap.size, 4, none⟩ = some (.bool m.beg)) := fiveM (k := m) M3.out
  obtain ⟨pM40, pM41, pM42, pM43, pM44⟩ : (w2.cell? ⟨w.heap.size + 1, 0, none⟩ = some (.int .i64 n.now) ∧ w2.cell? ⟨w.heap.size + 1, 1, none⟩ = some (.int .i64 n.score) ∧ w2.cell? ⟨w.heap.size + 1, 2, none⟩ = some (.int .i64 n.time) ∧ w2.cell? ⟨w.heap.size + 1, 3, none⟩ = some (.string (bs n.id)) ∧ w2.cell? ⟨w.heap.size + 1, 4, none⟩ = some (.bool n.beg)) := fiveM (k := n) M4.out
  go_wp2_with fail
  (with_reducible refine Calls.mono (cxr _) ?_)
  rintro e w3 ⟨rfl, hbx⟩
  clear pM30 pM31 pM32 pM33 pM34 pM40 pM41 pM42 pM43 pM44
  replace M3 := Lib.hid (keep_blkP hbx M3.out)
  replace M4 := Lib.hid (keep_blkP hbx M4.out)
  replace HB := Lib.hid (HB.out.trans (hbx.mono HB.out.size))
  clear hbx cxr
  have M8 := Lib.hid (heap_alloc_new w3 (.cells #[.int .i64 0, .int .i64 0, .int .i64 0, .string ⟨#[]⟩, .bool false] 23))
  replace M3 := Lib.hid ((Below.heap_alloc _ (.cells #[.int .i64 0, .int .i64 0, .int .i64 0, .string ⟨#[]⟩, .bool false] 23) _ (lt_of_heap M3.out)).trans M3.out)
  replace M4 := Lib.hid ((Below.heap_alloc _ (.cells #[.int .i64 0, .int .i64 0, .int .i64 0, .string ⟨#[]⟩, .bool false] 23) _ (lt_of_heap M4.out)).trans M4.out)
  replace HB := Lib.hid (HB.out.alloc HB.out.size (.cells #[.int .i64 0, .int .i64 0, .int .i64 0, .string ⟨#[]⟩, .bool false] 23))
  obtain ⟨pM30, pM31, pM32, pM33, pM34⟩ : ((w3.alloc (.cells #[.int .i64 0, .int .i64 0, .int .i64 0, .string ⟨#[]⟩, .bool false] 23)).cell? ⟨w.heap.size, 0, none⟩ = some (.int .i64 m.now) ∧ (w3.alloc (.cells #[.int .i64 0, .int .i64 0, .int .i64 0, .string ⟨#[]⟩, .bool false] 23)).cell? ⟨w.heap.size, 1, none⟩ = some (.int .i64 m.score) ∧ (w3.alloc (.cells #[.int .i64 0, .int .i64 0, .int .i64 0, .string ⟨#[]⟩, .bool false] 23)).cell? ⟨w.heap.size, 2, none⟩ = some (.int .i64 m.time) ∧ (w3.alloc (.cells #[.int .i64 0, .int .i64 0, .int .i64 0, .string ⟨#[]⟩, .bool false] 23)).cell? ⟨w.heap.size, 3, none⟩ = some (.string (bs m.id)) ∧ (w3.alloc (.cells #[.int .i64 0, .int .i64 0, .int .i64 0, .string ⟨#[]⟩, .bool false] 23)).cell? ⟨w.heap.size, 4, none⟩ = some (.bool m.beg)) := fiveM (k := m) M3.out
  obtain ⟨pM40, pM41, pM42, pM43, pM44⟩ : ((w3.alloc (.cells #[.int .i64 0, .int .i64 0, .int .i64 0, .string ⟨#[]⟩, .bool false] 23)).cell? ⟨w.heap.size + 1, 0, none⟩ = some (.int .i64 n.now) ∧ (w3.alloc (.cells #[.int .i64 0, .int .i64 0, .int .i64 0, .string ⟨#[]⟩, .bool false] 23)).cell? ⟨w.heap.size + 1, 1, none⟩ = some (.int .i64 n.score) ∧ (w3.alloc (.cells #[.int .i64 0, .int .i64 0, .int .i64 0, .string ⟨#[]⟩, .bool false] 23)).cell? ⟨w.heap.size + 1, 2, none⟩ = some (.int .i64 n.time) ∧ (w3.alloc (.cells #[.int .i64 0, .int .i64 0, .int .i64 0, .string ⟨#[]⟩, .bool false] 23)).cell? ⟨w.heap.size + 1, 3, none⟩ = some (.string (bs n.id)) ∧ (w3.alloc (.cells #[.int .i64 0, .int .i64 0, .int .i64 0, .string ⟨#[]⟩, .bool false] 23)).cell? ⟨w.heap.size + 1, 4, none⟩ = some (.bool n.beg)) := fiveM (k := n) M4.out
  obtain ⟨pM80, pM81, pM82, pM83, pM84⟩ : ((w3.alloc (.cells #[.int .i64 0, .int .i64 0, .int .i64 0, .string ⟨#[]⟩, .bool false] 23)).cell? ⟨w3.heap.size, 0, none⟩ = some (.int .i64 0) ∧ (w3.alloc (.cells #[.int .i64 0, .int .i64 0, .int .i64 0, .string ⟨#[]⟩, .bool false] 23)).cell? ⟨w3.heap.size, 1, none⟩ = some (.int .i64 0) ∧ (w3.alloc (.cells #[.int .i64 0, .int .i64 0, .int .i64 0, .string ⟨#[]⟩, .bool false] 23)).cell? ⟨w3.heap.size, 2, none⟩ = some (.int .i64 0) ∧ (w3.alloc (.cells #[.int .i64 0, .int .i64 0, .int .i64 0, .string ⟨#[]⟩, .bool false] 23)).cell? ⟨w3.heap.size, 3, none⟩ = some (.string ⟨#[]⟩) ∧ (w3.alloc (.cells #[.int .i64 0, .int .i64 0, .int .i64 0, .string ⟨#[]⟩, .bool false] 23)).cell? ⟨w3.heap.size, 4, none⟩ = some (.bool false)) := fiveM (k := zeroM) M8.out
  go_wp2_with fail
  (with_reducible refine Calls.mono (cyr _) ?_)
  rintro e w4 ⟨rfl, hbx⟩
  clear pM30 pM31 pM32 pM33 pM34 pM40 pM41 pM42 pM43 pM44 pM80 pM81 pM82 pM83 pM84
  replace M3 := Lib.hid (keep_blkP hbx M3.out)
  replace M4 := Lib.hid (keep_blkP hbx M4.out)
  replace M8 := Lib.hid (keep_blkP hbx M8.out)
  replace HB := Lib.hid (HB.out.trans (hbx.mono HB.out.size))
  clear hbx cyr
  have M10 := Lib.hid (heap_alloc_new w4 (.cells #[.int .i64 y.now, .int .i64 y.score, .int .i64 y.time, .string (bs y.id), .bool y.beg] 23))
  replace M3 := Lib.hid ((Below.heap_alloc _ (.cells #[.int .i64 y.now, .int .i64 y.score, .int .i64 y.time, .string (bs y.id), .bool y.beg] 23) _ (lt_of_heap M3.out)).trans M3.out)
  replace M4 := Lib.hid ((Below.heap_alloc _ (.cells #[.int .i64 y.now, .int .i64 y.score, .int .i64 y.time, .string (bs y.id), .bool y.beg] 23) _ (lt_of_heap M4.out)).trans M4.out)
  replace M8 := Lib.hid ((Below.heap_alloc _ (.cells #[.int .i64 y.now, .int .i64 y.score, .int .i64 y.time, .string (bs y.id), .bool y.beg] 23) _ (lt_of_heap M8.out)).trans M8.out)
  replace HB := Lib.hid (HB.out.alloc HB.out.size (.cells #[.int .i64 y.now, .int .i64 y.score, .int .i64 y.time, .string (bs y.id), .bool y.beg] 23))
  obtain ⟨wz, hwz⟩ : ∃ wz, wz = (w4.alloc (.cells #[.int .i64 y.now, .int .i64 y.score, .int .i64 y.time, .string (bs y.id), .bool y.beg] 23)) := ⟨_, rfl⟩
  rw [← hwz] at HB M3 M4 M8 M10
  have FF : Hid (∀ W, Below wz.heap.size wz W → (W.cell? ⟨w.heap.size, 0, none⟩ = some (.int .i64 m.now) ∧ W.cell? ⟨w.heap.size, 1, none⟩ = some (.int .i64 m.score) ∧ W.cell? ⟨w.heap.size, 2, none⟩ = some (.int .i64 m.time) ∧ W.cell? ⟨w.heap.size, 3, none⟩ = some (.string (bs m.id)) ∧ W.cell? ⟨w.heap.size, 4, none⟩ = some (.bool m.beg)) ∧ (W.cell? ⟨w.heap.size + 1, 0, none⟩ = some (.int .i64 n.now) ∧ W.cell? ⟨w.heap.size + 1, 1, none⟩ = some (.int .i64 n.score) ∧ W.cell? ⟨w.heap.size + 1, 2, none⟩ = some (.int .i64 n.time) ∧ W.cell? ⟨w.heap.size + 1, 3, none⟩ = some (.string (bs n.id)) ∧ W.cell? ⟨w.heap.size + 1, 4, none⟩ = some (.bool n.beg)) ∧ (W.cell? ⟨w3.heap.size, 0, none⟩ = some (.int .i64 0) ∧ W.cell? ⟨w3.heap.size, 1, none⟩ = some (.int .i64 0) ∧ W.cell? ⟨w3.heap.size, 2, none⟩ = some (.int .i64 0) ∧ W.cell? ⟨w3.heap.size, 3, none⟩ = some (.string ⟨#[]⟩) ∧ W.cell? ⟨w3.heap.size, 4, none⟩ = some (.bool false)) ∧ (W.cell? ⟨w4.heap.size, 0, none⟩ = some (.int .i64 y.now) ∧ W.cell? ⟨w4.heap.size, 1, none⟩ = some (.int .i64 y.score) ∧ W.cell? ⟨w4.heap.size, 2, none⟩ = some (.int .i64 y.time) ∧ W.cell? ⟨w4.heap.size, 3, none⟩ = some (.string (bs y.id)) ∧ W.cell? ⟨w4.heap.size, 4, none⟩ = some (.bool y.beg))) := fun W hW =>
    ⟨fiveM (k := m) (keep_blkP hW M3.out), fiveM (k := n) (keep_blkP hW M4.out), fiveM (k := zeroM) (keep_blkP hW M8.out), fiveM (k := y) (keep_blkP hW M10.out)⟩
  clear M3 M4 M8 M10
  go_wp2_with fail
  rw [← hwz]
  clear hwz
  generalize w3.heap.size = b3 at *
  generalize w4.heap.size = b4 at *
  have gx := FF.out _ (Below.refl wz.heap.size wz).drew
  refine wp_region_held_drew (S := (fun W => Below wz.heap.size wz W ∧ (W.cell? ⟨w.heap.size, 0, none⟩ = some (.int .i64 m.now) ∧ W.cell? ⟨w.heap.size, 1, none⟩ = some (.int .i64 m.score) ∧ W.cell? ⟨w.heap.size, 2, none⟩ = some (.int .i64 m.time) ∧ W.cell? ⟨w.heap.size, 3, none⟩ = some (.string (bs m.id)) ∧ W.cell? ⟨w.heap.size, 4, none⟩ = some (.bool m.beg)) ∧ (W.cell? ⟨w.heap.size + 1, 0, none⟩ = some (.int .i64 n.now) ∧ W.cell? ⟨w.heap.size + 1, 1, none⟩ = some (.int .i64 n.score) ∧ W.cell? ⟨w.heap.size + 1, 2, none⟩ = some (.int .i64 n.time) ∧ W.cell? ⟨w.heap.size + 1, 3, none⟩ = some (.string (bs n.id)) ∧ W.cell? ⟨w.heap.size + 1, 4, none⟩ = some (.bool n.beg)) ∧ (W.cell? ⟨b3, 0, none⟩ = some (.int .i64 0) ∧ W.cell? ⟨b3, 1, none⟩ = some (.int .i64 0) ∧ W.cell? ⟨b3, 2, none⟩ = some (.int .i64 0) ∧ W.cell? ⟨b3, 3, none⟩ = some (.string ⟨#[]⟩) ∧ W.cell? ⟨b3, 4, none⟩ = some (.bool false)) ∧ (W.cell? ⟨b4, 0, none⟩ = some (.int .i64 y.now) ∧ W.cell? ⟨b4, 1, none⟩ = some (.int .i64 y.score) ∧ W.cell? ⟨b4, 2, none⟩ = some (.int .i64 y.time) ∧ W.cell? ⟨b4, 3, none⟩ = some (.string (bs y.id)) ∧ W.cell? ⟨b4, 4, none⟩ = some (.bool y.beg)))) (by kernel_rfl) (⟨(Below.refl _ _).drew, FF.out _ (Below.refl _ _).drew⟩) (fun hHeld => ?_)
  refine wpAnyH_take (i := 0) (oi := { dst := some 40, op := Go.Op.move (Go.Operand.tmp 9), type := 4, pos := "law.go:47", after := #[], guard := none }) (v := ?va0) rfl (by kernel_rfl) (by kernel_rfl) (by kernel_rfl) (fun _ _ _ h => h) (Or.inl ⟨by rfl, ?ya0⟩) (by assumption) ?_
  case ya0 => (intro wX hSw; (try dsimp only at hSw); go_simp <;> with_reducible rfl)
  try simp only [Act.put, List.setIfInBounds_toArray, List.set_cons_zero, List.set_cons_succ]
  refine wpAnyH_take (i := 1) (oi := { dst := some 41, op := Go.Op.load 23 (Go.Operand.tmp 3), type := 23, pos := "law.go:47", after := #[], guard := none }) (v := ?va1) rfl (by kernel_rfl) (by kernel_rfl) (by kernel_rfl) (fun _ _ _ h => h) (Or.inl ⟨by rfl, ?ya1⟩) (by assumption) ?_
  case ya1 => (intro wX hSw; (try dsimp only at hSw); go_simp <;> with_reducible rfl)
  try simp only [Act.put, List.setIfInBounds_toArray, List.set_cons_zero, List.set_cons_succ]
  refine wpAnyH_ready (rs := [2]) (by kernel_rfl) (by simp) (AllReadyH.cons (o := { dst := some 42, op := Go.Op.call { callee := Go.Callee.value (Go.Operand.func 10), args := #[Go.Operand.tmp 41], argTypes := #[23] }, type := 4, pos := "law.go:47", after := #[{ on := 1, ground := Go.Ground.data }], guard := none }) rfl (fun K hK => ?_) AllReadyH.nil)
  (go_simp; go_at_call 10; refine (crm _).mono ?_; rintro e wc0 ⟨rfl, hbc0⟩)
  refine hK.out _ _ (⟨((Below.refl wz.heap.size wz).drew).trans (hbc0.mono ((Below.refl wz.heap.size wz).drew).size), FF.out _ (((Below.refl wz.heap.size wz).drew).trans (hbc0.mono ((Below.refl wz.heap.size wz).drew).size))⟩) (fun hHeld => ?_)
  clear hK K
  try simp only [Act.put, List.setIfInBounds_toArray, List.set_cons_zero, List.set_cons_succ]
  refine wpAnyH_take (i := 3) (oi := { dst := some 43, op := Go.Op.binOp Go.BinOp.neq 4 (Go.Operand.tmp 40) (Go.Operand.tmp 42) 4, type := 4, pos := "law.go:47", after := #[{ on := 0, ground := Go.Ground.data }, { on := 2, ground := Go.Ground.data }], guard := none }) (v := ?va3) rfl (by kernel_rfl) (by kernel_rfl) (by kernel_rfl) (fun _ _ _ h => h) (Or.inl ⟨by rfl, ?ya3⟩) (by assumption) ?_
  case ya3 => (intro wX hSw; (try dsimp only at hSw); go_simp <;> with_reducible rfl)
  try simp only [Act.put, List.setIfInBounds_toArray, List.set_cons_zero, List.set_cons_succ]
  refine wpAnyH_take (i := 4) (oi := { dst := some 44, op := Go.Op.move (Go.Operand.tmp 43), type := 4, pos := "law.go:47", after := #[{ on := 3, ground := Go.Ground.data }, { on := 2, ground := Go.Ground.chain }], guard := none }) (v := ?va4) rfl (by kernel_rfl) (by kernel_rfl) (by kernel_rfl) (fun _ _ _ h => h) (Or.inl ⟨by rfl, ?ya4⟩) (by assumption) ?_
  case ya4 => (intro wX hSw; (try dsimp only at hSw); go_simp <;> with_reducible rfl)
  try simp only [Act.put, List.setIfInBounds_toArray, List.set_cons_zero, List.set_cons_succ]
  refine wpAnyH_take (i := 5) (oi := { dst := some 45, op := Go.Op.move (Go.Operand.tmp 9), type := 4, pos := "law.go:47", after := #[{ on := 4, ground := Go.Ground.guard }], guard := some (4, false) }) (v := ?va5) rfl (by kernel_rfl) (by kernel_rfl) (by kernel_rfl) (fun _ _ _ h => h) (Or.inl ⟨by rfl, ?ya5⟩) (by assumption) ?_
  case ya5 => (intro wX hSw; (try dsimp only at hSw); go_simp <;> with_reducible rfl)
  try simp only [Act.put, List.setIfInBounds_toArray, List.set_cons_zero, List.set_cons_succ]
  refine wpAnyH_take (i := 6) (oi := { dst := some 46, op := Go.Op.move (Go.Operand.tmp 45), type := 4, pos := "law.go:47", after := #[{ on := 5, ground := Go.Ground.data }, { on := 4, ground := Go.Ground.chain }, { on := 4, ground := Go.Ground.guard }], guard := some (4, false) }) (v := ?va6) rfl (by kernel_rfl) (by kernel_rfl) (by kernel_rfl) (fun _ _ _ h => h) (Or.inl ⟨by rfl, ?ya6⟩) (by assumption) ?_
  case ya6 => (intro wX hSw; (try dsimp only at hSw); go_simp <;> with_reducible rfl)
  try simp only [Act.put, List.setIfInBounds_toArray, List.set_cons_zero, List.set_cons_succ]
  refine wpAnyH_take (i := 7) (oi := { dst := some 47, op := Go.Op.load 23 (Go.Operand.tmp 8), type := 23, pos := "law.go:47", after := #[{ on := 6, ground := Go.Ground.guard }], guard := some (6, true) }) (v := undef) rfl (by kernel_rfl) (by kernel_rfl) (by kernel_rfl) (fun _ _ _ h => h) (Or.inr ⟨by rfl, rfl⟩) (by assumption) ?_
  try simp only [Act.put, List.setIfInBounds_toArray, List.set_cons_zero, List.set_cons_succ]
  refine wpAnyH_take (i := 8) (oi := { dst := some 48, op := Go.Op.load 23 (Go.Operand.tmp 3), type := 23, pos := "law.go:47", after := #[{ on := 6, ground := Go.Ground.guard }], guard := some (6, true) }) (v := undef) rfl (by kernel_rfl) (by kernel_rfl) (by kernel_rfl) (fun _ _ _ h => h) (Or.inr ⟨by rfl, rfl⟩) (by assumption) ?_
  try simp only [Act.put, List.setIfInBounds_toArray, List.set_cons_zero, List.set_cons_succ]
  refine wpAnyH_take (i := 9) (oi := { dst := some 49, op := Go.Op.binOp Go.BinOp.neq 23 (Go.Operand.tmp 47) (Go.Operand.tmp 48) 23, type := 4, pos := "law.go:47", after := #[{ on := 7, ground := Go.Ground.data }, { on := 8, ground := Go.Ground.data }, { on := 6, ground := Go.Ground.guard }], guard := some (6, true) }) (v := undef) rfl (by kernel_rfl) (by kernel_rfl) (by kernel_rfl) (fun _ _ _ h => h) (Or.inr ⟨by rfl, rfl⟩) (by assumption) ?_
  try simp only [Act.put, List.setIfInBounds_toArray, List.set_cons_zero, List.set_cons_succ]
  refine wpAnyH_take (i := 10) (oi := { dst := some 50, op := Go.Op.pick (Go.Operand.tmp 46) (Go.Operand.tmp 49) (Go.Operand.const (Go.Value.bool false)), type := 4, pos := "law.go:47", after := #[{ on := 6, ground := Go.Ground.data }, { on := 9, ground := Go.Ground.data }, { on := 4, ground := Go.Ground.guard }], guard := some (4, false) }) (v := ?va10) rfl (by kernel_rfl) (by kernel_rfl) (by kernel_rfl) (fun _ _ _ h => h) (Or.inl ⟨by rfl, ?ya10⟩) (by assumption) ?_
  case ya10 => (intro wX hSw; (try dsimp only at hSw); go_simp <;> with_reducible rfl)
  try simp only [Act.put, List.setIfInBounds_toArray, List.set_cons_zero, List.set_cons_succ]
  refine wpAnyH_take (i := 11) (oi := { dst := some 51, op := Go.Op.pick (Go.Operand.tmp 44) (Go.Operand.const (Go.Value.bool true)) (Go.Operand.tmp 50), type := 4, pos := "law.go:47", after := #[{ on := 4, ground := Go.Ground.data }, { on := 10, ground := Go.Ground.data }], guard := none }) (v := ?va11) rfl (by kernel_rfl) (by kernel_rfl) (by kernel_rfl) (fun _ _ _ h => h) (Or.inl ⟨by rfl, ?ya11⟩) (by assumption) ?_
  case ya11 => (intro wX hSw; (try dsimp only at hSw); go_simp <;> with_reducible rfl)
  try simp only [Act.put, List.setIfInBounds_toArray, List.set_cons_zero, List.set_cons_succ]
  refine wpAnyH_take (i := 12) (oi := { dst := some 52, op := Go.Op.move (Go.Operand.tmp 51), type := 4, pos := "law.go:47", after := #[{ on := 11, ground := Go.Ground.data }, { on := 6, ground := Go.Ground.chain }], guard := none }) (v := ?va12) rfl (by kernel_rfl) (by kernel_rfl) (by kernel_rfl) (fun _ _ _ h => h) (Or.inl ⟨by rfl, ?ya12⟩) (by assumption) ?_
  case ya12 => (intro wX hSw; (try dsimp only at hSw); go_simp <;> with_reducible rfl)
  try simp only [Act.put, List.setIfInBounds_toArray, List.set_cons_zero, List.set_cons_succ]
  refine wpAnyH_take (i := 13) (oi := { dst := some 53, op := Go.Op.load 23 (Go.Operand.tmp 3), type := 23, pos := "law.go:47", after := #[{ on := 12, ground := Go.Ground.guard }], guard := some (12, false) }) (v := ?va13) rfl (by kernel_rfl) (by kernel_rfl) (by kernel_rfl) (fun _ _ _ h => h) (Or.inl ⟨by rfl, ?ya13⟩) (by assumption) ?_
  case ya13 => (intro wX hSw; (try dsimp only at hSw); go_simp <;> with_reducible rfl)
  try simp only [Act.put, List.setIfInBounds_toArray, List.set_cons_zero, List.set_cons_succ]
  refine wpAnyH_take (i := 16) (oi := { dst := some 56, op := Go.Op.load 23 (Go.Operand.tmp 3), type := 23, pos := "law.go:47", after := #[{ on := 12, ground := Go.Ground.guard }], guard := some (12, false) }) (v := ?va16) rfl (by kernel_rfl) (by kernel_rfl) (by kernel_rfl) (fun _ _ _ h => h) (Or.inl ⟨by rfl, ?ya16⟩) (by assumption) ?_
  case ya16 => (intro wX hSw; (try dsimp only at hSw); go_simp <;> with_reducible rfl)
  try simp only [Act.put, List.setIfInBounds_toArray, List.set_cons_zero, List.set_cons_succ]
  refine wpAnyH_ready (rs := [14]) (by kernel_rfl) (by simp) (AllReadyH.cons (o := { dst := some 54, op := Go.Op.call { callee := Go.Callee.value (Go.Operand.func 9), args := #[Go.Operand.tmp 53], argTypes := #[23] }, type := 9, pos := "law.go:47", after := #[{ on := 13, ground := Go.Ground.data }, { on := 12, ground := Go.Ground.chain }, { on := 12, ground := Go.Ground.guard }], guard := some (12, false) }) rfl (fun K hK => ?_) AllReadyH.nil)
  (go_simp; go_at_call 9; refine (cbm _).mono ?_; rintro e wc1 ⟨rfl, hbc1⟩)
  refine hK.out _ _ (⟨(hHeld.1).trans (hbc1.mono (hHeld.1).size), FF.out _ ((hHeld.1).trans (hbc1.mono (hHeld.1).size))⟩) (fun hHeld => ?_)
  clear hK K
  try simp only [Act.put, List.setIfInBounds_toArray, List.set_cons_zero, List.set_cons_succ]
  refine wpAnyH_take (i := 15) (oi := { dst := some 55, op := Go.Op.binOp Go.BinOp.eql 9 (Go.Operand.tmp 54) (Go.Operand.const (Go.Value.string { data := #[] })) 9, type := 4, pos := "law.go:47", after := #[{ on := 14, ground := Go.Ground.data }, { on := 12, ground := Go.Ground.guard }], guard := some (12, false) }) (v := ?va15) rfl (by kernel_rfl) (by kernel_rfl) (by kernel_rfl) (fun _ _ _ h => h) (Or.inl ⟨by rfl, ?ya15⟩) (by assumption) ?_
  case ya15 => (intro wX hSw; (try dsimp only at hSw); go_simp <;> with_reducible rfl)
  try simp only [Act.put, List.setIfInBounds_toArray, List.set_cons_zero, List.set_cons_succ]
  refine wpAnyH_ready (rs := [17]) (by kernel_rfl) (by simp) (AllReadyH.cons (o := { dst := some 57, op := Go.Op.call { callee := Go.Callee.value (Go.Operand.func 10), args := #[Go.Operand.tmp 56], argTypes := #[23] }, type := 4, pos := "law.go:47", after := #[{ on := 16, ground := Go.Ground.data }, { on := 14, ground := Go.Ground.chain }, { on := 12, ground := Go.Ground.guard }], guard := some (12, false) }) rfl (fun K hK => ?_) AllReadyH.nil)
  (go_simp; go_at_call 10; refine (crm _).mono ?_; rintro e wc2 ⟨rfl, hbc2⟩)
  refine hK.out _ _ (⟨(hHeld.1).trans (hbc2.mono (hHeld.1).size), FF.out _ ((hHeld.1).trans (hbc2.mono (hHeld.1).size))⟩) (fun hHeld => ?_)
  clear hK K
  try simp only [Act.put, List.setIfInBounds_toArray, List.set_cons_zero, List.set_cons_succ]
  refine wpAnyH_take (i := 18) (oi := { dst := some 58, op := Go.Op.binOp Go.BinOp.eql 4 (Go.Operand.tmp 55) (Go.Operand.tmp 57) 4, type := 4, pos := "law.go:47", after := #[{ on := 15, ground := Go.Ground.data }, { on := 17, ground := Go.Ground.data }, { on := 12, ground := Go.Ground.guard }], guard := some (12, false) }) (v := ?va18) rfl (by kernel_rfl) (by kernel_rfl) (by kernel_rfl) (fun _ _ _ h => h) (Or.inl ⟨by rfl, ?ya18⟩) (by assumption) ?_
  case ya18 => (intro wX hSw; (try dsimp only at hSw); go_simp <;> with_reducible rfl)
  try simp only [Act.put, List.setIfInBounds_toArray, List.set_cons_zero, List.set_cons_succ]
  refine wpAnyH_take (i := 19) (oi := { dst := some 59, op := Go.Op.pick (Go.Operand.tmp 52) (Go.Operand.const (Go.Value.bool true)) (Go.Operand.tmp 58), type := 4, pos := "law.go:47", after := #[{ on := 12, ground := Go.Ground.data }, { on := 18, ground := Go.Ground.data }], guard := none }) (v := ?va19) rfl (by kernel_rfl) (by kernel_rfl) (by kernel_rfl) (fun _ _ _ h => h) (Or.inl ⟨by rfl, ?ya19⟩) (by assumption) ?_
  case ya19 => (intro wX hSw; (try dsimp only at hSw); go_simp <;> with_reducible rfl)
  try simp only [Act.put, List.setIfInBounds_toArray, List.set_cons_zero, List.set_cons_succ]
  refine wpAnyH_done (by kernel_rfl) ?_ _
  obtain ⟨hb6, hG6⟩ := hHeld
  have HB6 := Lib.hid hb6
  clear hb6 gx
  obtain ⟨⟨p0, p1, p2, p3, p4⟩, ⟨p5, p6, p7, p8, p9⟩, ⟨p10, p11, p12, p13, p14⟩, ⟨p15, p16, p17, p18, p19⟩⟩ := hG6
  go_wp2_with fail
  (with_reducible refine Calls.mono (cry _) ?_)
  rintro e w5 ⟨rfl, hbx⟩
  have HB7 := Lib.hid (HB6.out.trans (hbx.mono HB6.out.size))
  clear hbx cry p0 p1 p2 p3 p4 p5 p6 p7 p8 p9 p10 p11 p12 p13 p14 p15 p16 p17 p18 p19
  obtain ⟨⟨p0, p1, p2, p3, p4⟩, ⟨p5, p6, p7, p8, p9⟩, ⟨p10, p11, p12, p13, p14⟩, ⟨p15, p16, p17, p18, p19⟩⟩ := FF.out _ HB7.out
  go_wp2_with fail
  (with_reducible refine Calls.mono (cby _) ?_)
  rintro e w6 ⟨rfl, hbx⟩
  have HB8 := Lib.hid (HB7.out.trans (hbx.mono HB7.out.size))
  clear hbx cby p0 p1 p2 p3 p4 p5 p6 p7 p8 p9 p10 p11 p12 p13 p14 p15 p16 p17 p18 p19
  obtain ⟨⟨p0, p1, p2, p3, p4⟩, ⟨p5, p6, p7, p8, p9⟩, ⟨p10, p11, p12, p13, p14⟩, ⟨p15, p16, p17, p18, p19⟩⟩ := FF.out _ HB8.out
  go_wp2_with fail
  clear p0 p1 p2 p3 p4 p5 p6 p7 p8 p9 p10 p11 p12 p13 p14 p15 p16 p17 p18 p19
  have gx := FF.out _ (HB8.out).drew
  refine wp_region_held_drew (S := (fun W => Below wz.heap.size wz W ∧ (W.cell? ⟨w.heap.size, 0, none⟩ = some (.int .i64 m.now) ∧ W.cell? ⟨w.heap.size, 1, none⟩ = some (.int .i64 m.score) ∧ W.cell? ⟨w.heap.size, 2, none⟩ = some (.int .i64 m.time) ∧ W.cell? ⟨w.heap.size, 3, none⟩ = some (.string (bs m.id)) ∧ W.cell? ⟨w.heap.size, 4, none⟩ = some (.bool m.beg)) ∧ (W.cell? ⟨w.heap.size + 1, 0, none⟩ = some (.int .i64 n.now) ∧ W.cell? ⟨w.heap.size + 1, 1, none⟩ = some (.int .i64 n.score) ∧ W.cell? ⟨w.heap.size + 1, 2, none⟩ = some (.int .i64 n.time) ∧ W.cell? ⟨w.heap.size + 1, 3, none⟩ = some (.string (bs n.id)) ∧ W.cell? ⟨w.heap.size + 1, 4, none⟩ = some (.bool n.beg)) ∧ (W.cell? ⟨b3, 0, none⟩ = some (.int .i64 0) ∧ W.cell? ⟨b3, 1, none⟩ = some (.int .i64 0) ∧ W.cell? ⟨b3, 2, none⟩ = some (.int .i64 0) ∧ W.cell? ⟨b3, 3, none⟩ = some (.string ⟨#[]⟩) ∧ W.cell? ⟨b3, 4, none⟩ = some (.bool false)) ∧ (W.cell? ⟨b4, 0, none⟩ = some (.int .i64 y.now) ∧ W.cell? ⟨b4, 1, none⟩ = some (.int .i64 y.score) ∧ W.cell? ⟨b4, 2, none⟩ = some (.int .i64 y.time) ∧ W.cell? ⟨b4, 3, none⟩ = some (.string (bs y.id)) ∧ W.cell? ⟨b4, 4, none⟩ = some (.bool y.beg)))) (by kernel_rfl) (⟨(HB8.out).drew, FF.out _ (HB8.out).drew⟩) (fun hHeld => ?_)
  refine wpAnyH_take (i := 0) (oi := { dst := some 81, op := Go.Op.move (Go.Operand.tmp 7), type := 4, pos := "law.go:53", after := #[], guard := none }) (v := ?vc0) rfl (by kernel_rfl) (by kernel_rfl) (by kernel_rfl) (fun _ _ _ h => h) (Or.inl ⟨by rfl, ?yc0⟩) (by assumption) ?_
  case yc0 => (intro wX hSw; (try dsimp only at hSw); go_simp <;> with_reducible rfl)
  try simp only [Act.put, List.setIfInBounds_toArray, List.set_cons_zero, List.set_cons_succ]
  refine wpAnyH_take (i := 1) (oi := { dst := some 82, op := Go.Op.move (Go.Operand.tmp 81), type := 4, pos := "law.go:53", after := #[{ on := 0, ground := Go.Ground.data }], guard := none }) (v := ?vc1) rfl (by kernel_rfl) (by kernel_rfl) (by kernel_rfl) (fun _ _ _ h => h) (Or.inl ⟨by rfl, ?yc1⟩) (by assumption) ?_
  case yc1 => (intro wX hSw; (try dsimp only at hSw); go_simp <;> with_reducible rfl)
  try simp only [Act.put, List.setIfInBounds_toArray, List.set_cons_zero, List.set_cons_succ]
  refine wpAnyH_take (i := 2) (oi := { dst := some 83, op := Go.Op.load 23 (Go.Operand.tmp 3), type := 23, pos := "law.go:53", after := #[{ on := 1, ground := Go.Ground.guard }], guard := some (1, true) }) (v := ?vc2) rfl (by kernel_rfl) (by kernel_rfl) (by kernel_rfl) (fun _ _ _ h => h) (Or.inl ⟨by rfl, ?yc2⟩) (by assumption) ?_
  case yc2 => (intro wX hSw; (try dsimp only at hSw); go_simp <;> with_reducible rfl)
  try simp only [Act.put, List.setIfInBounds_toArray, List.set_cons_zero, List.set_cons_succ]
  refine wpAnyH_ready (rs := [3]) (by kernel_rfl) (by simp) (AllReadyH.cons (o := { dst := some 84, op := Go.Op.call { callee := Go.Callee.value (Go.Operand.func 10), args := #[Go.Operand.tmp 83], argTypes := #[23] }, type := 4, pos := "law.go:53", after := #[{ on := 2, ground := Go.Ground.data }, { on := 1, ground := Go.Ground.chain }, { on := 1, ground := Go.Ground.guard }], guard := some (1, true) }) rfl (fun K hK => ?_) AllReadyH.nil)
  (go_simp; go_at_call 10; refine (crm _).mono ?_; rintro e wc0 ⟨rfl, hbc0⟩)
  refine hK.out _ _ (⟨((HB8.out).drew).trans (hbc0.mono ((HB8.out).drew).size), FF.out _ (((HB8.out).drew).trans (hbc0.mono ((HB8.out).drew).size))⟩) (fun hHeld => ?_)
  clear hK K
  try simp only [Act.put, List.setIfInBounds_toArray, List.set_cons_zero, List.set_cons_succ]
  refine wpAnyH_take (i := 4) (oi := { dst := some 85, op := Go.Op.unOp Go.UnOp.not 4 (Go.Operand.tmp 84), type := 4, pos := "law.go:53", after := #[{ on := 3, ground := Go.Ground.data }, { on := 1, ground := Go.Ground.guard }], guard := some (1, true) }) (v := ?vc4) rfl (by kernel_rfl) (by kernel_rfl) (by kernel_rfl) (fun _ _ _ h => h) (Or.inl ⟨by rfl, ?yc4⟩) (by assumption) ?_
  case yc4 => (intro wX hSw; (try dsimp only at hSw); go_simp <;> with_reducible rfl)
  try simp only [Act.put, List.setIfInBounds_toArray, List.set_cons_zero, List.set_cons_succ]
  refine wpAnyH_take (i := 5) (oi := { dst := some 86, op := Go.Op.move (Go.Operand.tmp 85), type := 4, pos := "law.go:53", after := #[{ on := 4, ground := Go.Ground.data }, { on := 3, ground := Go.Ground.chain }, { on := 1, ground := Go.Ground.guard }], guard := some (1, true) }) (v := ?vc5) rfl (by kernel_rfl) (by kernel_rfl) (by kernel_rfl) (fun _ _ _ h => h) (Or.inl ⟨by rfl, ?yc5⟩) (by assumption) ?_
  case yc5 => (intro wX hSw; (try dsimp only at hSw); go_simp <;> with_reducible rfl)
  try simp only [Act.put, List.setIfInBounds_toArray, List.set_cons_zero, List.set_cons_succ]
  refine wpAnyH_take (i := 6) (oi := { dst := some 87, op := Go.Op.load 23 (Go.Operand.tmp 4), type := 23, pos := "law.go:53", after := #[{ on := 5, ground := Go.Ground.guard }], guard := some (5, false) }) (v := undef) rfl (by kernel_rfl) (by kernel_rfl) (by kernel_rfl) (fun _ _ _ h => h) (Or.inr ⟨by rfl, rfl⟩) (by assumption) ?_
  try simp only [Act.put, List.setIfInBounds_toArray, List.set_cons_zero, List.set_cons_succ]
  refine wpAnyH_take (i := 7) (oi := { dst := some 88, op := Go.Op.call { callee := Go.Callee.value (Go.Operand.func 10), args := #[Go.Operand.tmp 87], argTypes := #[23] }, type := 4, pos := "law.go:53", after := #[{ on := 6, ground := Go.Ground.data }, { on := 5, ground := Go.Ground.chain }, { on := 5, ground := Go.Ground.guard }], guard := some (5, false) }) (v := undef) rfl (by kernel_rfl) (by kernel_rfl) (by kernel_rfl) (fun _ _ _ h => h) (Or.inr ⟨by rfl, rfl⟩) (by assumption) ?_
  try simp only [Act.put, List.setIfInBounds_toArray, List.set_cons_zero, List.set_cons_succ]
  refine wpAnyH_take (i := 8) (oi := { dst := some 89, op := Go.Op.unOp Go.UnOp.not 4 (Go.Operand.tmp 88), type := 4, pos := "law.go:53", after := #[{ on := 7, ground := Go.Ground.data }, { on := 5, ground := Go.Ground.guard }], guard := some (5, false) }) (v := undef) rfl (by kernel_rfl) (by kernel_rfl) (by kernel_rfl) (fun _ _ _ h => h) (Or.inr ⟨by rfl, rfl⟩) (by assumption) ?_
  try simp only [Act.put, List.setIfInBounds_toArray, List.set_cons_zero, List.set_cons_succ]
  refine wpAnyH_take (i := 9) (oi := { dst := some 90, op := Go.Op.pick (Go.Operand.tmp 86) (Go.Operand.const (Go.Value.bool true)) (Go.Operand.tmp 89), type := 4, pos := "law.go:53", after := #[{ on := 5, ground := Go.Ground.data }, { on := 8, ground := Go.Ground.data }, { on := 1, ground := Go.Ground.guard }], guard := some (1, true) }) (v := ?vc9) rfl (by kernel_rfl) (by kernel_rfl) (by kernel_rfl) (fun _ _ _ h => h) (Or.inl ⟨by rfl, ?yc9⟩) (by assumption) ?_
  case yc9 => (intro wX hSw; (try dsimp only at hSw); go_simp <;> with_reducible rfl)
  try simp only [Act.put, List.setIfInBounds_toArray, List.set_cons_zero, List.set_cons_succ]
  refine wpAnyH_take (i := 10) (oi := { dst := some 91, op := Go.Op.move (Go.Operand.tmp 90), type := 4, pos := "law.go:53", after := #[{ on := 9, ground := Go.Ground.data }, { on := 7, ground := Go.Ground.chain }, { on := 1, ground := Go.Ground.guard }], guard := some (1, true) }) (v := ?vc10) rfl (by kernel_rfl) (by kernel_rfl) (by kernel_rfl) (fun _ _ _ h => h) (Or.inl ⟨by rfl, ?yc10⟩) (by assumption) ?_
  case yc10 => (intro wX hSw; (try dsimp only at hSw); go_simp <;> with_reducible rfl)
  try simp only [Act.put, List.setIfInBounds_toArray, List.set_cons_zero, List.set_cons_succ]
  refine wpAnyH_take (i := 11) (oi := { dst := some 92, op := Go.Op.load 23 (Go.Operand.tmp 3), type := 23, pos := "law.go:53", after := #[{ on := 10, ground := Go.Ground.guard }], guard := some (10, false) }) (v := undef) rfl (by kernel_rfl) (by kernel_rfl) (by kernel_rfl) (fun _ _ _ h => h) (Or.inr ⟨by rfl, rfl⟩) (by assumption) ?_
  try simp only [Act.put, List.setIfInBounds_toArray, List.set_cons_zero, List.set_cons_succ]
  refine wpAnyH_take (i := 12) (oi := { dst := some 93, op := Go.Op.call { callee := Go.Callee.value (Go.Operand.func 9), args := #[Go.Operand.tmp 92], argTypes := #[23] }, type := 9, pos := "law.go:53", after := #[{ on := 11, ground := Go.Ground.data }, { on := 10, ground := Go.Ground.chain }, { on := 10, ground := Go.Ground.guard }], guard := some (10, false) }) (v := undef) rfl (by kernel_rfl) (by kernel_rfl) (by kernel_rfl) (fun _ _ _ h => h) (Or.inr ⟨by rfl, rfl⟩) (by assumption) ?_
  try simp only [Act.put, List.setIfInBounds_toArray, List.set_cons_zero, List.set_cons_succ]
  refine wpAnyH_take (i := 13) (oi := { dst := some 94, op := Go.Op.load 23 (Go.Operand.tmp 4), type := 23, pos := "law.go:53", after := #[{ on := 10, ground := Go.Ground.guard }], guard := some (10, false) }) (v := undef) rfl (by kernel_rfl) (by kernel_rfl) (by kernel_rfl) (fun _ _ _ h => h) (Or.inr ⟨by rfl, rfl⟩) (by assumption) ?_
  try simp only [Act.put, List.setIfInBounds_toArray, List.set_cons_zero, List.set_cons_succ]
  refine wpAnyH_take (i := 14) (oi := { dst := some 95, op := Go.Op.call { callee := Go.Callee.value (Go.Operand.func 9), args := #[Go.Operand.tmp 94], argTypes := #[23] }, type := 9, pos := "law.go:53", after := #[{ on := 13, ground := Go.Ground.data }, { on := 12, ground := Go.Ground.chain }, { on := 10, ground := Go.Ground.guard }], guard := some (10, false) }) (v := undef) rfl (by kernel_rfl) (by kernel_rfl) (by kernel_rfl) (fun _ _ _ h => h) (Or.inr ⟨by rfl, rfl⟩) (by assumption) ?_
  try simp only [Act.put, List.setIfInBounds_toArray, List.set_cons_zero, List.set_cons_succ]
  refine wpAnyH_take (i := 15) (oi := { dst := some 96, op := Go.Op.binOp Go.BinOp.eql 9 (Go.Operand.tmp 93) (Go.Operand.tmp 95) 9, type := 4, pos := "law.go:53", after := #[{ on := 12, ground := Go.Ground.data }, { on := 14, ground := Go.Ground.data }, { on := 10, ground := Go.Ground.guard }], guard := some (10, false) }) (v := undef) rfl (by kernel_rfl) (by kernel_rfl) (by kernel_rfl) (fun _ _ _ h => h) (Or.inr ⟨by rfl, rfl⟩) (by assumption) ?_
  try simp only [Act.put, List.setIfInBounds_toArray, List.set_cons_zero, List.set_cons_succ]
  refine wpAnyH_take (i := 16) (oi := { dst := some 97, op := Go.Op.load 23 (Go.Operand.tmp 3), type := 23, pos := "law.go:53", after := #[{ on := 10, ground := Go.Ground.guard }], guard := some (10, false) }) (v := undef) rfl (by kernel_rfl) (by kernel_rfl) (by kernel_rfl) (fun _ _ _ h => h) (Or.inr ⟨by rfl, rfl⟩) (by assumption) ?_
  try simp only [Act.put, List.setIfInBounds_toArray, List.set_cons_zero, List.set_cons_succ]
  refine wpAnyH_take (i := 17) (oi := { dst := some 98, op := Go.Op.load 23 (Go.Operand.tmp 4), type := 23, pos := "law.go:53", after := #[{ on := 10, ground := Go.Ground.guard }], guard := some (10, false) }) (v := undef) rfl (by kernel_rfl) (by kernel_rfl) (by kernel_rfl) (fun _ _ _ h => h) (Or.inr ⟨by rfl, rfl⟩) (by assumption) ?_
  try simp only [Act.put, List.setIfInBounds_toArray, List.set_cons_zero, List.set_cons_succ]
  refine wpAnyH_take (i := 18) (oi := { dst := some 99, op := Go.Op.binOp Go.BinOp.eql 23 (Go.Operand.tmp 97) (Go.Operand.tmp 98) 23, type := 4, pos := "law.go:53", after := #[{ on := 16, ground := Go.Ground.data }, { on := 17, ground := Go.Ground.data }, { on := 10, ground := Go.Ground.guard }], guard := some (10, false) }) (v := undef) rfl (by kernel_rfl) (by kernel_rfl) (by kernel_rfl) (fun _ _ _ h => h) (Or.inr ⟨by rfl, rfl⟩) (by assumption) ?_
  try simp only [Act.put, List.setIfInBounds_toArray, List.set_cons_zero, List.set_cons_succ]
  refine wpAnyH_take (i := 19) (oi := { dst := some 100, op := Go.Op.binOp Go.BinOp.eql 4 (Go.Operand.tmp 96) (Go.Operand.tmp 99) 4, type := 4, pos := "law.go:53", after := #[{ on := 15, ground := Go.Ground.data }, { on := 18, ground := Go.Ground.data }, { on := 10, ground := Go.Ground.guard }], guard := some (10, false) }) (v := undef) rfl (by kernel_rfl) (by kernel_rfl) (by kernel_rfl) (fun _ _ _ h => h) (Or.inr ⟨by rfl, rfl⟩) (by assumption) ?_
  try simp only [Act.put, List.setIfInBounds_toArray, List.set_cons_zero, List.set_cons_succ]
  refine wpAnyH_take (i := 20) (oi := { dst := some 101, op := Go.Op.pick (Go.Operand.tmp 91) (Go.Operand.const (Go.Value.bool true)) (Go.Operand.tmp 100), type := 4, pos := "law.go:53", after := #[{ on := 10, ground := Go.Ground.data }, { on := 19, ground := Go.Ground.data }, { on := 1, ground := Go.Ground.guard }], guard := some (1, true) }) (v := ?vc20) rfl (by kernel_rfl) (by kernel_rfl) (by kernel_rfl) (fun _ _ _ h => h) (Or.inl ⟨by rfl, ?yc20⟩) (by assumption) ?_
  case yc20 => (intro wX hSw; (try dsimp only at hSw); go_simp <;> with_reducible rfl)
  try simp only [Act.put, List.setIfInBounds_toArray, List.set_cons_zero, List.set_cons_succ]
  refine wpAnyH_take (i := 21) (oi := { dst := some 102, op := Go.Op.pick (Go.Operand.tmp 82) (Go.Operand.tmp 101) (Go.Operand.const (Go.Value.bool false)), type := 4, pos := "law.go:53", after := #[{ on := 1, ground := Go.Ground.data }, { on := 20, ground := Go.Ground.data }], guard := none }) (v := ?vc21) rfl (by kernel_rfl) (by kernel_rfl) (by kernel_rfl) (fun _ _ _ h => h) (Or.inl ⟨by rfl, ?yc21⟩) (by assumption) ?_
  case yc21 => (intro wX hSw; (try dsimp only at hSw); go_simp <;> with_reducible rfl)
  try simp only [Act.put, List.setIfInBounds_toArray, List.set_cons_zero, List.set_cons_succ]
  refine wpAnyH_take (i := 22) (oi := { dst := some 6, op := Go.Op.assign (Go.Operand.tmp 102), type := 4, pos := "law.go:53", after := #[{ on := 21, ground := Go.Ground.data }, { on := 14, ground := Go.Ground.chain }, { on := 0, ground := Go.Ground.phase }, { on := 1, ground := Go.Ground.phase }, { on := 2, ground := Go.Ground.phase }, { on := 3, ground := Go.Ground.phase }, { on := 4, ground := Go.Ground.phase }, { on := 5, ground := Go.Ground.phase }, { on := 6, ground := Go.Ground.phase }, { on := 7, ground := Go.Ground.phase }, { on := 8, ground := Go.Ground.phase }, { on := 9, ground := Go.Ground.phase }, { on := 10, ground := Go.Ground.phase }, { on := 11, ground := Go.Ground.phase }, { on := 12, ground := Go.Ground.phase }, { on := 13, ground := Go.Ground.phase }, { on := 14, ground := Go.Ground.phase }, { on := 15, ground := Go.Ground.phase }, { on := 16, ground := Go.Ground.phase }, { on := 17, ground := Go.Ground.phase }, { on := 18, ground := Go.Ground.phase }, { on := 19, ground := Go.Ground.phase }, { on := 20, ground := Go.Ground.phase }, { on := 21, ground := Go.Ground.phase }], guard := none }) (v := ?vc22) rfl (by kernel_rfl) (by kernel_rfl) (by kernel_rfl) (fun _ _ _ h => h) (Or.inl ⟨by rfl, ?yc22⟩) (by assumption) ?_
  case yc22 => (intro wX hSw; (try dsimp only at hSw); go_simp <;> with_reducible rfl)
  try simp only [Act.put, List.setIfInBounds_toArray, List.set_cons_zero, List.set_cons_succ]
  refine wpAnyH_done (by kernel_rfl) ?_ _
  go_wp2
  go_ret
  exact ⟨rfl, HB.out.trans (hHeld.1.mono HB.out.size)⟩
set_option maxRecDepth 100000 in
set_option maxHeartbeats 40000000 in
theorem reads_01n (m n : Mk) (s : List UInt8) (w : World) (l1 : s.length ≤ 200) (l2 : m.id.length ≤ 200) (l3 : n.id.length ≤ 200) (hm : rightB m = false) (hn : rightB n = true) (hy : readM s = none) :
    Calls Try.prog 3 #[.agg (cellsM m), .agg (cellsM n), .string (bs s)] w (BoolPost w true) := by
  have cs := fun W => small_any W
  have cbm := fun W => bytes_any m W
  have crm := fun W => right_any m W
  have cxr := fun W => read_any (bytesM m) W (by have := bytes_len m; omega)
  have cyr := fun W => read_any s W (by omega)
  have cbn := fun W => bytes_any n W
  have crn := fun W => right_any n W
  rw [hm] at crm
  rw [hn] at crn
  unfold ReadP at cxr cyr
  rw [hy] at cyr
  rw [bytes_bad hm, read_nil] at cxr
  rw [bytes_bad hm] at cbm
  have hnil : bs [] = ⟨#[]⟩ := rfl
  have ts := bs_toList s
  have ss := bs_size s
  have sm := bs_size m.id
  have sn := bs_size n.id
  have d1 : decide (200 < (s.length : Int)) = false := decide_eq_false (by omega)
  have d2 : decide (200 < (m.id.length : Int)) = false := decide_eq_false (by omega)
  have d3 : decide (200 < (n.id.length : Int)) = false := decide_eq_false (by omega)
  have tss : (s == s) = true := by simp
  have qz : ∀ W, (binOp .neq 23 (.agg #[.int .i64 0, .int .i64 0, .int .i64 0, .string ⟨#[]⟩, .bool false]) (.agg #[.int .i64 0, .int .i64 0, .int .i64 0, .string ⟨#[]⟩, .bool false])).run Try.prog W = .ok (.bool false) W := fun W => by
    have := neq_marks zeroM zeroM W
    rw [decide_eq_true rfl] at this
    exact this
  have g3 := heap_alloc_new w (.cells (cellsM m) 23)
  have g4 := heap_alloc_new (w.alloc (.cells (cellsM m) 23)) (.cells (cellsM n) 23)
  rw [World.size_alloc] at g4
  have g3' := (Below.heap_alloc _ (.cells (cellsM n) 23) _ (lt_of_heap g3)).trans g3
  have hB0 := ((Below.refl w.heap.size w).alloc (Nat.le_refl _) (.cells (cellsM m) 23)).alloc (by simp) (.cells (cellsM n) 23)
  have M3 := Lib.hid g3'
  have M4 := Lib.hid g4
  have HB := Lib.hid hB0
  have q3 : ((w.alloc (.cells (cellsM m) 23)).alloc (.cells (cellsM n) 23)).cell? ⟨w.heap.size, 3, none⟩ = some (.string (bs m.id)) := (fiveM g3').2.2.2.1
  have q4 : ((w.alloc (.cells (cellsM m) 23)).alloc (.cells (cellsM n) 23)).cell? ⟨w.heap.size + 1, 3, none⟩ = some (.string (bs n.id)) := (fiveM g4).2.2.2.1
  clear g3 g4 g3' hB0 hm hn hy l1 l2 l3
  unfold StrPost at cbm cbn
  simp only [Option.getD_some, Option.getD_none, Option.isSome_some, Option.isSome_none] at cxr cyr
  rw [hnil] at cbm cxr
  have hzc : cellsM zeroM = #[.int .i64 0, .int .i64 0, .int .i64 0, .string ⟨#[]⟩, .bool false] := rfl
  try rw [hzc] at cxr
  try rw [hzc] at cyr
  simp only [cellsM] at cbm crm cxr cyr q3 q4 cbn crn
  simp only [cellsM]
  go_enter Try.func3, Try.ntmps3
  go_wp2_with fail
  (with_reducible refine Calls.mono (cs _) ?_)
  rintro e w1 ⟨rfl, hbx⟩
  replace M3 := Lib.hid (keep_blkP hbx M3.out)
  replace M4 := Lib.hid (keep_blkP hbx M4.out)
  replace HB := Lib.hid (HB.out.trans (hbx.mono HB.out.size))
  clear hbx q3 q4 cs
  obtain ⟨pM30, pM31, pM32, pM33, pM34⟩ : (w1.cell? ⟨w.heap.size, 0, none⟩ = some (.int .i64 m.now) ∧ w1.cell? ⟨w.heap.size, 1, none⟩ = some (.int .i64 m.score) ∧ w1.cell? ⟨w.heap.size, 2, none⟩ = some (.int .i64 m.time) ∧ w1.cell? ⟨w.heap.size, 3, none⟩ = some (.string (bs m.id)) ∧ w1.cell? ⟨w.heap.size, 4, none⟩ = some (.bool m.beg)) := fiveM (k := m) M3.out
  obtain ⟨pM40, pM41, pM42, pM43, pM44⟩ : (w1.cell? ⟨w.heap.size + 1, 0, none⟩ = some (.int .i64 n.now) ∧ w1.cell? ⟨w.heap.size + 1, 1, none⟩ = some (.int .i64 n.score) ∧ w1.cell? ⟨w.heap.size + 1, 2, none⟩ = some (.int .i64 n.time) ∧ w1.cell? ⟨w.heap.size + 1, 3, none⟩ = some (.string (bs n.id)) ∧ w1.cell? ⟨w.heap.size + 1, 4, none⟩ = some (.bool n.beg)) := fiveM (k := n) M4.out
  go_wp2_with fail
  (with_reducible refine Calls.mono (cbm _) ?_)
  rintro e w2 ⟨rfl, hbx⟩
  clear pM30 pM31 pM32 pM33 pM34 pM40 pM41 pM42 pM43 pM44
  replace M3 := Lib.hid (keep_blkP hbx M3.out)
  replace M4 := Lib.hid (keep_blkP hbx M4.out)
  replace HB := Lib.hid (HB.out.trans (hbx.mono HB.out.size))
  clear hbx
  obtain ⟨pM30, pM31, pM32, pM33, pM34⟩ : (w2.cell? ⟨w.heap.size, 0, none⟩ = some (.int .i64 m.now) ∧ w2.cell? ⟨w.heap.size, 1, none⟩ = some (.int .i64 m.score) ∧ w2.cell? ⟨w.heap.size, 2, none⟩ = some (.int .i64 m.time) ∧ w2.cell? ⟨w.heap.size, 3, none⟩ = some (.string (bs m.id)) ∧ w2.cell? ⟨w.heap.size, 4, none⟩ = some (.bool m.beg)) := fiveM (k := m) M3.out
  obtain ⟨pM40, pM41, pM42, pM43, pM44⟩ : (w2.cell? ⟨w.heap.size + 1, 0, none⟩ = some (.int .i64 n.now) ∧ w2.cell? ⟨w.heap.size + 1, 1, none⟩ = some (.int .i64 n.score) ∧ w2.cell? ⟨w.heap.size + 1, 2, none⟩ = some (.int .i64 n.time) ∧ w2.cell? ⟨w.heap.size + 1, 3, none⟩ = some (.string (bs n.id)) ∧ w2.cell? ⟨w.heap.size + 1, 4, none⟩ = some (.bool n.beg)) := fiveM (k := n) M4.out
  go_wp2_with fail
  (with_reducible refine Calls.mono (cxr _) ?_)
  rintro e w3 ⟨rfl, hbx⟩
  clear pM30 pM31 pM32 pM33 pM34 pM40 pM41 pM42 pM43 pM44
  replace M3 := Lib.hid (keep_blkP hbx M3.out)
  replace M4 := Lib.hid (keep_blkP hbx M4.out)
  replace HB := Lib.hid (HB.out.trans (hbx.mono HB.out.size))
  clear hbx cxr
  have M8 := Lib.hid (heap_alloc_new w3 (.cells #[.int .i64 0, .int .i64 0, .int .i64 0, .string ⟨#[]⟩, .bool false] 23))
  replace M3 := Lib.hid ((Below.heap_alloc _ (.cells #[.int .i64 0, .int .i64 0, .int .i64 0, .string ⟨#[]⟩, .bool false] 23) _ (lt_of_heap M3.out)).trans M3.out)
  replace M4 := Lib.hid ((Below.heap_alloc _ (.cells #[.int .i64 0, .int .i64 0, .int .i64 0, .string ⟨#[]⟩, .bool false] 23) _ (lt_of_heap M4.out)).trans M4.out)
  replace HB := Lib.hid (HB.out.alloc HB.out.size (.cells #[.int .i64 0, .int .i64 0, .int .i64 0, .string ⟨#[]⟩, .bool false] 23))
  obtain ⟨pM30, pM31, pM32, pM33, pM34⟩ : ((w3.alloc (.cells #[.int .i64 0, .int .i64 0, .int .i64 0, .string ⟨#[]⟩, .bool false] 23)).cell? ⟨w.heap.size, 0, none⟩ = some (.int .i64 m.now) ∧ (w3.alloc (.cells #[.int .i64 0, .int .i64 0, .int .i64 0, .string ⟨#[]⟩, .bool false] 23)).cell? ⟨w.heap.size, 1, none⟩ = some (.int .i64 m.score) ∧ (w3.alloc (.cells #[.int .i64 0, .int .i64 0, .int .i64 0, .string ⟨#[]⟩, .bool false] 23)).cell? ⟨w.heap.size, 2, none⟩ = some (.int .i64 m.time) ∧ (w3.alloc (.cells #[.int .i64 0, .int .i64 0, .int .i64 0, .string ⟨#[]⟩, .bool false] 23)).cell? ⟨w.heap.size, 3, none⟩ = some (.string (bs m.id)) ∧ (w3.alloc (.cells #[.int .i64 0, .int .i64 0, .int .i64 0, .string ⟨#[]⟩, .bool false] 23)).cell? ⟨w.heap.size, 4, none⟩ = some (.bool m.beg)) := fiveM (k := m) M3.out
  obtain ⟨pM40, pM41, pM42, pM43, pM44⟩ : ((w3.alloc (.cells #[.int .i64 0, .int .i64 0, .int .i64 0, .string ⟨#[]⟩, .bool false] 23)).cell? ⟨w.heap.size + 1, 0, none⟩ = some (.int .i64 n.now) ∧ (w3.alloc (.cells #[.int .i64 0, .int .i64 0, .int .i64 0, .string ⟨#[]⟩, .bool false] 23)).cell? ⟨w.heap.size + 1, 1, none⟩ = some (.int .i64 n.score) ∧ (w3.alloc (.cells #[.int .i64 0, .int .i64 0, .int .i64 0, .string ⟨#[]⟩, .bool false] 23)).cell? ⟨w.heap.size + 1, 2, none⟩ = some (.int .i64 n.time) ∧ (w3.alloc (.cells #[.int .i64 0, .int .i64 0, .int .i64 0, .string ⟨#[]⟩, .bool false] 23)).cell? ⟨w.heap.size + 1, 3, none⟩ = some (.string (bs n.id)) ∧ (w3.alloc (.cells #[.int .i64 0, .int .i64 0, .int .i64 0, .string ⟨#[]⟩, .bool false] 23)).cell? ⟨w.heap.size + 1, 4, none⟩ = some (.bool n.beg)) := fiveM (k := n) M4.out
  obtain ⟨pM80, pM81, pM82, pM83, pM84⟩ : ((w3.alloc (.cells #[.int .i64 0, .int .i64 0, .int .i64 0, .string ⟨#[]⟩, .bool false] 23)).cell? ⟨w3.heap.size, 0, none⟩ = some (.int .i64 0) ∧ (w3.alloc (.cells #[.int .i64 0, .int .i64 0, .int .i64 0, .string ⟨#[]⟩, .bool false] 23)).cell? ⟨w3.heap.size, 1, none⟩ = some (.int .i64 0) ∧ (w3.alloc (.cells #[.int .i64 0, .int .i64 0, .int .i64 0, .string ⟨#[]⟩, .bool false] 23)).cell? ⟨w3.heap.size, 2, none⟩ = some (.int .i64 0) ∧ (w3.alloc (.cells #[.int .i64 0, .int .i64 0, .int .i64 0, .string ⟨#[]⟩, .bool false] 23)).cell? ⟨w3.heap.size, 3, none⟩ = some (.string ⟨#[]⟩) ∧ (w3.alloc (.cells #[.int .i64 0, .int .i64 0, .int .i64 0, .string ⟨#[]⟩, .bool false] 23)).cell? ⟨w3.heap.size, 4, none⟩ = some (.bool false)) := fiveM (k := zeroM) M8.out
  go_wp2_with fail
  (with_reducible refine Calls.mono (cyr _) ?_)
  rintro e w4 ⟨rfl, hbx⟩
  clear pM30 pM31 pM32 pM33 pM34 pM40 pM41 pM42 pM43 pM44 pM80 pM81 pM82 pM83 pM84
  replace M3 := Lib.hid (keep_blkP hbx M3.out)
  replace M4 := Lib.hid (keep_blkP hbx M4.out)
  replace M8 := Lib.hid (keep_blkP hbx M8.out)
  replace HB := Lib.hid (HB.out.trans (hbx.mono HB.out.size))
  clear hbx cyr
  have M10 := Lib.hid (heap_alloc_new w4 (.cells #[.int .i64 0, .int .i64 0, .int .i64 0, .string ⟨#[]⟩, .bool false] 23))
  replace M3 := Lib.hid ((Below.heap_alloc _ (.cells #[.int .i64 0, .int .i64 0, .int .i64 0, .string ⟨#[]⟩, .bool false] 23) _ (lt_of_heap M3.out)).trans M3.out)
  replace M4 := Lib.hid ((Below.heap_alloc _ (.cells #[.int .i64 0, .int .i64 0, .int .i64 0, .string ⟨#[]⟩, .bool false] 23) _ (lt_of_heap M4.out)).trans M4.out)
  replace M8 := Lib.hid ((Below.heap_alloc _ (.cells #[.int .i64 0, .int .i64 0, .int .i64 0, .string ⟨#[]⟩, .bool false] 23) _ (lt_of_heap M8.out)).trans M8.out)
  replace HB := Lib.hid (HB.out.alloc HB.out.size (.cells #[.int .i64 0, .int .i64 0, .int .i64 0, .string ⟨#[]⟩, .bool false] 23))
  obtain ⟨wz, hwz⟩ : ∃ wz, wz = (w4.alloc (.cells #[.int .i64 0, .int .i64 0, .int .i64 0, .string ⟨#[]⟩, .bool false] 23)) := ⟨_, rfl⟩
  rw [← hwz] at HB M3 M4 M8 M10
  have FF : Hid (∀ W, Below wz.heap.size wz W → (W.cell? ⟨w.heap.size, 0, none⟩ = some (.int .i64 m.now) ∧ W.cell? ⟨w.heap.size, 1, none⟩ = some (.int .i64 m.score) ∧ W.cell? ⟨w.heap.size, 2, none⟩ = some (.int .i64 m.time) ∧ W.cell? ⟨w.heap.size, 3, none⟩ = some (.string (bs m.id)) ∧ W.cell? ⟨w.heap.size, 4, none⟩ = some (.bool m.beg)) ∧ (W.cell? ⟨w.heap.size + 1, 0, none⟩ = some (.int .i64 n.now) ∧ W.cell? ⟨w.heap.size + 1, 1, none⟩ = some (.int .i64 n.score) ∧ W.cell? ⟨w.heap.size + 1, 2, none⟩ = some (.int .i64 n.time) ∧ W.cell? ⟨w.heap.size + 1, 3, none⟩ = some (.string (bs n.id)) ∧ W.cell? ⟨w.heap.size + 1, 4, none⟩ = some (.bool n.beg)) ∧ (W.cell? ⟨w3.heap.size, 0, none⟩ = some (.int .i64 0) ∧ W.cell? ⟨w3.heap.size, 1, none⟩ = some (.int .i64 0) ∧ W.cell? ⟨w3.heap.size, 2, none⟩ = some (.int .i64 0) ∧ W.cell? ⟨w3.heap.size, 3, none⟩ = some (.string ⟨#[]⟩) ∧ W.cell? ⟨w3.heap.size, 4, none⟩ = some (.bool false)) ∧ (W.cell? ⟨w4.heap.size, 0, none⟩ = some (.int .i64 0) ∧ W.cell? ⟨w4.heap.size, 1, none⟩ = some (.int .i64 0) ∧ W.cell? ⟨w4.heap.size, 2, none⟩ = some (.int .i64 0) ∧ W.cell? ⟨w4.heap.size, 3, none⟩ = some (.string ⟨#[]⟩) ∧ W.cell? ⟨w4.heap.size, 4, none⟩ = some (.bool false))) := fun W hW =>
    ⟨fiveM (k := m) (keep_blkP hW M3.out), fiveM (k := n) (keep_blkP hW M4.out), fiveM (k := zeroM) (keep_blkP hW M8.out), fiveM (k := zeroM) (keep_blkP hW M10.out)⟩
  clear M3 M4 M8 M10
  go_wp2_with fail
  rw [← hwz]
  clear hwz
  generalize w3.heap.size = b3 at *
  generalize w4.heap.size = b4 at *
  have gx := FF.out _ (Below.refl wz.heap.size wz).drew
  refine wp_region_held_drew (S := (fun W => Below wz.heap.size wz W ∧ (W.cell? ⟨w.heap.size, 0, none⟩ = some (.int .i64 m.now) ∧ W.cell? ⟨w.heap.size, 1, none⟩ = some (.int .i64 m.score) ∧ W.cell? ⟨w.heap.size, 2, none⟩ = some (.int .i64 m.time) ∧ W.cell? ⟨w.heap.size, 3, none⟩ = some (.string (bs m.id)) ∧ W.cell? ⟨w.heap.size, 4, none⟩ = some (.bool m.beg)) ∧ (W.cell? ⟨w.heap.size + 1, 0, none⟩ = some (.int .i64 n.now) ∧ W.cell? ⟨w.heap.size + 1, 1, none⟩ = some (.int .i64 n.score) ∧ W.cell? ⟨w.heap.size + 1, 2, none⟩ = some (.int .i64 n.time) ∧ W.cell? ⟨w.heap.size + 1, 3, none⟩ = some (.string (bs n.id)) ∧ W.cell? ⟨w.heap.size + 1, 4, none⟩ = some (.bool n.beg)) ∧ (W.cell? ⟨b3, 0, none⟩ = some (.int .i64 0) ∧ W.cell? ⟨b3, 1, none⟩ = some (.int .i64 0) ∧ W.cell? ⟨b3, 2, none⟩ = some (.int .i64 0) ∧ W.cell? ⟨b3, 3, none⟩ = some (.string ⟨#[]⟩) ∧ W.cell? ⟨b3, 4, none⟩ = some (.bool false)) ∧ (W.cell? ⟨b4, 0, none⟩ = some (.int .i64 0) ∧ W.cell? ⟨b4, 1, none⟩ = some (.int .i64 0) ∧ W.cell? ⟨b4, 2, none⟩ = some (.int .i64 0) ∧ W.cell? ⟨b4, 3, none⟩ = some (.string ⟨#[]⟩) ∧ W.cell? ⟨b4, 4, none⟩ = some (.bool false)))) (by kernel_rfl) (⟨(Below.refl _ _).drew, FF.out _ (Below.refl _ _).drew⟩) (fun hHeld => ?_)
  refine wpAnyH_take (i := 0) (oi := { dst := some 40, op := Go.Op.move (Go.Operand.tmp 9), type := 4, pos := "law.go:47", after := #[], guard := none }) (v := ?va0) rfl (by kernel_rfl) (by kernel_rfl) (by kernel_rfl) (fun _ _ _ h => h) (Or.inl ⟨by rfl, ?ya0⟩) (by assumption) ?_
  case ya0 => (intro wX hSw; (try dsimp only at hSw); go_simp <;> with_reducible rfl)
  try simp only [Act.put, List.setIfInBounds_toArray, List.set_cons_zero, List.set_cons_succ]
  refine wpAnyH_take (i := 1) (oi := { dst := some 41, op := Go.Op.load 23 (Go.Operand.tmp 3), type := 23, pos := "law.go:47", after := #[], guard := none }) (v := ?va1) rfl (by kernel_rfl) (by kernel_rfl) (by kernel_rfl) (fun _ _ _ h => h) (Or.inl ⟨by rfl, ?ya1⟩) (by assumption) ?_
  case ya1 => (intro wX hSw; (try dsimp only at hSw); go_simp <;> with_reducible rfl)
  try simp only [Act.put, List.setIfInBounds_toArray, List.set_cons_zero, List.set_cons_succ]
  refine wpAnyH_ready (rs := [2]) (by kernel_rfl) (by simp) (AllReadyH.cons (o := { dst := some 42, op := Go.Op.call { callee := Go.Callee.value (Go.Operand.func 10), args := #[Go.Operand.tmp 41], argTypes := #[23] }, type := 4, pos := "law.go:47", after := #[{ on := 1, ground := Go.Ground.data }], guard := none }) rfl (fun K hK => ?_) AllReadyH.nil)
  (go_simp; go_at_call 10; refine (crm _).mono ?_; rintro e wc0 ⟨rfl, hbc0⟩)
  refine hK.out _ _ (⟨((Below.refl wz.heap.size wz).drew).trans (hbc0.mono ((Below.refl wz.heap.size wz).drew).size), FF.out _ (((Below.refl wz.heap.size wz).drew).trans (hbc0.mono ((Below.refl wz.heap.size wz).drew).size))⟩) (fun hHeld => ?_)
  clear hK K
  try simp only [Act.put, List.setIfInBounds_toArray, List.set_cons_zero, List.set_cons_succ]
  refine wpAnyH_take (i := 3) (oi := { dst := some 43, op := Go.Op.binOp Go.BinOp.neq 4 (Go.Operand.tmp 40) (Go.Operand.tmp 42) 4, type := 4, pos := "law.go:47", after := #[{ on := 0, ground := Go.Ground.data }, { on := 2, ground := Go.Ground.data }], guard := none }) (v := ?va3) rfl (by kernel_rfl) (by kernel_rfl) (by kernel_rfl) (fun _ _ _ h => h) (Or.inl ⟨by rfl, ?ya3⟩) (by assumption) ?_
  case ya3 => (intro wX hSw; (try dsimp only at hSw); go_simp <;> with_reducible rfl)
  try simp only [Act.put, List.setIfInBounds_toArray, List.set_cons_zero, List.set_cons_succ]
  refine wpAnyH_take (i := 4) (oi := { dst := some 44, op := Go.Op.move (Go.Operand.tmp 43), type := 4, pos := "law.go:47", after := #[{ on := 3, ground := Go.Ground.data }, { on := 2, ground := Go.Ground.chain }], guard := none }) (v := ?va4) rfl (by kernel_rfl) (by kernel_rfl) (by kernel_rfl) (fun _ _ _ h => h) (Or.inl ⟨by rfl, ?ya4⟩) (by assumption) ?_
  case ya4 => (intro wX hSw; (try dsimp only at hSw); go_simp <;> with_reducible rfl)
  try simp only [Act.put, List.setIfInBounds_toArray, List.set_cons_zero, List.set_cons_succ]
  refine wpAnyH_take (i := 5) (oi := { dst := some 45, op := Go.Op.move (Go.Operand.tmp 9), type := 4, pos := "law.go:47", after := #[{ on := 4, ground := Go.Ground.guard }], guard := some (4, false) }) (v := ?va5) rfl (by kernel_rfl) (by kernel_rfl) (by kernel_rfl) (fun _ _ _ h => h) (Or.inl ⟨by rfl, ?ya5⟩) (by assumption) ?_
  case ya5 => (intro wX hSw; (try dsimp only at hSw); go_simp <;> with_reducible rfl)
  try simp only [Act.put, List.setIfInBounds_toArray, List.set_cons_zero, List.set_cons_succ]
  refine wpAnyH_take (i := 6) (oi := { dst := some 46, op := Go.Op.move (Go.Operand.tmp 45), type := 4, pos := "law.go:47", after := #[{ on := 5, ground := Go.Ground.data }, { on := 4, ground := Go.Ground.chain }, { on := 4, ground := Go.Ground.guard }], guard := some (4, false) }) (v := ?va6) rfl (by kernel_rfl) (by kernel_rfl) (by kernel_rfl) (fun _ _ _ h => h) (Or.inl ⟨by rfl, ?ya6⟩) (by assumption) ?_
  case ya6 => (intro wX hSw; (try dsimp only at hSw); go_simp <;> with_reducible rfl)
  try simp only [Act.put, List.setIfInBounds_toArray, List.set_cons_zero, List.set_cons_succ]
  refine wpAnyH_take (i := 7) (oi := { dst := some 47, op := Go.Op.load 23 (Go.Operand.tmp 8), type := 23, pos := "law.go:47", after := #[{ on := 6, ground := Go.Ground.guard }], guard := some (6, true) }) (v := undef) rfl (by kernel_rfl) (by kernel_rfl) (by kernel_rfl) (fun _ _ _ h => h) (Or.inr ⟨by rfl, rfl⟩) (by assumption) ?_
  try simp only [Act.put, List.setIfInBounds_toArray, List.set_cons_zero, List.set_cons_succ]
  refine wpAnyH_take (i := 8) (oi := { dst := some 48, op := Go.Op.load 23 (Go.Operand.tmp 3), type := 23, pos := "law.go:47", after := #[{ on := 6, ground := Go.Ground.guard }], guard := some (6, true) }) (v := undef) rfl (by kernel_rfl) (by kernel_rfl) (by kernel_rfl) (fun _ _ _ h => h) (Or.inr ⟨by rfl, rfl⟩) (by assumption) ?_
  try simp only [Act.put, List.setIfInBounds_toArray, List.set_cons_zero, List.set_cons_succ]
  refine wpAnyH_take (i := 9) (oi := { dst := some 49, op := Go.Op.binOp Go.BinOp.neq 23 (Go.Operand.tmp 47) (Go.Operand.tmp 48) 23, type := 4, pos := "law.go:47", after := #[{ on := 7, ground := Go.Ground.data }, { on := 8, ground := Go.Ground.data }, { on := 6, ground := Go.Ground.guard }], guard := some (6, true) }) (v := undef) rfl (by kernel_rfl) (by kernel_rfl) (by kernel_rfl) (fun _ _ _ h => h) (Or.inr ⟨by rfl, rfl⟩) (by assumption) ?_
  try simp only [Act.put, List.setIfInBounds_toArray, List.set_cons_zero, List.set_cons_succ]
  refine wpAnyH_take (i := 10) (oi := { dst := some 50, op := Go.Op.pick (Go.Operand.tmp 46) (Go.Operand.tmp 49) (Go.Operand.const (Go.Value.bool false)), type := 4, pos := "law.go:47", after := #[{ on := 6, ground := Go.Ground.data }, { on := 9, ground := Go.Ground.data }, { on := 4, ground := Go.Ground.guard }], guard := some (4, false) }) (v := ?va10) rfl (by kernel_rfl) (by kernel_rfl) (by kernel_rfl) (fun _ _ _ h => h) (Or.inl ⟨by rfl, ?ya10⟩) (by assumption) ?_
  case ya10 => (intro wX hSw; (try dsimp only at hSw); go_simp <;> with_reducible rfl)
  try simp only [Act.put, List.setIfInBounds_toArray, List.set_cons_zero, List.set_cons_succ]
  refine wpAnyH_take (i := 11) (oi := { dst := some 51, op := Go.Op.pick (Go.Operand.tmp 44) (Go.Operand.const (Go.Value.bool true)) (Go.Operand.tmp 50), type := 4, pos := "law.go:47", after := #[{ on := 4, ground := Go.Ground.data }, { on := 10, ground := Go.Ground.data }], guard := none }) (v := ?va11) rfl (by kernel_rfl) (by kernel_rfl) (by kernel_rfl) (fun _ _ _ h => h) (Or.inl ⟨by rfl, ?ya11⟩) (by assumption) ?_
  case ya11 => (intro wX hSw; (try dsimp only at hSw); go_simp <;> with_reducible rfl)
  try simp only [Act.put, List.setIfInBounds_toArray, List.set_cons_zero, List.set_cons_succ]
  refine wpAnyH_take (i := 12) (oi := { dst := some 52, op := Go.Op.move (Go.Operand.tmp 51), type := 4, pos := "law.go:47", after := #[{ on := 11, ground := Go.Ground.data }, { on := 6, ground := Go.Ground.chain }], guard := none }) (v := ?va12) rfl (by kernel_rfl) (by kernel_rfl) (by kernel_rfl) (fun _ _ _ h => h) (Or.inl ⟨by rfl, ?ya12⟩) (by assumption) ?_
  case ya12 => (intro wX hSw; (try dsimp only at hSw); go_simp <;> with_reducible rfl)
  try simp only [Act.put, List.setIfInBounds_toArray, List.set_cons_zero, List.set_cons_succ]
  refine wpAnyH_take (i := 13) (oi := { dst := some 53, op := Go.Op.load 23 (Go.Operand.tmp 3), type := 23, pos := "law.go:47", after := #[{ on := 12, ground := Go.Ground.guard }], guard := some (12, false) }) (v := ?va13) rfl (by kernel_rfl) (by kernel_rfl) (by kernel_rfl) (fun _ _ _ h => h) (Or.inl ⟨by rfl, ?ya13⟩) (by assumption) ?_
  case ya13 => (intro wX hSw; (try dsimp only at hSw); go_simp <;> with_reducible rfl)
  try simp only [Act.put, List.setIfInBounds_toArray, List.set_cons_zero, List.set_cons_succ]
  refine wpAnyH_take (i := 16) (oi := { dst := some 56, op := Go.Op.load 23 (Go.Operand.tmp 3), type := 23, pos := "law.go:47", after := #[{ on := 12, ground := Go.Ground.guard }], guard := some (12, false) }) (v := ?va16) rfl (by kernel_rfl) (by kernel_rfl) (by kernel_rfl) (fun _ _ _ h => h) (Or.inl ⟨by rfl, ?ya16⟩) (by assumption) ?_
  case ya16 => (intro wX hSw; (try dsimp only at hSw); go_simp <;> with_reducible rfl)
  try simp only [Act.put, List.setIfInBounds_toArray, List.set_cons_zero, List.set_cons_succ]
  refine wpAnyH_ready (rs := [14]) (by kernel_rfl) (by simp) (AllReadyH.cons (o := { dst := some 54, op := Go.Op.call { callee := Go.Callee.value (Go.Operand.func 9), args := #[Go.Operand.tmp 53], argTypes := #[23] }, type := 9, pos := "law.go:47", after := #[{ on := 13, ground := Go.Ground.data }, { on := 12, ground := Go.Ground.chain }, { on := 12, ground := Go.Ground.guard }], guard := some (12, false) }) rfl (fun K hK => ?_) AllReadyH.nil)
  (go_simp; go_at_call 9; refine (cbm _).mono ?_; rintro e wc1 ⟨rfl, hbc1⟩)
  refine hK.out _ _ (⟨(hHeld.1).trans (hbc1.mono (hHeld.1).size), FF.out _ ((hHeld.1).trans (hbc1.mono (hHeld.1).size))⟩) (fun hHeld => ?_)
  clear hK K
  try simp only [Act.put, List.setIfInBounds_toArray, List.set_cons_zero, List.set_cons_succ]
  refine wpAnyH_take (i := 15) (oi := { dst := some 55, op := Go.Op.binOp Go.BinOp.eql 9 (Go.Operand.tmp 54) (Go.Operand.const (Go.Value.string { data := #[] })) 9, type := 4, pos := "law.go:47", after := #[{ on := 14, ground := Go.Ground.data }, { on := 12, ground := Go.Ground.guard }], guard := some (12, false) }) (v := ?va15) rfl (by kernel_rfl) (by kernel_rfl) (by kernel_rfl) (fun _ _ _ h => h) (Or.inl ⟨by rfl, ?ya15⟩) (by assumption) ?_
  case ya15 => (intro wX hSw; (try dsimp only at hSw); go_simp <;> with_reducible rfl)
  try simp only [Act.put, List.setIfInBounds_toArray, List.set_cons_zero, List.set_cons_succ]
  refine wpAnyH_ready (rs := [17]) (by kernel_rfl) (by simp) (AllReadyH.cons (o := { dst := some 57, op := Go.Op.call { callee := Go.Callee.value (Go.Operand.func 10), args := #[Go.Operand.tmp 56], argTypes := #[23] }, type := 4, pos := "law.go:47", after := #[{ on := 16, ground := Go.Ground.data }, { on := 14, ground := Go.Ground.chain }, { on := 12, ground := Go.Ground.guard }], guard := some (12, false) }) rfl (fun K hK => ?_) AllReadyH.nil)
  (go_simp; go_at_call 10; refine (crm _).mono ?_; rintro e wc2 ⟨rfl, hbc2⟩)
  refine hK.out _ _ (⟨(hHeld.1).trans (hbc2.mono (hHeld.1).size), FF.out _ ((hHeld.1).trans (hbc2.mono (hHeld.1).size))⟩) (fun hHeld => ?_)
  clear hK K
  try simp only [Act.put, List.setIfInBounds_toArray, List.set_cons_zero, List.set_cons_succ]
  refine wpAnyH_take (i := 18) (oi := { dst := some 58, op := Go.Op.binOp Go.BinOp.eql 4 (Go.Operand.tmp 55) (Go.Operand.tmp 57) 4, type := 4, pos := "law.go:47", after := #[{ on := 15, ground := Go.Ground.data }, { on := 17, ground := Go.Ground.data }, { on := 12, ground := Go.Ground.guard }], guard := some (12, false) }) (v := ?va18) rfl (by kernel_rfl) (by kernel_rfl) (by kernel_rfl) (fun _ _ _ h => h) (Or.inl ⟨by rfl, ?ya18⟩) (by assumption) ?_
  case ya18 => (intro wX hSw; (try dsimp only at hSw); go_simp <;> with_reducible rfl)
  try simp only [Act.put, List.setIfInBounds_toArray, List.set_cons_zero, List.set_cons_succ]
  refine wpAnyH_take (i := 19) (oi := { dst := some 59, op := Go.Op.pick (Go.Operand.tmp 52) (Go.Operand.const (Go.Value.bool true)) (Go.Operand.tmp 58), type := 4, pos := "law.go:47", after := #[{ on := 12, ground := Go.Ground.data }, { on := 18, ground := Go.Ground.data }], guard := none }) (v := ?va19) rfl (by kernel_rfl) (by kernel_rfl) (by kernel_rfl) (fun _ _ _ h => h) (Or.inl ⟨by rfl, ?ya19⟩) (by assumption) ?_
  case ya19 => (intro wX hSw; (try dsimp only at hSw); go_simp <;> with_reducible rfl)
  try simp only [Act.put, List.setIfInBounds_toArray, List.set_cons_zero, List.set_cons_succ]
  refine wpAnyH_done (by kernel_rfl) ?_ _
  obtain ⟨hb6, hG6⟩ := hHeld
  have HB6 := Lib.hid hb6
  clear hb6 gx
  obtain ⟨⟨p0, p1, p2, p3, p4⟩, ⟨p5, p6, p7, p8, p9⟩, ⟨p10, p11, p12, p13, p14⟩, ⟨p15, p16, p17, p18, p19⟩⟩ := hG6
  go_wp2_with fail
  clear p0 p1 p2 p3 p4 p5 p6 p7 p8 p9 p10 p11 p12 p13 p14 p15 p16 p17 p18 p19
  have gx := FF.out _ (HB6.out).drew
  refine wp_region_held_drew (S := (fun W => Below wz.heap.size wz W ∧ (W.cell? ⟨w.heap.size, 0, none⟩ = some (.int .i64 m.now) ∧ W.cell? ⟨w.heap.size, 1, none⟩ = some (.int .i64 m.score) ∧ W.cell? ⟨w.heap.size, 2, none⟩ = some (.int .i64 m.time) ∧ W.cell? ⟨w.heap.size, 3, none⟩ = some (.string (bs m.id)) ∧ W.cell? ⟨w.heap.size, 4, none⟩ = some (.bool m.beg)) ∧ (W.cell? ⟨w.heap.size + 1, 0, none⟩ = some (.int .i64 n.now) ∧ W.cell? ⟨w.heap.size + 1, 1, none⟩ = some (.int .i64 n.score) ∧ W.cell? ⟨w.heap.size + 1, 2, none⟩ = some (.int .i64 n.time) ∧ W.cell? ⟨w.heap.size + 1, 3, none⟩ = some (.string (bs n.id)) ∧ W.cell? ⟨w.heap.size + 1, 4, none⟩ = some (.bool n.beg)) ∧ (W.cell? ⟨b3, 0, none⟩ = some (.int .i64 0) ∧ W.cell? ⟨b3, 1, none⟩ = some (.int .i64 0) ∧ W.cell? ⟨b3, 2, none⟩ = some (.int .i64 0) ∧ W.cell? ⟨b3, 3, none⟩ = some (.string ⟨#[]⟩) ∧ W.cell? ⟨b3, 4, none⟩ = some (.bool false)) ∧ (W.cell? ⟨b4, 0, none⟩ = some (.int .i64 0) ∧ W.cell? ⟨b4, 1, none⟩ = some (.int .i64 0) ∧ W.cell? ⟨b4, 2, none⟩ = some (.int .i64 0) ∧ W.cell? ⟨b4, 3, none⟩ = some (.string ⟨#[]⟩) ∧ W.cell? ⟨b4, 4, none⟩ = some (.bool false)))) (by kernel_rfl) (⟨(HB6.out).drew, FF.out _ (HB6.out).drew⟩) (fun hHeld => ?_)
  refine wpAnyH_take (i := 0) (oi := { dst := some 81, op := Go.Op.move (Go.Operand.tmp 7), type := 4, pos := "law.go:53", after := #[], guard := none }) (v := ?vc0) rfl (by kernel_rfl) (by kernel_rfl) (by kernel_rfl) (fun _ _ _ h => h) (Or.inl ⟨by rfl, ?yc0⟩) (by assumption) ?_
  case yc0 => (intro wX hSw; (try dsimp only at hSw); go_simp <;> with_reducible rfl)
  try simp only [Act.put, List.setIfInBounds_toArray, List.set_cons_zero, List.set_cons_succ]
  refine wpAnyH_take (i := 1) (oi := { dst := some 82, op := Go.Op.move (Go.Operand.tmp 81), type := 4, pos := "law.go:53", after := #[{ on := 0, ground := Go.Ground.data }], guard := none }) (v := ?vc1) rfl (by kernel_rfl) (by kernel_rfl) (by kernel_rfl) (fun _ _ _ h => h) (Or.inl ⟨by rfl, ?yc1⟩) (by assumption) ?_
  case yc1 => (intro wX hSw; (try dsimp only at hSw); go_simp <;> with_reducible rfl)
  try simp only [Act.put, List.setIfInBounds_toArray, List.set_cons_zero, List.set_cons_succ]
  refine wpAnyH_take (i := 2) (oi := { dst := some 83, op := Go.Op.load 23 (Go.Operand.tmp 3), type := 23, pos := "law.go:53", after := #[{ on := 1, ground := Go.Ground.guard }], guard := some (1, true) }) (v := ?vc2) rfl (by kernel_rfl) (by kernel_rfl) (by kernel_rfl) (fun _ _ _ h => h) (Or.inl ⟨by rfl, ?yc2⟩) (by assumption) ?_
  case yc2 => (intro wX hSw; (try dsimp only at hSw); go_simp <;> with_reducible rfl)
  try simp only [Act.put, List.setIfInBounds_toArray, List.set_cons_zero, List.set_cons_succ]
  refine wpAnyH_ready (rs := [3]) (by kernel_rfl) (by simp) (AllReadyH.cons (o := { dst := some 84, op := Go.Op.call { callee := Go.Callee.value (Go.Operand.func 10), args := #[Go.Operand.tmp 83], argTypes := #[23] }, type := 4, pos := "law.go:53", after := #[{ on := 2, ground := Go.Ground.data }, { on := 1, ground := Go.Ground.chain }, { on := 1, ground := Go.Ground.guard }], guard := some (1, true) }) rfl (fun K hK => ?_) AllReadyH.nil)
  (go_simp; go_at_call 10; refine (crm _).mono ?_; rintro e wc0 ⟨rfl, hbc0⟩)
  refine hK.out _ _ (⟨((HB6.out).drew).trans (hbc0.mono ((HB6.out).drew).size), FF.out _ (((HB6.out).drew).trans (hbc0.mono ((HB6.out).drew).size))⟩) (fun hHeld => ?_)
  clear hK K
  try simp only [Act.put, List.setIfInBounds_toArray, List.set_cons_zero, List.set_cons_succ]
  refine wpAnyH_take (i := 4) (oi := { dst := some 85, op := Go.Op.unOp Go.UnOp.not 4 (Go.Operand.tmp 84), type := 4, pos := "law.go:53", after := #[{ on := 3, ground := Go.Ground.data }, { on := 1, ground := Go.Ground.guard }], guard := some (1, true) }) (v := ?vc4) rfl (by kernel_rfl) (by kernel_rfl) (by kernel_rfl) (fun _ _ _ h => h) (Or.inl ⟨by rfl, ?yc4⟩) (by assumption) ?_
  case yc4 => (intro wX hSw; (try dsimp only at hSw); go_simp <;> with_reducible rfl)
  try simp only [Act.put, List.setIfInBounds_toArray, List.set_cons_zero, List.set_cons_succ]
  refine wpAnyH_take (i := 5) (oi := { dst := some 86, op := Go.Op.move (Go.Operand.tmp 85), type := 4, pos := "law.go:53", after := #[{ on := 4, ground := Go.Ground.data }, { on := 3, ground := Go.Ground.chain }, { on := 1, ground := Go.Ground.guard }], guard := some (1, true) }) (v := ?vc5) rfl (by kernel_rfl) (by kernel_rfl) (by kernel_rfl) (fun _ _ _ h => h) (Or.inl ⟨by rfl, ?yc5⟩) (by assumption) ?_
  case yc5 => (intro wX hSw; (try dsimp only at hSw); go_simp <;> with_reducible rfl)
  try simp only [Act.put, List.setIfInBounds_toArray, List.set_cons_zero, List.set_cons_succ]
  refine wpAnyH_take (i := 6) (oi := { dst := some 87, op := Go.Op.load 23 (Go.Operand.tmp 4), type := 23, pos := "law.go:53", after := #[{ on := 5, ground := Go.Ground.guard }], guard := some (5, false) }) (v := undef) rfl (by kernel_rfl) (by kernel_rfl) (by kernel_rfl) (fun _ _ _ h => h) (Or.inr ⟨by rfl, rfl⟩) (by assumption) ?_
  try simp only [Act.put, List.setIfInBounds_toArray, List.set_cons_zero, List.set_cons_succ]
  refine wpAnyH_take (i := 7) (oi := { dst := some 88, op := Go.Op.call { callee := Go.Callee.value (Go.Operand.func 10), args := #[Go.Operand.tmp 87], argTypes := #[23] }, type := 4, pos := "law.go:53", after := #[{ on := 6, ground := Go.Ground.data }, { on := 5, ground := Go.Ground.chain }, { on := 5, ground := Go.Ground.guard }], guard := some (5, false) }) (v := undef) rfl (by kernel_rfl) (by kernel_rfl) (by kernel_rfl) (fun _ _ _ h => h) (Or.inr ⟨by rfl, rfl⟩) (by assumption) ?_
  try simp only [Act.put, List.setIfInBounds_toArray, List.set_cons_zero, List.set_cons_succ]
  refine wpAnyH_take (i := 8) (oi := { dst := some 89, op := Go.Op.unOp Go.UnOp.not 4 (Go.Operand.tmp 88), type := 4, pos := "law.go:53", after := #[{ on := 7, ground := Go.Ground.data }, { on := 5, ground := Go.Ground.guard }], guard := some (5, false) }) (v := undef) rfl (by kernel_rfl) (by kernel_rfl) (by kernel_rfl) (fun _ _ _ h => h) (Or.inr ⟨by rfl, rfl⟩) (by assumption) ?_
  try simp only [Act.put, List.setIfInBounds_toArray, List.set_cons_zero, List.set_cons_succ]
  refine wpAnyH_take (i := 9) (oi := { dst := some 90, op := Go.Op.pick (Go.Operand.tmp 86) (Go.Operand.const (Go.Value.bool true)) (Go.Operand.tmp 89), type := 4, pos := "law.go:53", after := #[{ on := 5, ground := Go.Ground.data }, { on := 8, ground := Go.Ground.data }, { on := 1, ground := Go.Ground.guard }], guard := some (1, true) }) (v := ?vc9) rfl (by kernel_rfl) (by kernel_rfl) (by kernel_rfl) (fun _ _ _ h => h) (Or.inl ⟨by rfl, ?yc9⟩) (by assumption) ?_
  case yc9 => (intro wX hSw; (try dsimp only at hSw); go_simp <;> with_reducible rfl)
  try simp only [Act.put, List.setIfInBounds_toArray, List.set_cons_zero, List.set_cons_succ]
  refine wpAnyH_take (i := 10) (oi := { dst := some 91, op := Go.Op.move (Go.Operand.tmp 90), type := 4, pos := "law.go:53", after := #[{ on := 9, ground := Go.Ground.data }, { on := 7, ground := Go.Ground.chain }, { on := 1, ground := Go.Ground.guard }], guard := some (1, true) }) (v := ?vc10) rfl (by kernel_rfl) (by kernel_rfl) (by kernel_rfl) (fun _ _ _ h => h) (Or.inl ⟨by rfl, ?yc10⟩) (by assumption) ?_
  case yc10 => (intro wX hSw; (try dsimp only at hSw); go_simp <;> with_reducible rfl)
  try simp only [Act.put, List.setIfInBounds_toArray, List.set_cons_zero, List.set_cons_succ]
  refine wpAnyH_take (i := 11) (oi := { dst := some 92, op := Go.Op.load 23 (Go.Operand.tmp 3), type := 23, pos := "law.go:53", after := #[{ on := 10, ground := Go.Ground.guard }], guard := some (10, false) }) (v := undef) rfl (by kernel_rfl) (by kernel_rfl) (by kernel_rfl) (fun _ _ _ h => h) (Or.inr ⟨by rfl, rfl⟩) (by assumption) ?_
  try simp only [Act.put, List.setIfInBounds_toArray, List.set_cons_zero, List.set_cons_succ]
  refine wpAnyH_take (i := 12) (oi := { dst := some 93, op := Go.Op.call { callee := Go.Callee.value (Go.Operand.func 9), args := #[Go.Operand.tmp 92], argTypes := #[23] }, type := 9, pos := "law.go:53", after := #[{ on := 11, ground := Go.Ground.data }, { on := 10, ground := Go.Ground.chain }, { on := 10, ground := Go.Ground.guard }], guard := some (10, false) }) (v := undef) rfl (by kernel_rfl) (by kernel_rfl) (by kernel_rfl) (fun _ _ _ h => h) (Or.inr ⟨by rfl, rfl⟩) (by assumption) ?_
  try simp only [Act.put, List.setIfInBounds_toArray, List.set_cons_zero, List.set_cons_succ]
  refine wpAnyH_take (i := 13) (oi := { dst := some 94, op := Go.Op.load 23 (Go.Operand.tmp 4), type := 23, pos := "law.go:53", after := #[{ on := 10, ground := Go.Ground.guard }], guard := some (10, false) }) (v := undef) rfl (by kernel_rfl) (by kernel_rfl) (by kernel_rfl) (fun _ _ _ h => h) (Or.inr ⟨by rfl, rfl⟩) (by assumption) ?_
  try simp only [Act.put, List.setIfInBounds_toArray, List.set_cons_zero, List.set_cons_succ]
  refine wpAnyH_take (i := 14) (oi := { dst := some 95, op := Go.Op.call { callee := Go.Callee.value (Go.Operand.func 9), args := #[Go.Operand.tmp 94], argTypes := #[23] }, type := 9, pos := "law.go:53", after := #[{ on := 13, ground := Go.Ground.data }, { on := 12, ground := Go.Ground.chain }, { on := 10, ground := Go.Ground.guard }], guard := some (10, false) }) (v := undef) rfl (by kernel_rfl) (by kernel_rfl) (by kernel_rfl) (fun _ _ _ h => h) (Or.inr ⟨by rfl, rfl⟩) (by assumption) ?_
  try simp only [Act.put, List.setIfInBounds_toArray, List.set_cons_zero, List.set_cons_succ]
  refine wpAnyH_take (i := 15) (oi := { dst := some 96, op := Go.Op.binOp Go.BinOp.eql 9 (Go.Operand.tmp 93) (Go.Operand.tmp 95) 9, type := 4, pos := "law.go:53", after := #[{ on := 12, ground := Go.Ground.data }, { on := 14, ground := Go.Ground.data }, { on := 10, ground := Go.Ground.guard }], guard := some (10, false) }) (v := undef) rfl (by kernel_rfl) (by kernel_rfl) (by kernel_rfl) (fun _ _ _ h => h) (Or.inr ⟨by rfl, rfl⟩) (by assumption) ?_
  try simp only [Act.put, List.setIfInBounds_toArray, List.set_cons_zero, List.set_cons_succ]
  refine wpAnyH_take (i := 16) (oi := { dst := some 97, op := Go.Op.load 23 (Go.Operand.tmp 3), type := 23, pos := "law.go:53", after := #[{ on := 10, ground := Go.Ground.guard }], guard := some (10, false) }) (v := undef) rfl (by kernel_rfl) (by kernel_rfl) (by kernel_rfl) (fun _ _ _ h => h) (Or.inr ⟨by rfl, rfl⟩) (by assumption) ?_
  try simp only [Act.put, List.setIfInBounds_toArray, List.set_cons_zero, List.set_cons_succ]
  refine wpAnyH_take (i := 17) (oi := { dst := some 98, op := Go.Op.load 23 (Go.Operand.tmp 4), type := 23, pos := "law.go:53", after := #[{ on := 10, ground := Go.Ground.guard }], guard := some (10, false) }) (v := undef) rfl (by kernel_rfl) (by kernel_rfl) (by kernel_rfl) (fun _ _ _ h => h) (Or.inr ⟨by rfl, rfl⟩) (by assumption) ?_
  try simp only [Act.put, List.setIfInBounds_toArray, List.set_cons_zero, List.set_cons_succ]
  refine wpAnyH_take (i := 18) (oi := { dst := some 99, op := Go.Op.binOp Go.BinOp.eql 23 (Go.Operand.tmp 97) (Go.Operand.tmp 98) 23, type := 4, pos := "law.go:53", after := #[{ on := 16, ground := Go.Ground.data }, { on := 17, ground := Go.Ground.data }, { on := 10, ground := Go.Ground.guard }], guard := some (10, false) }) (v := undef) rfl (by kernel_rfl) (by kernel_rfl) (by kernel_rfl) (fun _ _ _ h => h) (Or.inr ⟨by rfl, rfl⟩) (by assumption) ?_
  try simp only [Act.put, List.setIfInBounds_toArray, List.set_cons_zero, List.set_cons_succ]
  refine wpAnyH_take (i := 19) (oi := { dst := some 100, op := Go.Op.binOp Go.BinOp.eql 4 (Go.Operand.tmp 96) (Go.Operand.tmp 99) 4, type := 4, pos := "law.go:53", after := #[{ on := 15, ground := Go.Ground.data }, { on := 18, ground := Go.Ground.data }, { on := 10, ground := Go.Ground.guard }], guard := some (10, false) }) (v := undef) rfl (by kernel_rfl) (by kernel_rfl) (by kernel_rfl) (fun _ _ _ h => h) (Or.inr ⟨by rfl, rfl⟩) (by assumption) ?_
  try simp only [Act.put, List.setIfInBounds_toArray, List.set_cons_zero, List.set_cons_succ]
  refine wpAnyH_take (i := 20) (oi := { dst := some 101, op := Go.Op.pick (Go.Operand.tmp 91) (Go.Operand.const (Go.Value.bool true)) (Go.Operand.tmp 100), type := 4, pos := "law.go:53", after := #[{ on := 10, ground := Go.Ground.data }, { on := 19, ground := Go.Ground.data }, { on := 1, ground := Go.Ground.guard }], guard := some (1, true) }) (v := ?vc20) rfl (by kernel_rfl) (by kernel_rfl) (by kernel_rfl) (fun _ _ _ h => h) (Or.inl ⟨by rfl, ?yc20⟩) (by assumption) ?_
  case yc20 => (intro wX hSw; (try dsimp only at hSw); go_simp <;> with_reducible rfl)
  try simp only [Act.put, List.setIfInBounds_toArray, List.set_cons_zero, List.set_cons_succ]
  refine wpAnyH_take (i := 21) (oi := { dst := some 102, op := Go.Op.pick (Go.Operand.tmp 82) (Go.Operand.tmp 101) (Go.Operand.const (Go.Value.bool false)), type := 4, pos := "law.go:53", after := #[{ on := 1, ground := Go.Ground.data }, { on := 20, ground := Go.Ground.data }], guard := none }) (v := ?vc21) rfl (by kernel_rfl) (by kernel_rfl) (by kernel_rfl) (fun _ _ _ h => h) (Or.inl ⟨by rfl, ?yc21⟩) (by assumption) ?_
  case yc21 => (intro wX hSw; (try dsimp only at hSw); go_simp <;> with_reducible rfl)
  try simp only [Act.put, List.setIfInBounds_toArray, List.set_cons_zero, List.set_cons_succ]
  refine wpAnyH_take (i := 22) (oi := { dst := some 6, op := Go.Op.assign (Go.Operand.tmp 102), type := 4, pos := "law.go:53", after := #[{ on := 21, ground := Go.Ground.data }, { on := 14, ground := Go.Ground.chain }, { on := 0, ground := Go.Ground.phase }, { on := 1, ground := Go.Ground.phase }, { on := 2, ground := Go.Ground.phase }, { on := 3, ground := Go.Ground.phase }, { on := 4, ground := Go.Ground.phase }, { on := 5, ground := Go.Ground.phase }, { on := 6, ground := Go.Ground.phase }, { on := 7, ground := Go.Ground.phase }, { on := 8, ground := Go.Ground.phase }, { on := 9, ground := Go.Ground.phase }, { on := 10, ground := Go.Ground.phase }, { on := 11, ground := Go.Ground.phase }, { on := 12, ground := Go.Ground.phase }, { on := 13, ground := Go.Ground.phase }, { on := 14, ground := Go.Ground.phase }, { on := 15, ground := Go.Ground.phase }, { on := 16, ground := Go.Ground.phase }, { on := 17, ground := Go.Ground.phase }, { on := 18, ground := Go.Ground.phase }, { on := 19, ground := Go.Ground.phase }, { on := 20, ground := Go.Ground.phase }, { on := 21, ground := Go.Ground.phase }], guard := none }) (v := ?vc22) rfl (by kernel_rfl) (by kernel_rfl) (by kernel_rfl) (fun _ _ _ h => h) (Or.inl ⟨by rfl, ?yc22⟩) (by assumption) ?_
  case yc22 => (intro wX hSw; (try dsimp only at hSw); go_simp <;> with_reducible rfl)
  try simp only [Act.put, List.setIfInBounds_toArray, List.set_cons_zero, List.set_cons_succ]
  refine wpAnyH_done (by kernel_rfl) ?_ _
  go_wp2
  go_ret
  exact ⟨rfl, HB.out.trans (hHeld.1.mono HB.out.size)⟩
set_option maxRecDepth 100000 in
set_option maxHeartbeats 40000000 in
theorem reads_00s (m n : Mk) (s : List UInt8) (w : World) (l1 : s.length ≤ 200) (l2 : m.id.length ≤ 200) (l3 : n.id.length ≤ 200) (hm : rightB m = false) (hn : rightB n = false) (y : Mk) (hy : readM s = some y) :
    Calls Try.prog 3 #[.agg (cellsM m), .agg (cellsM n), .string (bs s)] w (BoolPost w true) := by
  have cs := fun W => small_any W
  have cbm := fun W => bytes_any m W
  have crm := fun W => right_any m W
  have cxr := fun W => read_any (bytesM m) W (by have := bytes_len m; omega)
  have cyr := fun W => read_any s W (by omega)
  have cbn := fun W => bytes_any n W
  have crn := fun W => right_any n W
  rw [hm] at crm
  rw [hn] at crn
  unfold ReadP at cxr cyr
  rw [hy] at cyr
  rw [bytes_bad hm, read_nil] at cxr
  rw [bytes_bad hm] at cbm
  have hnil : bs [] = ⟨#[]⟩ := rfl
  obtain ⟨hy1, hy2⟩ := of_read hy
  have cry := fun W => right_any y W
  have cby := fun W => bytes_any y W
  rw [hy1] at cry
  rw [hy2] at cby
  have ts := bs_toList s
  have ss := bs_size s
  have sm := bs_size m.id
  have sn := bs_size n.id
  have d1 : decide (200 < (s.length : Int)) = false := decide_eq_false (by omega)
  have d2 : decide (200 < (m.id.length : Int)) = false := decide_eq_false (by omega)
  have d3 : decide (200 < (n.id.length : Int)) = false := decide_eq_false (by omega)
  have tss : (s == s) = true := by simp
  have g3 := heap_alloc_new w (.cells (cellsM m) 23)
  have g4 := heap_alloc_new (w.alloc (.cells (cellsM m) 23)) (.cells (cellsM n) 23)
  rw [World.size_alloc] at g4
  have g3' := (Below.heap_alloc _ (.cells (cellsM n) 23) _ (lt_of_heap g3)).trans g3
  have hB0 := ((Below.refl w.heap.size w).alloc (Nat.le_refl _) (.cells (cellsM m) 23)).alloc (by simp) (.cells (cellsM n) 23)
  have M3 := Lib.hid g3'
  have M4 := Lib.hid g4
  have HB := Lib.hid hB0
  have q3 : ((w.alloc (.cells (cellsM m) 23)).alloc (.cells (cellsM n) 23)).cell? ⟨w.heap.size, 3, none⟩ = some (.string (bs m.id)) := (fiveM g3').2.2.2.1
  have q4 : ((w.alloc (.cells (cellsM m) 23)).alloc (.cells (cellsM n) 23)).cell? ⟨w.heap.size + 1, 3, none⟩ = some (.string (bs n.id)) := (fiveM g4).2.2.2.1
  clear g3 g4 g3' hB0 hm hn hy l1 l2 l3 hy1 hy2
  unfold StrPost at cbm cbn cby
  simp only [Option.getD_some, Option.getD_none, Option.isSome_some, Option.isSome_none] at cxr cyr
  rw [hnil] at cbm cxr
  have hzc : cellsM zeroM = #[.int .i64 0, .int .i64 0, .int .i64 0, .string ⟨#[]⟩, .bool false] := rfl
  try rw [hzc] at cxr
  try rw [hzc] at cyr
  simp only [cellsM] at cbm crm cxr cyr q3 q4 cbn crn cry cby
  simp only [cellsM]
  go_enter Try.func3, Try.ntmps3
  go_wp2_with fail
  (with_reducible refine Calls.mono (cs _) ?_)
  rintro e w1 ⟨rfl, hbx⟩
  replace M3 := Lib.hid (keep_blkP hbx M3.out)
  replace M4 := Lib.hid (keep_blkP hbx M4.out)
  replace HB := Lib.hid (HB.out.trans (hbx.mono HB.out.size))
  clear hbx q3 q4 cs
  obtain ⟨pM30, pM31, pM32, pM33, pM34⟩ : (w1.cell? ⟨w.heap.size, 0, none⟩ = some (.int .i64 m.now) ∧ w1.cell? ⟨w.heap.size, 1, none⟩ = some (.int .i64 m.score) ∧ w1.cell? ⟨w.heap.size, 2, none⟩ = some (.int .i64 m.time) ∧ w1.cell? ⟨w.heap.size, 3, none⟩ = some (.string (bs m.id)) ∧ w1.cell? ⟨w.heap.size, 4, none⟩ = some (.bool m.beg)) := fiveM (k := m) M3.out
  obtain ⟨pM40, pM41, pM42, pM43, pM44⟩ : (w1.cell? ⟨w.heap.size + 1, 0, none⟩ = some (.int .i64 n.now) ∧ w1.cell? ⟨w.heap.size + 1, 1, none⟩ = some (.int .i64 n.score) ∧ w1.cell? ⟨w.heap.size + 1, 2, none⟩ = some (.int .i64 n.time) ∧ w1.cell? ⟨w.heap.size + 1, 3, none⟩ = some (.string (bs n.id)) ∧ w1.cell? ⟨w.heap.size + 1, 4, none⟩ = some (.bool n.beg)) := fiveM (k := n) M4.out
  go_wp2_with fail
  (with_reducible refine Calls.mono (cbm _) ?_)
  rintro e w2 ⟨rfl, hbx⟩
  clear pM30 pM31 pM32 pM33 pM34 pM40 pM41 pM42 pM43 pM44
  replace M3 := Lib.hid (keep_blkP hbx M3.out)
  replace M4 := Lib.hid (keep_blkP hbx M4.out)
  replace HB := Lib.hid (HB.out.trans (hbx.mono HB.out.size))
  clear hbx
  obtain ⟨pM30, pM31, pM32, pM33, pM34⟩ : (w2.cell? ⟨w.heap.size, 0, none⟩ = some (.int .i64 m.now) ∧ w2.cell? ⟨w.heap.size, 1, none⟩ = some (.int .i64 m.score) ∧ w2.cell? ⟨w.heap.size, 2, none⟩ = some (.int .i64 m.time) ∧ w2.cell? ⟨w.heap.size, 3, none⟩ = some (.string (bs m.id)) ∧ w2.cell? ⟨w.heap.size, 4, none⟩ = some (.bool m.beg)) := fiveM (k := m) M3.out
  obtain ⟨pM40, pM41, pM42, pM43, pM44⟩ : (w2.cell? ⟨w.heap.size + 1, 0, none⟩ = some (.int .i64 n.now) ∧ w2.cell? ⟨w.heap.size + 1, 1, none⟩ = some (.int .i64 n.score) ∧ w2.cell? ⟨w.heap.size + 1, 2, none⟩ = some (.int .i64 n.time) ∧ w2.cell? ⟨w.heap.size + 1, 3, none⟩ = some (.string (bs n.id)) ∧ w2.cell? ⟨w.heap.size + 1, 4, none⟩ = some (.bool n.beg)) := fiveM (k := n) M4.out
  go_wp2_with fail
  (with_reducible refine Calls.mono (cxr _) ?_)
  rintro e w3 ⟨rfl, hbx⟩
  clear pM30 pM31 pM32 pM33 pM34 pM40 pM41 pM42 pM43 pM44
  replace M3 := Lib.hid (keep_blkP hbx M3.out)
  replace M4 := Lib.hid (keep_blkP hbx M4.out)
  replace HB := Lib.hid (HB.out.trans (hbx.mono HB.out.size))
  clear hbx cxr
  have M8 := Lib.hid (heap_alloc_new w3 (.cells #[.int .i64 0, .int .i64 0, .int .i64 0, .string ⟨#[]⟩, .bool false] 23))
  replace M3 := Lib.hid ((Below.heap_alloc _ (.cells #[.int .i64 0, .int .i64 0, .int .i64 0, .string ⟨#[]⟩, .bool false] 23) _ (lt_of_heap M3.out)).trans M3.out)
  replace M4 := Lib.hid ((Below.heap_alloc _ (.cells #[.int .i64 0, .int .i64 0, .int .i64 0, .string ⟨#[]⟩, .bool false] 23) _ (lt_of_heap M4.out)).trans M4.out)
  replace HB := Lib.hid (HB.out.alloc HB.out.size (.cells #[.int .i64 0, .int .i64 0, .int .i64 0, .string ⟨#[]⟩, .bool false] 23))
  obtain ⟨pM30, pM31, pM32, pM33, pM34⟩ : ((w3.alloc (.cells #[.int .i64 0, .int .i64 0, .int .i64 0, .string ⟨#[]⟩, .bool false] 23)).cell? ⟨w.heap.size, 0, none⟩ = some (.int .i64 m.now) ∧ (w3.alloc (.cells #[.int .i64 0, .int .i64 0, .int .i64 0, .string ⟨#[]⟩, .bool false] 23)).cell? ⟨w.heap.size, 1, none⟩ = some (.int .i64 m.score) ∧ (w3.alloc (.cells #[.int .i64 0, .int .i64 0, .int .i64 0, .string ⟨#[]⟩, .bool false] 23)).cell? ⟨w.heap.size, 2, none⟩ = some (.int .i64 m.time) ∧ (w3.alloc (.cells #[.int .i64 0, .int .i64 0, .int .i64 0, .string ⟨#[]⟩, .bool false] 23)).cell? ⟨w.heap.size, 3, none⟩ = some (.string (bs m.id)) ∧ (w3.alloc (.cells #[.int .i64 0, .int .i64 0, .int .i64 0, .string ⟨#[]⟩, .bool false] 23)).cell? ⟨w.heap.size, 4, none⟩ = some (.bool m.beg)) := fiveM (k := m) M3.out
  obtain ⟨pM40, pM41, pM42, pM43, pM44⟩ : ((w3.alloc (.cells #[.int .i64 0, .int .i64 0, .int .i64 0, .string ⟨#[]⟩, .bool false] 23)).cell? ⟨w.heap.size + 1, 0, none⟩ = some (.int .i64 n.now) ∧ (w3.alloc (.cells #[.int .i64 0, .int .i64 0, .int .i64 0, .string ⟨#[]⟩, .bool false] 23)).cell? ⟨w.heap.size + 1, 1, none⟩ = some (.int .i64 n.score) ∧ (w3.alloc (.cells #[.int .i64 0, .int .i64 0, .int .i64 0, .string ⟨#[]⟩, .bool false] 23)).cell? ⟨w.heap.size + 1, 2, none⟩ = some (.int .i64 n.time) ∧ (w3.alloc (.cells #[.int .i64 0, .int .i64 0, .int .i64 0, .string ⟨#[]⟩, .bool false] 23)).cell? ⟨w.heap.size + 1, 3, none⟩ = some (.string (bs n.id)) ∧ (w3.alloc (.cells #[.int .i64 0, .int .i64 0, .int .i64 0, .string ⟨#[]⟩, .bool false] 23)).cell? ⟨w.heap.size + 1, 4, none⟩ = some (.bool n.beg)) := fiveM (k := n) M4.out
  obtain ⟨pM80, pM81, pM82, pM83, pM84⟩ : ((w3.alloc (.cells #[.int .i64 0, .int .i64 0, .int .i64 0, .string ⟨#[]⟩, .bool false] 23)).cell? ⟨w3.heap.size, 0, none⟩ = some (.int .i64 0) ∧ (w3.alloc (.cells #[.int .i64 0, .int .i64 0, .int .i64 0, .string ⟨#[]⟩, .bool false] 23)).cell? ⟨w3.heap.size, 1, none⟩ = some (.int .i64 0) ∧ (w3.alloc (.cells #[.int .i64 0, .int .i64 0, .int .i64 0, .string ⟨#[]⟩, .bool false] 23)).cell? ⟨w3.heap.size, 2, none⟩ = some (.int .i64 0) ∧ (w3.alloc (.cells #[.int .i64 0, .int .i64 0, .int .i64 0, .string ⟨#[]⟩, .bool false] 23)).cell? ⟨w3.heap.size, 3, none⟩ = some (.string ⟨#[]⟩) ∧ (w3.alloc (.cells #[.int .i64 0, .int .i64 0, .int .i64 0, .string ⟨#[]⟩, .bool false] 23)).cell? ⟨w3.heap.size, 4, none⟩ = some (.bool false)) := fiveM (k := zeroM) M8.out
  go_wp2_with fail
  (with_reducible refine Calls.mono (cyr _) ?_)
  rintro e w4 ⟨rfl, hbx⟩
  clear pM30 pM31 pM32 pM33 pM34 pM40 pM41 pM42 pM43 pM44 pM80 pM81 pM82 pM83 pM84
  replace M3 := Lib.hid (keep_blkP hbx M3.out)
  replace M4 := Lib.hid (keep_blkP hbx M4.out)
  replace M8 := Lib.hid (keep_blkP hbx M8.out)
  replace HB := Lib.hid (HB.out.trans (hbx.mono HB.out.size))
  clear hbx cyr
  have M10 := Lib.hid (heap_alloc_new w4 (.cells #[.int .i64 y.now, .int .i64 y.score, .int .i64 y.time, .string (bs y.id), .bool y.beg] 23))
  replace M3 := Lib.hid ((Below.heap_alloc _ (.cells #[.int .i64 y.now, .int .i64 y.score, .int .i64 y.time, .string (bs y.id), .bool y.beg] 23) _ (lt_of_heap M3.out)).trans M3.out)
  replace M4 := Lib.hid ((Below.heap_alloc _ (.cells #[.int .i64 y.now, .int .i64 y.score, .int .i64 y.time, .string (bs y.id), .bool y.beg] 23) _ (lt_of_heap M4.out)).trans M4.out)
  replace M8 := Lib.hid ((Below.heap_alloc _ (.cells #[.int .i64 y.now, .int .i64 y.score, .int .i64 y.time, .string (bs y.id), .bool y.beg] 23) _ (lt_of_heap M8.out)).trans M8.out)
  replace HB := Lib.hid (HB.out.alloc HB.out.size (.cells #[.int .i64 y.now, .int .i64 y.score, .int .i64 y.time, .string (bs y.id), .bool y.beg] 23))
  obtain ⟨wz, hwz⟩ : ∃ wz, wz = (w4.alloc (.cells #[.int .i64 y.now, .int .i64 y.score, .int .i64 y.time, .string (bs y.id), .bool y.beg] 23)) := ⟨_, rfl⟩
  rw [← hwz] at HB M3 M4 M8 M10
  have FF : Hid (∀ W, Below wz.heap.size wz W → (W.cell? ⟨w.heap.size, 0, none⟩ = some (.int .i64 m.now) ∧ W.cell? ⟨w.heap.size, 1, none⟩ = some (.int .i64 m.score) ∧ W.cell? ⟨w.heap.size, 2, none⟩ = some (.int .i64 m.time) ∧ W.cell? ⟨w.heap.size, 3, none⟩ = some (.string (bs m.id)) ∧ W.cell? ⟨w.heap.size, 4, none⟩ = some (.bool m.beg)) ∧ (W.cell? ⟨w.heap.size + 1, 0, none⟩ = some (.int .i64 n.now) ∧ W.cell? ⟨w.heap.size + 1, 1, none⟩ = some (.int .i64 n.score) ∧ W.cell? ⟨w.heap.size + 1, 2, none⟩ = some (.int .i64 n.time) ∧ W.cell? ⟨w.heap.size + 1, 3, none⟩ = some (.string (bs n.id)) ∧ W.cell? ⟨w.heap.size + 1, 4, none⟩ = some (.bool n.beg)) ∧ (W.cell? ⟨w3.heap.size, 0, none⟩ = some (.int .i64 0) ∧ W.cell? ⟨w3.heap.size, 1, none⟩ = some (.int .i64 0) ∧ W.cell? ⟨w3.heap.size, 2, none⟩ = some (.int .i64 0) ∧ W.cell? ⟨w3.heap.size, 3, none⟩ = some (.string ⟨#[]⟩) ∧ W.cell? ⟨w3.heap.size, 4, none⟩ = some (.bool false)) ∧ (W.cell? ⟨w4.heap.size, 0, none⟩ = some (.int .i64 y.now) ∧ W.cell? ⟨w4.heap.size, 1, none⟩ = some (.int .i64 y.score) ∧ W.cell? ⟨w4.heap.size, 2, none⟩ = some (.int .i64 y.time) ∧ W.cell? ⟨w4.heap.size, 3, none⟩ = some (.string (bs y.id)) ∧ W.cell? ⟨w4.heap.size, 4, none⟩ = some (.bool y.beg))) := fun W hW =>
    ⟨fiveM (k := m) (keep_blkP hW M3.out), fiveM (k := n) (keep_blkP hW M4.out), fiveM (k := zeroM) (keep_blkP hW M8.out), fiveM (k := y) (keep_blkP hW M10.out)⟩
  clear M3 M4 M8 M10
  go_wp2_with fail
  rw [← hwz]
  clear hwz
  generalize w3.heap.size = b3 at *
  generalize w4.heap.size = b4 at *
  have gx := FF.out _ (Below.refl wz.heap.size wz).drew
  refine wp_region_held_drew (S := (fun W => Below wz.heap.size wz W ∧ (W.cell? ⟨w.heap.size, 0, none⟩ = some (.int .i64 m.now) ∧ W.cell? ⟨w.heap.size, 1, none⟩ = some (.int .i64 m.score) ∧ W.cell? ⟨w.heap.size, 2, none⟩ = some (.int .i64 m.time) ∧ W.cell? ⟨w.heap.size, 3, none⟩ = some (.string (bs m.id)) ∧ W.cell? ⟨w.heap.size, 4, none⟩ = some (.bool m.beg)) ∧ (W.cell? ⟨w.heap.size + 1, 0, none⟩ = some (.int .i64 n.now) ∧ W.cell? ⟨w.heap.size + 1, 1, none⟩ = some (.int .i64 n.score) ∧ W.cell? ⟨w.heap.size + 1, 2, none⟩ = some (.int .i64 n.time) ∧ W.cell? ⟨w.heap.size + 1, 3, none⟩ = some (.string (bs n.id)) ∧ W.cell? ⟨w.heap.size + 1, 4, none⟩ = some (.bool n.beg)) ∧ (W.cell? ⟨b3, 0, none⟩ = some (.int .i64 0) ∧ W.cell? ⟨b3, 1, none⟩ = some (.int .i64 0) ∧ W.cell? ⟨b3, 2, none⟩ = some (.int .i64 0) ∧ W.cell? ⟨b3, 3, none⟩ = some (.string ⟨#[]⟩) ∧ W.cell? ⟨b3, 4, none⟩ = some (.bool false)) ∧ (W.cell? ⟨b4, 0, none⟩ = some (.int .i64 y.now) ∧ W.cell? ⟨b4, 1, none⟩ = some (.int .i64 y.score) ∧ W.cell? ⟨b4, 2, none⟩ = some (.int .i64 y.time) ∧ W.cell? ⟨b4, 3, none⟩ = some (.string (bs y.id)) ∧ W.cell? ⟨b4, 4, none⟩ = some (.bool y.beg)))) (by kernel_rfl) (⟨(Below.refl _ _).drew, FF.out _ (Below.refl _ _).drew⟩) (fun hHeld => ?_)
  refine wpAnyH_take (i := 0) (oi := { dst := some 40, op := Go.Op.move (Go.Operand.tmp 9), type := 4, pos := "law.go:47", after := #[], guard := none }) (v := ?va0) rfl (by kernel_rfl) (by kernel_rfl) (by kernel_rfl) (fun _ _ _ h => h) (Or.inl ⟨by rfl, ?ya0⟩) (by assumption) ?_
  case ya0 => (intro wX hSw; (try dsimp only at hSw); go_simp <;> with_reducible rfl)
  try simp only [Act.put, List.setIfInBounds_toArray, List.set_cons_zero, List.set_cons_succ]
  refine wpAnyH_take (i := 1) (oi := { dst := some 41, op := Go.Op.load 23 (Go.Operand.tmp 3), type := 23, pos := "law.go:47", after := #[], guard := none }) (v := ?va1) rfl (by kernel_rfl) (by kernel_rfl) (by kernel_rfl) (fun _ _ _ h => h) (Or.inl ⟨by rfl, ?ya1⟩) (by assumption) ?_
  case ya1 => (intro wX hSw; (try dsimp only at hSw); go_simp <;> with_reducible rfl)
  try simp only [Act.put, List.setIfInBounds_toArray, List.set_cons_zero, List.set_cons_succ]
  refine wpAnyH_ready (rs := [2]) (by kernel_rfl) (by simp) (AllReadyH.cons (o := { dst := some 42, op := Go.Op.call { callee := Go.Callee.value (Go.Operand.func 10), args := #[Go.Operand.tmp 41], argTypes := #[23] }, type := 4, pos := "law.go:47", after := #[{ on := 1, ground := Go.Ground.data }], guard := none }) rfl (fun K hK => ?_) AllReadyH.nil)
  (go_simp; go_at_call 10; refine (crm _).mono ?_; rintro e wc0 ⟨rfl, hbc0⟩)
  refine hK.out _ _ (⟨((Below.refl wz.heap.size wz).drew).trans (hbc0.mono ((Below.refl wz.heap.size wz).drew).size), FF.out _ (((Below.refl wz.heap.size wz).drew).trans (hbc0.mono ((Below.refl wz.heap.size wz).drew).size))⟩) (fun hHeld => ?_)
  clear hK K
  try simp only [Act.put, List.setIfInBounds_toArray, List.set_cons_zero, List.set_cons_succ]
  refine wpAnyH_take (i := 3) (oi := { dst := some 43, op := Go.Op.binOp Go.BinOp.neq 4 (Go.Operand.tmp 40) (Go.Operand.tmp 42) 4, type := 4, pos := "law.go:47", after := #[{ on := 0, ground := Go.Ground.data }, { on := 2, ground := Go.Ground.data }], guard := none }) (v := ?va3) rfl (by kernel_rfl) (by kernel_rfl) (by kernel_rfl) (fun _ _ _ h => h) (Or.inl ⟨by rfl, ?ya3⟩) (by assumption) ?_
  case ya3 => (intro wX hSw; (try dsimp only at hSw); go_simp <;> with_reducible rfl)
  try simp only [Act.put, List.setIfInBounds_toArray, List.set_cons_zero, List.set_cons_succ]
  refine wpAnyH_take (i := 4) (oi := { dst := some 44, op := Go.Op.move (Go.Operand.tmp 43), type := 4, pos := "law.go:47", after := #[{ on := 3, ground := Go.Ground.data }, { on := 2, ground := Go.Ground.chain }], guard := none }) (v := ?va4) rfl (by kernel_rfl) (by kernel_rfl) (by kernel_rfl) (fun _ _ _ h => h) (Or.inl ⟨by rfl, ?ya4⟩) (by assumption) ?_
  case ya4 => (intro wX hSw; (try dsimp only at hSw); go_simp <;> with_reducible rfl)
  try simp only [Act.put, List.setIfInBounds_toArray, List.set_cons_zero, List.set_cons_succ]
  refine wpAnyH_take (i := 5) (oi := { dst := some 45, op := Go.Op.move (Go.Operand.tmp 9), type := 4, pos := "law.go:47", after := #[{ on := 4, ground := Go.Ground.guard }], guard := some (4, false) }) (v := ?va5) rfl (by kernel_rfl) (by kernel_rfl) (by kernel_rfl) (fun _ _ _ h => h) (Or.inl ⟨by rfl, ?ya5⟩) (by assumption) ?_
  case ya5 => (intro wX hSw; (try dsimp only at hSw); go_simp <;> with_reducible rfl)
  try simp only [Act.put, List.setIfInBounds_toArray, List.set_cons_zero, List.set_cons_succ]
  refine wpAnyH_take (i := 6) (oi := { dst := some 46, op := Go.Op.move (Go.Operand.tmp 45), type := 4, pos := "law.go:47", after := #[{ on := 5, ground := Go.Ground.data }, { on := 4, ground := Go.Ground.chain }, { on := 4, ground := Go.Ground.guard }], guard := some (4, false) }) (v := ?va6) rfl (by kernel_rfl) (by kernel_rfl) (by kernel_rfl) (fun _ _ _ h => h) (Or.inl ⟨by rfl, ?ya6⟩) (by assumption) ?_
  case ya6 => (intro wX hSw; (try dsimp only at hSw); go_simp <;> with_reducible rfl)
  try simp only [Act.put, List.setIfInBounds_toArray, List.set_cons_zero, List.set_cons_succ]
  refine wpAnyH_take (i := 7) (oi := { dst := some 47, op := Go.Op.load 23 (Go.Operand.tmp 8), type := 23, pos := "law.go:47", after := #[{ on := 6, ground := Go.Ground.guard }], guard := some (6, true) }) (v := undef) rfl (by kernel_rfl) (by kernel_rfl) (by kernel_rfl) (fun _ _ _ h => h) (Or.inr ⟨by rfl, rfl⟩) (by assumption) ?_
  try simp only [Act.put, List.setIfInBounds_toArray, List.set_cons_zero, List.set_cons_succ]
  refine wpAnyH_take (i := 8) (oi := { dst := some 48, op := Go.Op.load 23 (Go.Operand.tmp 3), type := 23, pos := "law.go:47", after := #[{ on := 6, ground := Go.Ground.guard }], guard := some (6, true) }) (v := undef) rfl (by kernel_rfl) (by kernel_rfl) (by kernel_rfl) (fun _ _ _ h => h) (Or.inr ⟨by rfl, rfl⟩) (by assumption) ?_
  try simp only [Act.put, List.setIfInBounds_toArray, List.set_cons_zero, List.set_cons_succ]
  refine wpAnyH_take (i := 9) (oi := { dst := some 49, op := Go.Op.binOp Go.BinOp.neq 23 (Go.Operand.tmp 47) (Go.Operand.tmp 48) 23, type := 4, pos := "law.go:47", after := #[{ on := 7, ground := Go.Ground.data }, { on := 8, ground := Go.Ground.data }, { on := 6, ground := Go.Ground.guard }], guard := some (6, true) }) (v := undef) rfl (by kernel_rfl) (by kernel_rfl) (by kernel_rfl) (fun _ _ _ h => h) (Or.inr ⟨by rfl, rfl⟩) (by assumption) ?_
  try simp only [Act.put, List.setIfInBounds_toArray, List.set_cons_zero, List.set_cons_succ]
  refine wpAnyH_take (i := 10) (oi := { dst := some 50, op := Go.Op.pick (Go.Operand.tmp 46) (Go.Operand.tmp 49) (Go.Operand.const (Go.Value.bool false)), type := 4, pos := "law.go:47", after := #[{ on := 6, ground := Go.Ground.data }, { on := 9, ground := Go.Ground.data }, { on := 4, ground := Go.Ground.guard }], guard := some (4, false) }) (v := ?va10) rfl (by kernel_rfl) (by kernel_rfl) (by kernel_rfl) (fun _ _ _ h => h) (Or.inl ⟨by rfl, ?ya10⟩) (by assumption) ?_
  case ya10 => (intro wX hSw; (try dsimp only at hSw); go_simp <;> with_reducible rfl)
  try simp only [Act.put, List.setIfInBounds_toArray, List.set_cons_zero, List.set_cons_succ]
  refine wpAnyH_take (i := 11) (oi := { dst := some 51, op := Go.Op.pick (Go.Operand.tmp 44) (Go.Operand.const (Go.Value.bool true)) (Go.Operand.tmp 50), type := 4, pos := "law.go:47", after := #[{ on := 4, ground := Go.Ground.data }, { on := 10, ground := Go.Ground.data }], guard := none }) (v := ?va11) rfl (by kernel_rfl) (by kernel_rfl) (by kernel_rfl) (fun _ _ _ h => h) (Or.inl ⟨by rfl, ?ya11⟩) (by assumption) ?_
  case ya11 => (intro wX hSw; (try dsimp only at hSw); go_simp <;> with_reducible rfl)
  try simp only [Act.put, List.setIfInBounds_toArray, List.set_cons_zero, List.set_cons_succ]
  refine wpAnyH_take (i := 12) (oi := { dst := some 52, op := Go.Op.move (Go.Operand.tmp 51), type := 4, pos := "law.go:47", after := #[{ on := 11, ground := Go.Ground.data }, { on := 6, ground := Go.Ground.chain }], guard := none }) (v := ?va12) rfl (by kernel_rfl) (by kernel_rfl) (by kernel_rfl) (fun _ _ _ h => h) (Or.inl ⟨by rfl, ?ya12⟩) (by assumption) ?_
  case ya12 => (intro wX hSw; (try dsimp only at hSw); go_simp <;> with_reducible rfl)
  try simp only [Act.put, List.setIfInBounds_toArray, List.set_cons_zero, List.set_cons_succ]
  refine wpAnyH_take (i := 13) (oi := { dst := some 53, op := Go.Op.load 23 (Go.Operand.tmp 3), type := 23, pos := "law.go:47", after := #[{ on := 12, ground := Go.Ground.guard }], guard := some (12, false) }) (v := ?va13) rfl (by kernel_rfl) (by kernel_rfl) (by kernel_rfl) (fun _ _ _ h => h) (Or.inl ⟨by rfl, ?ya13⟩) (by assumption) ?_
  case ya13 => (intro wX hSw; (try dsimp only at hSw); go_simp <;> with_reducible rfl)
  try simp only [Act.put, List.setIfInBounds_toArray, List.set_cons_zero, List.set_cons_succ]
  refine wpAnyH_take (i := 16) (oi := { dst := some 56, op := Go.Op.load 23 (Go.Operand.tmp 3), type := 23, pos := "law.go:47", after := #[{ on := 12, ground := Go.Ground.guard }], guard := some (12, false) }) (v := ?va16) rfl (by kernel_rfl) (by kernel_rfl) (by kernel_rfl) (fun _ _ _ h => h) (Or.inl ⟨by rfl, ?ya16⟩) (by assumption) ?_
  case ya16 => (intro wX hSw; (try dsimp only at hSw); go_simp <;> with_reducible rfl)
  try simp only [Act.put, List.setIfInBounds_toArray, List.set_cons_zero, List.set_cons_succ]
  refine wpAnyH_ready (rs := [14]) (by kernel_rfl) (by simp) (AllReadyH.cons (o := { dst := some 54, op := Go.Op.call { callee := Go.Callee.value (Go.Operand.func 9), args := #[Go.Operand.tmp 53], argTypes := #[23] }, type := 9, pos := "law.go:47", after := #[{ on := 13, ground := Go.Ground.data }, { on := 12, ground := Go.Ground.chain }, { on := 12, ground := Go.Ground.guard }], guard := some (12, false) }) rfl (fun K hK => ?_) AllReadyH.nil)
  (go_simp; go_at_call 9; refine (cbm _).mono ?_; rintro e wc1 ⟨rfl, hbc1⟩)
  refine hK.out _ _ (⟨(hHeld.1).trans (hbc1.mono (hHeld.1).size), FF.out _ ((hHeld.1).trans (hbc1.mono (hHeld.1).size))⟩) (fun hHeld => ?_)
  clear hK K
  try simp only [Act.put, List.setIfInBounds_toArray, List.set_cons_zero, List.set_cons_succ]
  refine wpAnyH_take (i := 15) (oi := { dst := some 55, op := Go.Op.binOp Go.BinOp.eql 9 (Go.Operand.tmp 54) (Go.Operand.const (Go.Value.string { data := #[] })) 9, type := 4, pos := "law.go:47", after := #[{ on := 14, ground := Go.Ground.data }, { on := 12, ground := Go.Ground.guard }], guard := some (12, false) }) (v := ?va15) rfl (by kernel_rfl) (by kernel_rfl) (by kernel_rfl) (fun _ _ _ h => h) (Or.inl ⟨by rfl, ?ya15⟩) (by assumption) ?_
  case ya15 => (intro wX hSw; (try dsimp only at hSw); go_simp <;> with_reducible rfl)
  try simp only [Act.put, List.setIfInBounds_toArray, List.set_cons_zero, List.set_cons_succ]
  refine wpAnyH_ready (rs := [17]) (by kernel_rfl) (by simp) (AllReadyH.cons (o := { dst := some 57, op := Go.Op.call { callee := Go.Callee.value (Go.Operand.func 10), args := #[Go.Operand.tmp 56], argTypes := #[23] }, type := 4, pos := "law.go:47", after := #[{ on := 16, ground := Go.Ground.data }, { on := 14, ground := Go.Ground.chain }, { on := 12, ground := Go.Ground.guard }], guard := some (12, false) }) rfl (fun K hK => ?_) AllReadyH.nil)
  (go_simp; go_at_call 10; refine (crm _).mono ?_; rintro e wc2 ⟨rfl, hbc2⟩)
  refine hK.out _ _ (⟨(hHeld.1).trans (hbc2.mono (hHeld.1).size), FF.out _ ((hHeld.1).trans (hbc2.mono (hHeld.1).size))⟩) (fun hHeld => ?_)
  clear hK K
  try simp only [Act.put, List.setIfInBounds_toArray, List.set_cons_zero, List.set_cons_succ]
  refine wpAnyH_take (i := 18) (oi := { dst := some 58, op := Go.Op.binOp Go.BinOp.eql 4 (Go.Operand.tmp 55) (Go.Operand.tmp 57) 4, type := 4, pos := "law.go:47", after := #[{ on := 15, ground := Go.Ground.data }, { on := 17, ground := Go.Ground.data }, { on := 12, ground := Go.Ground.guard }], guard := some (12, false) }) (v := ?va18) rfl (by kernel_rfl) (by kernel_rfl) (by kernel_rfl) (fun _ _ _ h => h) (Or.inl ⟨by rfl, ?ya18⟩) (by assumption) ?_
  case ya18 => (intro wX hSw; (try dsimp only at hSw); go_simp <;> with_reducible rfl)
  try simp only [Act.put, List.setIfInBounds_toArray, List.set_cons_zero, List.set_cons_succ]
  refine wpAnyH_take (i := 19) (oi := { dst := some 59, op := Go.Op.pick (Go.Operand.tmp 52) (Go.Operand.const (Go.Value.bool true)) (Go.Operand.tmp 58), type := 4, pos := "law.go:47", after := #[{ on := 12, ground := Go.Ground.data }, { on := 18, ground := Go.Ground.data }], guard := none }) (v := ?va19) rfl (by kernel_rfl) (by kernel_rfl) (by kernel_rfl) (fun _ _ _ h => h) (Or.inl ⟨by rfl, ?ya19⟩) (by assumption) ?_
  case ya19 => (intro wX hSw; (try dsimp only at hSw); go_simp <;> with_reducible rfl)
  try simp only [Act.put, List.setIfInBounds_toArray, List.set_cons_zero, List.set_cons_succ]
  refine wpAnyH_done (by kernel_rfl) ?_ _
  obtain ⟨hb6, hG6⟩ := hHeld
  have HB6 := Lib.hid hb6
  clear hb6 gx
  obtain ⟨⟨p0, p1, p2, p3, p4⟩, ⟨p5, p6, p7, p8, p9⟩, ⟨p10, p11, p12, p13, p14⟩, ⟨p15, p16, p17, p18, p19⟩⟩ := hG6
  go_wp2_with fail
  (with_reducible refine Calls.mono (cry _) ?_)
  rintro e w5 ⟨rfl, hbx⟩
  have HB7 := Lib.hid (HB6.out.trans (hbx.mono HB6.out.size))
  clear hbx cry p0 p1 p2 p3 p4 p5 p6 p7 p8 p9 p10 p11 p12 p13 p14 p15 p16 p17 p18 p19
  obtain ⟨⟨p0, p1, p2, p3, p4⟩, ⟨p5, p6, p7, p8, p9⟩, ⟨p10, p11, p12, p13, p14⟩, ⟨p15, p16, p17, p18, p19⟩⟩ := FF.out _ HB7.out
  go_wp2_with fail
  (with_reducible refine Calls.mono (cby _) ?_)
  rintro e w6 ⟨rfl, hbx⟩
  have HB8 := Lib.hid (HB7.out.trans (hbx.mono HB7.out.size))
  clear hbx cby p0 p1 p2 p3 p4 p5 p6 p7 p8 p9 p10 p11 p12 p13 p14 p15 p16 p17 p18 p19
  obtain ⟨⟨p0, p1, p2, p3, p4⟩, ⟨p5, p6, p7, p8, p9⟩, ⟨p10, p11, p12, p13, p14⟩, ⟨p15, p16, p17, p18, p19⟩⟩ := FF.out _ HB8.out
  go_wp2_with fail
  clear p0 p1 p2 p3 p4 p5 p6 p7 p8 p9 p10 p11 p12 p13 p14 p15 p16 p17 p18 p19
  have gx := FF.out _ (HB8.out).drew
  refine wp_region_held_drew (S := (fun W => Below wz.heap.size wz W ∧ (W.cell? ⟨w.heap.size, 0, none⟩ = some (.int .i64 m.now) ∧ W.cell? ⟨w.heap.size, 1, none⟩ = some (.int .i64 m.score) ∧ W.cell? ⟨w.heap.size, 2, none⟩ = some (.int .i64 m.time) ∧ W.cell? ⟨w.heap.size, 3, none⟩ = some (.string (bs m.id)) ∧ W.cell? ⟨w.heap.size, 4, none⟩ = some (.bool m.beg)) ∧ (W.cell? ⟨w.heap.size + 1, 0, none⟩ = some (.int .i64 n.now) ∧ W.cell? ⟨w.heap.size + 1, 1, none⟩ = some (.int .i64 n.score) ∧ W.cell? ⟨w.heap.size + 1, 2, none⟩ = some (.int .i64 n.time) ∧ W.cell? ⟨w.heap.size + 1, 3, none⟩ = some (.string (bs n.id)) ∧ W.cell? ⟨w.heap.size + 1, 4, none⟩ = some (.bool n.beg)) ∧ (W.cell? ⟨b3, 0, none⟩ = some (.int .i64 0) ∧ W.cell? ⟨b3, 1, none⟩ = some (.int .i64 0) ∧ W.cell? ⟨b3, 2, none⟩ = some (.int .i64 0) ∧ W.cell? ⟨b3, 3, none⟩ = some (.string ⟨#[]⟩) ∧ W.cell? ⟨b3, 4, none⟩ = some (.bool false)) ∧ (W.cell? ⟨b4, 0, none⟩ = some (.int .i64 y.now) ∧ W.cell? ⟨b4, 1, none⟩ = some (.int .i64 y.score) ∧ W.cell? ⟨b4, 2, none⟩ = some (.int .i64 y.time) ∧ W.cell? ⟨b4, 3, none⟩ = some (.string (bs y.id)) ∧ W.cell? ⟨b4, 4, none⟩ = some (.bool y.beg)))) (by kernel_rfl) (⟨(HB8.out).drew, FF.out _ (HB8.out).drew⟩) (fun hHeld => ?_)
  refine wpAnyH_take (i := 0) (oi := { dst := some 81, op := Go.Op.move (Go.Operand.tmp 7), type := 4, pos := "law.go:53", after := #[], guard := none }) (v := ?vc0) rfl (by kernel_rfl) (by kernel_rfl) (by kernel_rfl) (fun _ _ _ h => h) (Or.inl ⟨by rfl, ?yc0⟩) (by assumption) ?_
  case yc0 => (intro wX hSw; (try dsimp only at hSw); go_simp <;> with_reducible rfl)
  try simp only [Act.put, List.setIfInBounds_toArray, List.set_cons_zero, List.set_cons_succ]
  refine wpAnyH_take (i := 1) (oi := { dst := some 82, op := Go.Op.move (Go.Operand.tmp 81), type := 4, pos := "law.go:53", after := #[{ on := 0, ground := Go.Ground.data }], guard := none }) (v := ?vc1) rfl (by kernel_rfl) (by kernel_rfl) (by kernel_rfl) (fun _ _ _ h => h) (Or.inl ⟨by rfl, ?yc1⟩) (by assumption) ?_
  case yc1 => (intro wX hSw; (try dsimp only at hSw); go_simp <;> with_reducible rfl)
  try simp only [Act.put, List.setIfInBounds_toArray, List.set_cons_zero, List.set_cons_succ]
  refine wpAnyH_take (i := 2) (oi := { dst := some 83, op := Go.Op.load 23 (Go.Operand.tmp 3), type := 23, pos := "law.go:53", after := #[{ on := 1, ground := Go.Ground.guard }], guard := some (1, true) }) (v := ?vc2) rfl (by kernel_rfl) (by kernel_rfl) (by kernel_rfl) (fun _ _ _ h => h) (Or.inl ⟨by rfl, ?yc2⟩) (by assumption) ?_
  case yc2 => (intro wX hSw; (try dsimp only at hSw); go_simp <;> with_reducible rfl)
  try simp only [Act.put, List.setIfInBounds_toArray, List.set_cons_zero, List.set_cons_succ]
  refine wpAnyH_ready (rs := [3]) (by kernel_rfl) (by simp) (AllReadyH.cons (o := { dst := some 84, op := Go.Op.call { callee := Go.Callee.value (Go.Operand.func 10), args := #[Go.Operand.tmp 83], argTypes := #[23] }, type := 4, pos := "law.go:53", after := #[{ on := 2, ground := Go.Ground.data }, { on := 1, ground := Go.Ground.chain }, { on := 1, ground := Go.Ground.guard }], guard := some (1, true) }) rfl (fun K hK => ?_) AllReadyH.nil)
  (go_simp; go_at_call 10; refine (crm _).mono ?_; rintro e wc0 ⟨rfl, hbc0⟩)
  refine hK.out _ _ (⟨((HB8.out).drew).trans (hbc0.mono ((HB8.out).drew).size), FF.out _ (((HB8.out).drew).trans (hbc0.mono ((HB8.out).drew).size))⟩) (fun hHeld => ?_)
  clear hK K
  try simp only [Act.put, List.setIfInBounds_toArray, List.set_cons_zero, List.set_cons_succ]
  refine wpAnyH_take (i := 4) (oi := { dst := some 85, op := Go.Op.unOp Go.UnOp.not 4 (Go.Operand.tmp 84), type := 4, pos := "law.go:53", after := #[{ on := 3, ground := Go.Ground.data }, { on := 1, ground := Go.Ground.guard }], guard := some (1, true) }) (v := ?vc4) rfl (by kernel_rfl) (by kernel_rfl) (by kernel_rfl) (fun _ _ _ h => h) (Or.inl ⟨by rfl, ?yc4⟩) (by assumption) ?_
  case yc4 => (intro wX hSw; (try dsimp only at hSw); go_simp <;> with_reducible rfl)
  try simp only [Act.put, List.setIfInBounds_toArray, List.set_cons_zero, List.set_cons_succ]
  refine wpAnyH_take (i := 5) (oi := { dst := some 86, op := Go.Op.move (Go.Operand.tmp 85), type := 4, pos := "law.go:53", after := #[{ on := 4, ground := Go.Ground.data }, { on := 3, ground := Go.Ground.chain }, { on := 1, ground := Go.Ground.guard }], guard := some (1, true) }) (v := ?vc5) rfl (by kernel_rfl) (by kernel_rfl) (by kernel_rfl) (fun _ _ _ h => h) (Or.inl ⟨by rfl, ?yc5⟩) (by assumption) ?_
  case yc5 => (intro wX hSw; (try dsimp only at hSw); go_simp <;> with_reducible rfl)
  try simp only [Act.put, List.setIfInBounds_toArray, List.set_cons_zero, List.set_cons_succ]
  refine wpAnyH_take (i := 6) (oi := { dst := some 87, op := Go.Op.load 23 (Go.Operand.tmp 4), type := 23, pos := "law.go:53", after := #[{ on := 5, ground := Go.Ground.guard }], guard := some (5, false) }) (v := undef) rfl (by kernel_rfl) (by kernel_rfl) (by kernel_rfl) (fun _ _ _ h => h) (Or.inr ⟨by rfl, rfl⟩) (by assumption) ?_
  try simp only [Act.put, List.setIfInBounds_toArray, List.set_cons_zero, List.set_cons_succ]
  refine wpAnyH_take (i := 7) (oi := { dst := some 88, op := Go.Op.call { callee := Go.Callee.value (Go.Operand.func 10), args := #[Go.Operand.tmp 87], argTypes := #[23] }, type := 4, pos := "law.go:53", after := #[{ on := 6, ground := Go.Ground.data }, { on := 5, ground := Go.Ground.chain }, { on := 5, ground := Go.Ground.guard }], guard := some (5, false) }) (v := undef) rfl (by kernel_rfl) (by kernel_rfl) (by kernel_rfl) (fun _ _ _ h => h) (Or.inr ⟨by rfl, rfl⟩) (by assumption) ?_
  try simp only [Act.put, List.setIfInBounds_toArray, List.set_cons_zero, List.set_cons_succ]
  refine wpAnyH_take (i := 8) (oi := { dst := some 89, op := Go.Op.unOp Go.UnOp.not 4 (Go.Operand.tmp 88), type := 4, pos := "law.go:53", after := #[{ on := 7, ground := Go.Ground.data }, { on := 5, ground := Go.Ground.guard }], guard := some (5, false) }) (v := undef) rfl (by kernel_rfl) (by kernel_rfl) (by kernel_rfl) (fun _ _ _ h => h) (Or.inr ⟨by rfl, rfl⟩) (by assumption) ?_
  try simp only [Act.put, List.setIfInBounds_toArray, List.set_cons_zero, List.set_cons_succ]
  refine wpAnyH_take (i := 9) (oi := { dst := some 90, op := Go.Op.pick (Go.Operand.tmp 86) (Go.Operand.const (Go.Value.bool true)) (Go.Operand.tmp 89), type := 4, pos := "law.go:53", after := #[{ on := 5, ground := Go.Ground.data }, { on := 8, ground := Go.Ground.data }, { on := 1, ground := Go.Ground.guard }], guard := some (1, true) }) (v := ?vc9) rfl (by kernel_rfl) (by kernel_rfl) (by kernel_rfl) (fun _ _ _ h => h) (Or.inl ⟨by rfl, ?yc9⟩) (by assumption) ?_
  case yc9 => (intro wX hSw; (try dsimp only at hSw); go_simp <;> with_reducible rfl)
  try simp only [Act.put, List.setIfInBounds_toArray, List.set_cons_zero, List.set_cons_succ]
  refine wpAnyH_take (i := 10) (oi := { dst := some 91, op := Go.Op.move (Go.Operand.tmp 90), type := 4, pos := "law.go:53", after := #[{ on := 9, ground := Go.Ground.data }, { on := 7, ground := Go.Ground.chain }, { on := 1, ground := Go.Ground.guard }], guard := some (1, true) }) (v := ?vc10) rfl (by kernel_rfl) (by kernel_rfl) (by kernel_rfl) (fun _ _ _ h => h) (Or.inl ⟨by rfl, ?yc10⟩) (by assumption) ?_
  case yc10 => (intro wX hSw; (try dsimp only at hSw); go_simp <;> with_reducible rfl)
  try simp only [Act.put, List.setIfInBounds_toArray, List.set_cons_zero, List.set_cons_succ]
  refine wpAnyH_take (i := 11) (oi := { dst := some 92, op := Go.Op.load 23 (Go.Operand.tmp 3), type := 23, pos := "law.go:53", after := #[{ on := 10, ground := Go.Ground.guard }], guard := some (10, false) }) (v := undef) rfl (by kernel_rfl) (by kernel_rfl) (by kernel_rfl) (fun _ _ _ h => h) (Or.inr ⟨by rfl, rfl⟩) (by assumption) ?_
  try simp only [Act.put, List.setIfInBounds_toArray, List.set_cons_zero, List.set_cons_succ]
  refine wpAnyH_take (i := 12) (oi := { dst := some 93, op := Go.Op.call { callee := Go.Callee.value (Go.Operand.func 9), args := #[Go.Operand.tmp 92], argTypes := #[23] }, type := 9, pos := "law.go:53", after := #[{ on := 11, ground := Go.Ground.data }, { on := 10, ground := Go.Ground.chain }, { on := 10, ground := Go.Ground.guard }], guard := some (10, false) }) (v := undef) rfl (by kernel_rfl) (by kernel_rfl) (by kernel_rfl) (fun _ _ _ h => h) (Or.inr ⟨by rfl, rfl⟩) (by assumption) ?_
  try simp only [Act.put, List.setIfInBounds_toArray, List.set_cons_zero, List.set_cons_succ]
  refine wpAnyH_take (i := 13) (oi := { dst := some 94, op := Go.Op.load 23 (Go.Operand.tmp 4), type := 23, pos := "law.go:53", after := #[{ on := 10, ground := Go.Ground.guard }], guard := some (10, false) }) (v := undef) rfl (by kernel_rfl) (by kernel_rfl) (by kernel_rfl) (fun _ _ _ h => h) (Or.inr ⟨by rfl, rfl⟩) (by assumption) ?_
  try simp only [Act.put, List.setIfInBounds_toArray, List.set_cons_zero, List.set_cons_succ]
  refine wpAnyH_take (i := 14) (oi := { dst := some 95, op := Go.Op.call { callee := Go.Callee.value (Go.Operand.func 9), args := #[Go.Operand.tmp 94], argTypes := #[23] }, type := 9, pos := "law.go:53", after := #[{ on := 13, ground := Go.Ground.data }, { on := 12, ground := Go.Ground.chain }, { on := 10, ground := Go.Ground.guard }], guard := some (10, false) }) (v := undef) rfl (by kernel_rfl) (by kernel_rfl) (by kernel_rfl) (fun _ _ _ h => h) (Or.inr ⟨by rfl, rfl⟩) (by assumption) ?_
  try simp only [Act.put, List.setIfInBounds_toArray, List.set_cons_zero, List.set_cons_succ]
  refine wpAnyH_take (i := 15) (oi := { dst := some 96, op := Go.Op.binOp Go.BinOp.eql 9 (Go.Operand.tmp 93) (Go.Operand.tmp 95) 9, type := 4, pos := "law.go:53", after := #[{ on := 12, ground := Go.Ground.data }, { on := 14, ground := Go.Ground.data }, { on := 10, ground := Go.Ground.guard }], guard := some (10, false) }) (v := undef) rfl (by kernel_rfl) (by kernel_rfl) (by kernel_rfl) (fun _ _ _ h => h) (Or.inr ⟨by rfl, rfl⟩) (by assumption) ?_
  try simp only [Act.put, List.setIfInBounds_toArray, List.set_cons_zero, List.set_cons_succ]
  refine wpAnyH_take (i := 16) (oi := { dst := some 97, op := Go.Op.load 23 (Go.Operand.tmp 3), type := 23, pos := "law.go:53", after := #[{ on := 10, ground := Go.Ground.guard }], guard := some (10, false) }) (v := undef) rfl (by kernel_rfl) (by kernel_rfl) (by kernel_rfl) (fun _ _ _ h => h) (Or.inr ⟨by rfl, rfl⟩) (by assumption) ?_
  try simp only [Act.put, List.setIfInBounds_toArray, List.set_cons_zero, List.set_cons_succ]
  refine wpAnyH_take (i := 17) (oi := { dst := some 98, op := Go.Op.load 23 (Go.Operand.tmp 4), type := 23, pos := "law.go:53", after := #[{ on := 10, ground := Go.Ground.guard }], guard := some (10, false) }) (v := undef) rfl (by kernel_rfl) (by kernel_rfl) (by kernel_rfl) (fun _ _ _ h => h) (Or.inr ⟨by rfl, rfl⟩) (by assumption) ?_
  try simp only [Act.put, List.setIfInBounds_toArray, List.set_cons_zero, List.set_cons_succ]
  refine wpAnyH_take (i := 18) (oi := { dst := some 99, op := Go.Op.binOp Go.BinOp.eql 23 (Go.Operand.tmp 97) (Go.Operand.tmp 98) 23, type := 4, pos := "law.go:53", after := #[{ on := 16, ground := Go.Ground.data }, { on := 17, ground := Go.Ground.data }, { on := 10, ground := Go.Ground.guard }], guard := some (10, false) }) (v := undef) rfl (by kernel_rfl) (by kernel_rfl) (by kernel_rfl) (fun _ _ _ h => h) (Or.inr ⟨by rfl, rfl⟩) (by assumption) ?_
  try simp only [Act.put, List.setIfInBounds_toArray, List.set_cons_zero, List.set_cons_succ]
  refine wpAnyH_take (i := 19) (oi := { dst := some 100, op := Go.Op.binOp Go.BinOp.eql 4 (Go.Operand.tmp 96) (Go.Operand.tmp 99) 4, type := 4, pos := "law.go:53", after := #[{ on := 15, ground := Go.Ground.data }, { on := 18, ground := Go.Ground.data }, { on := 10, ground := Go.Ground.guard }], guard := some (10, false) }) (v := undef) rfl (by kernel_rfl) (by kernel_rfl) (by kernel_rfl) (fun _ _ _ h => h) (Or.inr ⟨by rfl, rfl⟩) (by assumption) ?_
  try simp only [Act.put, List.setIfInBounds_toArray, List.set_cons_zero, List.set_cons_succ]
  refine wpAnyH_take (i := 20) (oi := { dst := some 101, op := Go.Op.pick (Go.Operand.tmp 91) (Go.Operand.const (Go.Value.bool true)) (Go.Operand.tmp 100), type := 4, pos := "law.go:53", after := #[{ on := 10, ground := Go.Ground.data }, { on := 19, ground := Go.Ground.data }, { on := 1, ground := Go.Ground.guard }], guard := some (1, true) }) (v := ?vc20) rfl (by kernel_rfl) (by kernel_rfl) (by kernel_rfl) (fun _ _ _ h => h) (Or.inl ⟨by rfl, ?yc20⟩) (by assumption) ?_
  case yc20 => (intro wX hSw; (try dsimp only at hSw); go_simp <;> with_reducible rfl)
  try simp only [Act.put, List.setIfInBounds_toArray, List.set_cons_zero, List.set_cons_succ]
  refine wpAnyH_take (i := 21) (oi := { dst := some 102, op := Go.Op.pick (Go.Operand.tmp 82) (Go.Operand.tmp 101) (Go.Operand.const (Go.Value.bool false)), type := 4, pos := "law.go:53", after := #[{ on := 1, ground := Go.Ground.data }, { on := 20, ground := Go.Ground.data }], guard := none }) (v := ?vc21) rfl (by kernel_rfl) (by kernel_rfl) (by kernel_rfl) (fun _ _ _ h => h) (Or.inl ⟨by rfl, ?yc21⟩) (by assumption) ?_
  case yc21 => (intro wX hSw; (try dsimp only at hSw); go_simp <;> with_reducible rfl)
  try simp only [Act.put, List.setIfInBounds_toArray, List.set_cons_zero, List.set_cons_succ]
  refine wpAnyH_take (i := 22) (oi := { dst := some 6, op := Go.Op.assign (Go.Operand.tmp 102), type := 4, pos := "law.go:53", after := #[{ on := 21, ground := Go.Ground.data }, { on := 14, ground := Go.Ground.chain }, { on := 0, ground := Go.Ground.phase }, { on := 1, ground := Go.Ground.phase }, { on := 2, ground := Go.Ground.phase }, { on := 3, ground := Go.Ground.phase }, { on := 4, ground := Go.Ground.phase }, { on := 5, ground := Go.Ground.phase }, { on := 6, ground := Go.Ground.phase }, { on := 7, ground := Go.Ground.phase }, { on := 8, ground := Go.Ground.phase }, { on := 9, ground := Go.Ground.phase }, { on := 10, ground := Go.Ground.phase }, { on := 11, ground := Go.Ground.phase }, { on := 12, ground := Go.Ground.phase }, { on := 13, ground := Go.Ground.phase }, { on := 14, ground := Go.Ground.phase }, { on := 15, ground := Go.Ground.phase }, { on := 16, ground := Go.Ground.phase }, { on := 17, ground := Go.Ground.phase }, { on := 18, ground := Go.Ground.phase }, { on := 19, ground := Go.Ground.phase }, { on := 20, ground := Go.Ground.phase }, { on := 21, ground := Go.Ground.phase }], guard := none }) (v := ?vc22) rfl (by kernel_rfl) (by kernel_rfl) (by kernel_rfl) (fun _ _ _ h => h) (Or.inl ⟨by rfl, ?yc22⟩) (by assumption) ?_
  case yc22 => (intro wX hSw; (try dsimp only at hSw); go_simp <;> with_reducible rfl)
  try simp only [Act.put, List.setIfInBounds_toArray, List.set_cons_zero, List.set_cons_succ]
  refine wpAnyH_done (by kernel_rfl) ?_ _
  go_wp2
  go_ret
  exact ⟨rfl, HB.out.trans (hHeld.1.mono HB.out.size)⟩
set_option maxRecDepth 100000 in
set_option maxHeartbeats 40000000 in
theorem reads_00n (m n : Mk) (s : List UInt8) (w : World) (l1 : s.length ≤ 200) (l2 : m.id.length ≤ 200) (l3 : n.id.length ≤ 200) (hm : rightB m = false) (hn : rightB n = false) (hy : readM s = none) :
    Calls Try.prog 3 #[.agg (cellsM m), .agg (cellsM n), .string (bs s)] w (BoolPost w true) := by
  have cs := fun W => small_any W
  have cbm := fun W => bytes_any m W
  have crm := fun W => right_any m W
  have cxr := fun W => read_any (bytesM m) W (by have := bytes_len m; omega)
  have cyr := fun W => read_any s W (by omega)
  have cbn := fun W => bytes_any n W
  have crn := fun W => right_any n W
  rw [hm] at crm
  rw [hn] at crn
  unfold ReadP at cxr cyr
  rw [hy] at cyr
  rw [bytes_bad hm, read_nil] at cxr
  rw [bytes_bad hm] at cbm
  have hnil : bs [] = ⟨#[]⟩ := rfl
  have ts := bs_toList s
  have ss := bs_size s
  have sm := bs_size m.id
  have sn := bs_size n.id
  have d1 : decide (200 < (s.length : Int)) = false := decide_eq_false (by omega)
  have d2 : decide (200 < (m.id.length : Int)) = false := decide_eq_false (by omega)
  have d3 : decide (200 < (n.id.length : Int)) = false := decide_eq_false (by omega)
  have tss : (s == s) = true := by simp
  have qz : ∀ W, (binOp .neq 23 (.agg #[.int .i64 0, .int .i64 0, .int .i64 0, .string ⟨#[]⟩, .bool false]) (.agg #[.int .i64 0, .int .i64 0, .int .i64 0, .string ⟨#[]⟩, .bool false])).run Try.prog W = .ok (.bool false) W := fun W => by
    have := neq_marks zeroM zeroM W
    rw [decide_eq_true rfl] at this
    exact this
  have g3 := heap_alloc_new w (.cells (cellsM m) 23)
  have g4 := heap_alloc_new (w.alloc (.cells (cellsM m) 23)) (.cells (cellsM n) 23)
  rw [World.size_alloc] at g4
  have g3' := (Below.heap_alloc _ (.cells (cellsM n) 23) _ (lt_of_heap g3)).trans g3
  have hB0 := ((Below.refl w.heap.size w).alloc (Nat.le_refl _) (.cells (cellsM m) 23)).alloc (by simp) (.cells (cellsM n) 23)
  have M3 := Lib.hid g3'
  have M4 := Lib.hid g4
  have HB := Lib.hid hB0
  have q3 : ((w.alloc (.cells (cellsM m) 23)).alloc (.cells (cellsM n) 23)).cell? ⟨w.heap.size, 3, none⟩ = some (.string (bs m.id)) := (fiveM g3').2.2.2.1
  have q4 : ((w.alloc (.cells (cellsM m) 23)).alloc (.cells (cellsM n) 23)).cell? ⟨w.heap.size + 1, 3, none⟩ = some (.string (bs n.id)) := (fiveM g4).2.2.2.1
  clear g3 g4 g3' hB0 hm hn hy l1 l2 l3
  unfold StrPost at cbm cbn
  simp only [Option.getD_some, Option.getD_none, Option.isSome_some, Option.isSome_none] at cxr cyr
  rw [hnil] at cbm cxr
  have hzc : cellsM zeroM = #[.int .i64 0, .int .i64 0, .int .i64 0, .string ⟨#[]⟩, .bool false] := rfl
  try rw [hzc] at cxr
  try rw [hzc] at cyr
  simp only [cellsM] at cbm crm cxr cyr q3 q4 cbn crn
  simp only [cellsM]
  go_enter Try.func3, Try.ntmps3
  go_wp2_with fail
  (with_reducible refine Calls.mono (cs _) ?_)
  rintro e w1 ⟨rfl, hbx⟩
  replace M3 := Lib.hid (keep_blkP hbx M3.out)
  replace M4 := Lib.hid (keep_blkP hbx M4.out)
  replace HB := Lib.hid (HB.out.trans (hbx.mono HB.out.size))
  clear hbx q3 q4 cs
  obtain ⟨pM30, pM31, pM32, pM33, pM34⟩ : (w1.cell? ⟨w.heap.size, 0, none⟩ = some (.int .i64 m.now) ∧ w1.cell? ⟨w.heap.size, 1, none⟩ = some (.int .i64 m.score) ∧ w1.cell? ⟨w.heap.size, 2, none⟩ = some (.int .i64 m.time) ∧ w1.cell? ⟨w.heap.size, 3, none⟩ = some (.string (bs m.id)) ∧ w1.cell? ⟨w.heap.size, 4, none⟩ = some (.bool m.beg)) := fiveM (k := m) M3.out
  obtain ⟨pM40, pM41, pM42, pM43, pM44⟩ : (w1.cell? ⟨w.heap.size + 1, 0, none⟩ = some (.int .i64 n.now) ∧ w1.cell? ⟨w.heap.size + 1, 1, none⟩ = some (.int .i64 n.score) ∧ w1.cell? ⟨w.heap.size + 1, 2, none⟩ = some (.int .i64 n.time) ∧ w1.cell? ⟨w.heap.size + 1, 3, none⟩ = some (.string (bs n.id)) ∧ w1.cell? ⟨w.heap.size + 1, 4, none⟩ = some (.bool n.beg)) := fiveM (k := n) M4.out
  go_wp2_with fail
  (with_reducible refine Calls.mono (cbm _) ?_)
  rintro e w2 ⟨rfl, hbx⟩
  clear pM30 pM31 pM32 pM33 pM34 pM40 pM41 pM42 pM43 pM44
  replace M3 := Lib.hid (keep_blkP hbx M3.out)
  replace M4 := Lib.hid (keep_blkP hbx M4.out)
  replace HB := Lib.hid (HB.out.trans (hbx.mono HB.out.size))
  clear hbx
  obtain ⟨pM30, pM31, pM32, pM33, pM34⟩ : (w2.cell? ⟨w.heap.size, 0, none⟩ = some (.int .i64 m.now) ∧ w2.cell? ⟨w.heap.size, 1, none⟩ = some (.int .i64 m.score) ∧ w2.cell? ⟨w.heap.size, 2, none⟩ = some (.int .i64 m.time) ∧ w2.cell? ⟨w.heap.size, 3, none⟩ = some (.string (bs m.id)) ∧ w2.cell? ⟨w.heap.size, 4, none⟩ = some (.bool m.beg)) := fiveM (k := m) M3.out
  obtain ⟨pM40, pM41, pM42, pM43, pM44⟩ : (w2.cell? ⟨w.heap.size + 1, 0, none⟩ = some (.int .i64 n.now) ∧ w2.cell? ⟨w.heap.size + 1, 1, none⟩ = some (.int .i64 n.score) ∧ w2.cell? ⟨w.heap.size + 1, 2, none⟩ = some (.int .i64 n.time) ∧ w2.cell? ⟨w.heap.size + 1, 3, none⟩ = some (.string (bs n.id)) ∧ w2.cell? ⟨w.heap.size + 1, 4, none⟩ = some (.bool n.beg)) := fiveM (k := n) M4.out
  go_wp2_with fail
  (with_reducible refine Calls.mono (cxr _) ?_)
  rintro e w3 ⟨rfl, hbx⟩
  clear pM30 pM31 pM32 pM33 pM34 pM40 pM41 pM42 pM43 pM44
  replace M3 := Lib.hid (keep_blkP hbx M3.out)
  replace M4 := Lib.hid (keep_blkP hbx M4.out)
  replace HB := Lib.hid (HB.out.trans (hbx.mono HB.out.size))
  clear hbx cxr
  have M8 := Lib.hid (heap_alloc_new w3 (.cells #[.int .i64 0, .int .i64 0, .int .i64 0, .string ⟨#[]⟩, .bool false] 23))
  replace M3 := Lib.hid ((Below.heap_alloc _ (.cells #[.int .i64 0, .int .i64 0, .int .i64 0, .string ⟨#[]⟩, .bool false] 23) _ (lt_of_heap M3.out)).trans M3.out)
  replace M4 := Lib.hid ((Below.heap_alloc _ (.cells #[.int .i64 0, .int .i64 0, .int .i64 0, .string ⟨#[]⟩, .bool false] 23) _ (lt_of_heap M4.out)).trans M4.out)
  replace HB := Lib.hid (HB.out.alloc HB.out.size (.cells #[.int .i64 0, .int .i64 0, .int .i64 0, .string ⟨#[]⟩, .bool false] 23))
  obtain ⟨pM30, pM31, pM32, pM33, pM34⟩ : ((w3.alloc (.cells #[.int .i64 0, .int .i64 0, .int .i64 0, .string ⟨#[]⟩, .bool false] 23)).cell? ⟨w.heap.size, 0, none⟩ = some (.int .i64 m.now) ∧ (w3.alloc (.cells #[.int .i64 0, .int .i64 0, .int .i64 0, .string ⟨#[]⟩, .bool false] 23)).cell? ⟨w.heap.size, 1, none⟩ = some (.int .i64 m.score) ∧ (w3.alloc (.cells #[.int .i64 0, .int .i64 0, .int .i64 0, .string ⟨#[]⟩, .bool false] 23)).cell? ⟨w.heap.size, 2, none⟩ = some (.int .i64 m.time) ∧ (w3.alloc (.cells #[.int .i64 0, .int .i64 0, .int .i64 0, .string ⟨#[]⟩, .bool false] 23)).cell? ⟨w.heap.size, 3, none⟩ = some (.string (bs m.id)) ∧ (w3.alloc (.cells #[.int .i64 0, .int .i64 0, .int .i64 0, .string ⟨#[]⟩, .bool false] 23)).cell? ⟨w.heap.size, 4, none⟩ = some (.bool m.beg)) := fiveM (k := m) M3.out
  obtain ⟨pM40, pM41, pM42, pM43, pM44⟩ : ((w3.alloc (.cells #[.int .i64 0, .int .i64 0, .int .i64 0, .string ⟨#[]⟩, .bool false] 23)).cell? ⟨w.heap.size + 1, 0, none⟩ = some (.int .i64 n.now) ∧ (w3.alloc (.cells #[.int .i64 0, .int .i64 0, .int .i64 0, .string ⟨#[]⟩, .bool false] 23)).cell? ⟨w.heap.size + 1, 1, none⟩ = some (.int .i64 n.score) ∧ (w3.alloc (.cells #[.int .i64 0, .int .i64 0, .int .i64 0, .string ⟨#[]⟩, .bool false] 23)).cell? ⟨w.heap.size + 1, 2, none⟩ = some (.int .i64 n.time) ∧ (w3.alloc (.cells #[.int .i64 0, .int .i64 0, .int .i64 0, .string ⟨#[]⟩, .bool false] 23)).cell? ⟨w.heap.size + 1, 3, none⟩ = some (.string (bs n.id)) ∧ (w3.alloc (.cells #[.int .i64 0, .int .i64 0, .int .i64 0, .string ⟨#[]⟩, .bool false] 23)).cell? ⟨w.heap.size + 1, 4, none⟩ = some (.bool n.beg)) := fiveM (k := n) M4.out
  obtain ⟨pM80, pM81, pM82, pM83, pM84⟩ : ((w3.alloc (.cells #[.int .i64 0, .int .i64 0, .int .i64 0, .string ⟨#[]⟩, .bool false] 23)).cell? ⟨w3.heap.size, 0, none⟩ = some (.int .i64 0) ∧ (w3.alloc (.cells #[.int .i64 0, .int .i64 0, .int .i64 0, .string ⟨#[]⟩, .bool false] 23)).cell? ⟨w3.heap.size, 1, none⟩ = some (.int .i64 0) ∧ (w3.alloc (.cells #[.int .i64 0, .int .i64 0, .int .i64 0, .string ⟨#[]⟩, .bool false] 23)).cell? ⟨w3.heap.size, 2, none⟩ = some (.int .i64 0) ∧ (w3.alloc (.cells #[.int .i64 0, .int .i64 0, .int .i64 0, .string ⟨#[]⟩, .bool false] 23)).cell? ⟨w3.heap.size, 3, none⟩ = some (.string ⟨#[]⟩) ∧ (w3.alloc (.cells #[.int .i64 0, .int .i64 0, .int .i64 0, .string ⟨#[]⟩, .bool false] 23)).cell? ⟨w3.heap.size, 4, none⟩ = some (.bool false)) := fiveM (k := zeroM) M8.out
  go_wp2_with fail
  (with_reducible refine Calls.mono (cyr _) ?_)
  rintro e w4 ⟨rfl, hbx⟩
  clear pM30 pM31 pM32 pM33 pM34 pM40 pM41 pM42 pM43 pM44 pM80 pM81 pM82 pM83 pM84
  replace M3 := Lib.hid (keep_blkP hbx M3.out)
  replace M4 := Lib.hid (keep_blkP hbx M4.out)
  replace M8 := Lib.hid (keep_blkP hbx M8.out)
  replace HB := Lib.hid (HB.out.trans (hbx.mono HB.out.size))
  clear hbx cyr
  have M10 := Lib.hid (heap_alloc_new w4 (.cells #[.int .i64 0, .int .i64 0, .int .i64 0, .string ⟨#[]⟩, .bool false] 23))
  replace M3 := Lib.hid ((Below.heap_alloc _ (.cells #[.int .i64 0, .int .i64 0, .int .i64 0, .string ⟨#[]⟩, .bool false] 23) _ (lt_of_heap M3.out)).trans M3.out)
  replace M4 := Lib.hid ((Below.heap_alloc _ (.cells #[.int .i64 0, .int .i64 0, .int .i64 0, .string ⟨#[]⟩, .bool false] 23) _ (lt_of_heap M4.out)).trans M4.out)
  replace M8 := Lib.hid ((Below.heap_alloc _ (.cells #[.int .i64 0, .int .i64 0, .int .i64 0, .string ⟨#[]⟩, .bool false] 23) _ (lt_of_heap M8.out)).trans M8.out)
  replace HB := Lib.hid (HB.out.alloc HB.out.size (.cells #[.int .i64 0, .int .i64 0, .int .i64 0, .string ⟨#[]⟩, .bool false] 23))
  obtain ⟨wz, hwz⟩ : ∃ wz, wz = (w4.alloc (.cells #[.int .i64 0, .int .i64 0, .int .i64 0, .string ⟨#[]⟩, .bool false] 23)) := ⟨_, rfl⟩
  rw [← hwz] at HB M3 M4 M8 M10
  have FF : Hid (∀ W, Below wz.heap.size wz W → (W.cell? ⟨w.heap.size, 0, none⟩ = some (.int .i64 m.now) ∧ W.cell? ⟨w.heap.size, 1, none⟩ = some (.int .i64 m.score) ∧ W.cell? ⟨w.heap.size, 2, none⟩ = some (.int .i64 m.time) ∧ W.cell? ⟨w.heap.size, 3, none⟩ = some (.string (bs m.id)) ∧ W.cell? ⟨w.heap.size, 4, none⟩ = some (.bool m.beg)) ∧ (W.cell? ⟨w.heap.size + 1, 0, none⟩ = some (.int .i64 n.now) ∧ W.cell? ⟨w.heap.size + 1, 1, none⟩ = some (.int .i64 n.score) ∧ W.cell? ⟨w.heap.size + 1, 2, none⟩ = some (.int .i64 n.time) ∧ W.cell? ⟨w.heap.size + 1, 3, none⟩ = some (.string (bs n.id)) ∧ W.cell? ⟨w.heap.size + 1, 4, none⟩ = some (.bool n.beg)) ∧ (W.cell? ⟨w3.heap.size, 0, none⟩ = some (.int .i64 0) ∧ W.cell? ⟨w3.heap.size, 1, none⟩ = some (.int .i64 0) ∧ W.cell? ⟨w3.heap.size, 2, none⟩ = some (.int .i64 0) ∧ W.cell? ⟨w3.heap.size, 3, none⟩ = some (.string ⟨#[]⟩) ∧ W.cell? ⟨w3.heap.size, 4, none⟩ = some (.bool false)) ∧ (W.cell? ⟨w4.heap.size, 0, none⟩ = some (.int .i64 0) ∧ W.cell? ⟨w4.heap.size, 1, none⟩ = some (.int .i64 0) ∧ W.cell? ⟨w4.heap.size, 2, none⟩ = some (.int .i64 0) ∧ W.cell? ⟨w4.heap.size, 3, none⟩ = some (.string ⟨#[]⟩) ∧ W.cell? ⟨w4.heap.size, 4, none⟩ = some (.bool false))) := fun W hW =>
    ⟨fiveM (k := m) (keep_blkP hW M3.out), fiveM (k := n) (keep_blkP hW M4.out), fiveM (k := zeroM) (keep_blkP hW M8.out), fiveM (k := zeroM) (keep_blkP hW M10.out)⟩
  clear M3 M4 M8 M10
  go_wp2_with fail
  rw [← hwz]
  clear hwz
  generalize w3.heap.size = b3 at *
  generalize w4.heap.size = b4 at *
  have gx := FF.out _ (Below.refl wz.heap.size wz).drew
  refine wp_region_held_drew (S := (fun W => Below wz.heap.size wz W ∧ (W.cell? ⟨w.heap.size, 0, none⟩ = some (.int .i64 m.now) ∧ W.cell? ⟨w.heap.size, 1, none⟩ = some (.int .i64 m.score) ∧ W.cell? ⟨w.heap.size, 2, none⟩ = some (.int .i64 m.time) ∧ W.cell? ⟨w.heap.size, 3, none⟩ = some (.string (bs m.id)) ∧ W.cell? ⟨w.heap.size, 4, none⟩ = some (.bool m.beg)) ∧ (W.cell? ⟨w.heap.size + 1, 0, none⟩ = some (.int .i64 n.now) ∧ W.cell? ⟨w.heap.size + 1, 1, none⟩ = some (.int .i64 n.score) ∧ W.cell? ⟨w.heap.size + 1, 2, none⟩ = some (.int .i64 n.time) ∧ W.cell? ⟨w.heap.size + 1, 3, none⟩ = some (.string (bs n.id)) ∧ W.cell? ⟨w.heap.size + 1, 4, none⟩ = some (.bool n.beg)) ∧ (W.cell? ⟨b3, 0, none⟩ = some (.int .i64 0) ∧ W.cell? ⟨b3, 1, none⟩ = some (.int .i64 0) ∧ W.cell? ⟨b3, 2, none⟩ = some (.int .i64 0) ∧ W.cell? ⟨b3, 3, none⟩ = some (.string ⟨#[]⟩) ∧ W.cell? ⟨b3, 4, none⟩ = some (.bool false)) ∧ (W.cell? ⟨b4, 0, none⟩ = some (.int .i64 0) ∧ W.cell? ⟨b4, 1, none⟩ = some (.int .i64 0) ∧ W.cell? ⟨b4, 2, none⟩ = some (.int .i64 0) ∧ W.cell? ⟨b4, 3, none⟩ = some (.string ⟨#[]⟩) ∧ W.cell? ⟨b4, 4, none⟩ = some (.bool false)))) (by kernel_rfl) (⟨(Below.refl _ _).drew, FF.out _ (Below.refl _ _).drew⟩) (fun hHeld => ?_)
  refine wpAnyH_take (i := 0) (oi := { dst := some 40, op := Go.Op.move (Go.Operand.tmp 9), type := 4, pos := "law.go:47", after := #[], guard := none }) (v := ?va0) rfl (by kernel_rfl) (by kernel_rfl) (by kernel_rfl) (fun _ _ _ h => h) (Or.inl ⟨by rfl, ?ya0⟩) (by assumption) ?_
  case ya0 => (intro wX hSw; (try dsimp only at hSw); go_simp <;> with_reducible rfl)
  try simp only [Act.put, List.setIfInBounds_toArray, List.set_cons_zero, List.set_cons_succ]
  refine wpAnyH_take (i := 1) (oi := { dst := some 41, op := Go.Op.load 23 (Go.Operand.tmp 3), type := 23, pos := "law.go:47", after := #[], guard := none }) (v := ?va1) rfl (by kernel_rfl) (by kernel_rfl) (by kernel_rfl) (fun _ _ _ h => h) (Or.inl ⟨by rfl, ?ya1⟩) (by assumption) ?_
  case ya1 => (intro wX hSw; (try dsimp only at hSw); go_simp <;> with_reducible rfl)
  try simp only [Act.put, List.setIfInBounds_toArray, List.set_cons_zero, List.set_cons_succ]
  refine wpAnyH_ready (rs := [2]) (by kernel_rfl) (by simp) (AllReadyH.cons (o := { dst := some 42, op := Go.Op.call { callee := Go.Callee.value (Go.Operand.func 10), args := #[Go.Operand.tmp 41], argTypes := #[23] }, type := 4, pos := "law.go:47", after := #[{ on := 1, ground := Go.Ground.data }], guard := none }) rfl (fun K hK => ?_) AllReadyH.nil)
  (go_simp; go_at_call 10; refine (crm _).mono ?_; rintro e wc0 ⟨rfl, hbc0⟩)
  refine hK.out _ _ (⟨((Below.refl wz.heap.size wz).drew).trans (hbc0.mono ((Below.refl wz.heap.size wz).drew).size), FF.out _ (((Below.refl wz.heap.size wz).drew).trans (hbc0.mono ((Below.refl wz.heap.size wz).drew).size))⟩) (fun hHeld => ?_)
  clear hK K
  try simp only [Act.put, List.setIfInBounds_toArray, List.set_cons_zero, List.set_cons_succ]
  refine wpAnyH_take (i := 3) (oi := { dst := some 43, op := Go.Op.binOp Go.BinOp.neq 4 (Go.Operand.tmp 40) (Go.Operand.tmp 42) 4, type := 4, pos := "law.go:47", after := #[{ on := 0, ground := Go.Ground.data }, { on := 2, ground := Go.Ground.data }], guard := none }) (v := ?va3) rfl (by kernel_rfl) (by kernel_rfl) (by kernel_rfl) (fun _ _ _ h => h) (Or.inl ⟨by rfl, ?ya3⟩) (by assumption) ?_
  case ya3 => (intro wX hSw; (try dsimp only at hSw); go_simp <;> with_reducible rfl)
  try simp only [Act.put, List.setIfInBounds_toArray, List.set_cons_zero, List.set_cons_succ]
  refine wpAnyH_take (i := 4) (oi := { dst := some 44, op := Go.Op.move (Go.Operand.tmp 43), type := 4, pos := "law.go:47", after := #[{ on := 3, ground := Go.Ground.data }, { on := 2, ground := Go.Ground.chain }], guard := none }) (v := ?va4) rfl (by kernel_rfl) (by kernel_rfl) (by kernel_rfl) (fun _ _ _ h => h) (Or.inl ⟨by rfl, ?ya4⟩) (by assumption) ?_
  case ya4 => (intro wX hSw; (try dsimp only at hSw); go_simp <;> with_reducible rfl)
  try simp only [Act.put, List.setIfInBounds_toArray, List.set_cons_zero, List.set_cons_succ]
  refine wpAnyH_take (i := 5) (oi := { dst := some 45, op := Go.Op.move (Go.Operand.tmp 9), type := 4, pos := "law.go:47", after := #[{ on := 4, ground := Go.Ground.guard }], guard := some (4, false) }) (v := ?va5) rfl (by kernel_rfl) (by kernel_rfl) (by kernel_rfl) (fun _ _ _ h => h) (Or.inl ⟨by rfl, ?ya5⟩) (by assumption) ?_
  case ya5 => (intro wX hSw; (try dsimp only at hSw); go_simp <;> with_reducible rfl)
  try simp only [Act.put, List.setIfInBounds_toArray, List.set_cons_zero, List.set_cons_succ]
  refine wpAnyH_take (i := 6) (oi := { dst := some 46, op := Go.Op.move (Go.Operand.tmp 45), type := 4, pos := "law.go:47", after := #[{ on := 5, ground := Go.Ground.data }, { on := 4, ground := Go.Ground.chain }, { on := 4, ground := Go.Ground.guard }], guard := some (4, false) }) (v := ?va6) rfl (by kernel_rfl) (by kernel_rfl) (by kernel_rfl) (fun _ _ _ h => h) (Or.inl ⟨by rfl, ?ya6⟩) (by assumption) ?_
  case ya6 => (intro wX hSw; (try dsimp only at hSw); go_simp <;> with_reducible rfl)
  try simp only [Act.put, List.setIfInBounds_toArray, List.set_cons_zero, List.set_cons_succ]
  refine wpAnyH_take (i := 7) (oi := { dst := some 47, op := Go.Op.load 23 (Go.Operand.tmp 8), type := 23, pos := "law.go:47", after := #[{ on := 6, ground := Go.Ground.guard }], guard := some (6, true) }) (v := undef) rfl (by kernel_rfl) (by kernel_rfl) (by kernel_rfl) (fun _ _ _ h => h) (Or.inr ⟨by rfl, rfl⟩) (by assumption) ?_
  try simp only [Act.put, List.setIfInBounds_toArray, List.set_cons_zero, List.set_cons_succ]
  refine wpAnyH_take (i := 8) (oi := { dst := some 48, op := Go.Op.load 23 (Go.Operand.tmp 3), type := 23, pos := "law.go:47", after := #[{ on := 6, ground := Go.Ground.guard }], guard := some (6, true) }) (v := undef) rfl (by kernel_rfl) (by kernel_rfl) (by kernel_rfl) (fun _ _ _ h => h) (Or.inr ⟨by rfl, rfl⟩) (by assumption) ?_
  try simp only [Act.put, List.setIfInBounds_toArray, List.set_cons_zero, List.set_cons_succ]
  refine wpAnyH_take (i := 9) (oi := { dst := some 49, op := Go.Op.binOp Go.BinOp.neq 23 (Go.Operand.tmp 47) (Go.Operand.tmp 48) 23, type := 4, pos := "law.go:47", after := #[{ on := 7, ground := Go.Ground.data }, { on := 8, ground := Go.Ground.data }, { on := 6, ground := Go.Ground.guard }], guard := some (6, true) }) (v := undef) rfl (by kernel_rfl) (by kernel_rfl) (by kernel_rfl) (fun _ _ _ h => h) (Or.inr ⟨by rfl, rfl⟩) (by assumption) ?_
  try simp only [Act.put, List.setIfInBounds_toArray, List.set_cons_zero, List.set_cons_succ]
  refine wpAnyH_take (i := 10) (oi := { dst := some 50, op := Go.Op.pick (Go.Operand.tmp 46) (Go.Operand.tmp 49) (Go.Operand.const (Go.Value.bool false)), type := 4, pos := "law.go:47", after := #[{ on := 6, ground := Go.Ground.data }, { on := 9, ground := Go.Ground.data }, { on := 4, ground := Go.Ground.guard }], guard := some (4, false) }) (v := ?va10) rfl (by kernel_rfl) (by kernel_rfl) (by kernel_rfl) (fun _ _ _ h => h) (Or.inl ⟨by rfl, ?ya10⟩) (by assumption) ?_
  case ya10 => (intro wX hSw; (try dsimp only at hSw); go_simp <;> with_reducible rfl)
  try simp only [Act.put, List.setIfInBounds_toArray, List.set_cons_zero, List.set_cons_succ]
  refine wpAnyH_take (i := 11) (oi := { dst := some 51, op := Go.Op.pick (Go.Operand.tmp 44) (Go.Operand.const (Go.Value.bool true)) (Go.Operand.tmp 50), type := 4, pos := "law.go:47", after := #[{ on := 4, ground := Go.Ground.data }, { on := 10, ground := Go.Ground.data }], guard := none }) (v := ?va11) rfl (by kernel_rfl) (by kernel_rfl) (by kernel_rfl) (fun _ _ _ h => h) (Or.inl ⟨by rfl, ?ya11⟩) (by assumption) ?_
  case ya11 => (intro wX hSw; (try dsimp only at hSw); go_simp <;> with_reducible rfl)
  try simp only [Act.put, List.setIfInBounds_toArray, List.set_cons_zero, List.set_cons_succ]
  refine wpAnyH_take (i := 12) (oi := { dst := some 52, op := Go.Op.move (Go.Operand.tmp 51), type := 4, pos := "law.go:47", after := #[{ on := 11, ground := Go.Ground.data }, { on := 6, ground := Go.Ground.chain }], guard := none }) (v := ?va12) rfl (by kernel_rfl) (by kernel_rfl) (by kernel_rfl) (fun _ _ _ h => h) (Or.inl ⟨by rfl, ?ya12⟩) (by assumption) ?_
  case ya12 => (intro wX hSw; (try dsimp only at hSw); go_simp <;> with_reducible rfl)
  try simp only [Act.put, List.setIfInBounds_toArray, List.set_cons_zero, List.set_cons_succ]
  refine wpAnyH_take (i := 13) (oi := { dst := some 53, op := Go.Op.load 23 (Go.Operand.tmp 3), type := 23, pos := "law.go:47", after := #[{ on := 12, ground := Go.Ground.guard }], guard := some (12, false) }) (v := ?va13) rfl (by kernel_rfl) (by kernel_rfl) (by kernel_rfl) (fun _ _ _ h => h) (Or.inl ⟨by rfl, ?ya13⟩) (by assumption) ?_
  case ya13 => (intro wX hSw; (try dsimp only at hSw); go_simp <;> with_reducible rfl)
  try simp only [Act.put, List.setIfInBounds_toArray, List.set_cons_zero, List.set_cons_succ]
  refine wpAnyH_take (i := 16) (oi := { dst := some 56, op := Go.Op.load 23 (Go.Operand.tmp 3), type := 23, pos := "law.go:47", after := #[{ on := 12, ground := Go.Ground.guard }], guard := some (12, false) }) (v := ?va16) rfl (by kernel_rfl) (by kernel_rfl) (by kernel_rfl) (fun _ _ _ h => h) (Or.inl ⟨by rfl, ?ya16⟩) (by assumption) ?_
  case ya16 => (intro wX hSw; (try dsimp only at hSw); go_simp <;> with_reducible rfl)
  try simp only [Act.put, List.setIfInBounds_toArray, List.set_cons_zero, List.set_cons_succ]
  refine wpAnyH_ready (rs := [14]) (by kernel_rfl) (by simp) (AllReadyH.cons (o := { dst := some 54, op := Go.Op.call { callee := Go.Callee.value (Go.Operand.func 9), args := #[Go.Operand.tmp 53], argTypes := #[23] }, type := 9, pos := "law.go:47", after := #[{ on := 13, ground := Go.Ground.data }, { on := 12, ground := Go.Ground.chain }, { on := 12, ground := Go.Ground.guard }], guard := some (12, false) }) rfl (fun K hK => ?_) AllReadyH.nil)
  (go_simp; go_at_call 9; refine (cbm _).mono ?_; rintro e wc1 ⟨rfl, hbc1⟩)
  refine hK.out _ _ (⟨(hHeld.1).trans (hbc1.mono (hHeld.1).size), FF.out _ ((hHeld.1).trans (hbc1.mono (hHeld.1).size))⟩) (fun hHeld => ?_)
  clear hK K
  try simp only [Act.put, List.setIfInBounds_toArray, List.set_cons_zero, List.set_cons_succ]
  refine wpAnyH_take (i := 15) (oi := { dst := some 55, op := Go.Op.binOp Go.BinOp.eql 9 (Go.Operand.tmp 54) (Go.Operand.const (Go.Value.string { data := #[] })) 9, type := 4, pos := "law.go:47", after := #[{ on := 14, ground := Go.Ground.data }, { on := 12, ground := Go.Ground.guard }], guard := some (12, false) }) (v := ?va15) rfl (by kernel_rfl) (by kernel_rfl) (by kernel_rfl) (fun _ _ _ h => h) (Or.inl ⟨by rfl, ?ya15⟩) (by assumption) ?_
  case ya15 => (intro wX hSw; (try dsimp only at hSw); go_simp <;> with_reducible rfl)
  try simp only [Act.put, List.setIfInBounds_toArray, List.set_cons_zero, List.set_cons_succ]
  refine wpAnyH_ready (rs := [17]) (by kernel_rfl) (by simp) (AllReadyH.cons (o := { dst := some 57, op := Go.Op.call { callee := Go.Callee.value (Go.Operand.func 10), args := #[Go.Operand.tmp 56], argTypes := #[23] }, type := 4, pos := "law.go:47", after := #[{ on := 16, ground := Go.Ground.data }, { on := 14, ground := Go.Ground.chain }, { on := 12, ground := Go.Ground.guard }], guard := some (12, false) }) rfl (fun K hK => ?_) AllReadyH.nil)
  (go_simp; go_at_call 10; refine (crm _).mono ?_; rintro e wc2 ⟨rfl, hbc2⟩)
  refine hK.out _ _ (⟨(hHeld.1).trans (hbc2.mono (hHeld.1).size), FF.out _ ((hHeld.1).trans (hbc2.mono (hHeld.1).size))⟩) (fun hHeld => ?_)
  clear hK K
  try simp only [Act.put, List.setIfInBounds_toArray, List.set_cons_zero, List.set_cons_succ]
  refine wpAnyH_take (i := 18) (oi := { dst := some 58, op := Go.Op.binOp Go.BinOp.eql 4 (Go.Operand.tmp 55) (Go.Operand.tmp 57) 4, type := 4, pos := "law.go:47", after := #[{ on := 15, ground := Go.Ground.data }, { on := 17, ground := Go.Ground.data }, { on := 12, ground := Go.Ground.guard }], guard := some (12, false) }) (v := ?va18) rfl (by kernel_rfl) (by kernel_rfl) (by kernel_rfl) (fun _ _ _ h => h) (Or.inl ⟨by rfl, ?ya18⟩) (by assumption) ?_
  case ya18 => (intro wX hSw; (try dsimp only at hSw); go_simp <;> with_reducible rfl)
  try simp only [Act.put, List.setIfInBounds_toArray, List.set_cons_zero, List.set_cons_succ]
  refine wpAnyH_take (i := 19) (oi := { dst := some 59, op := Go.Op.pick (Go.Operand.tmp 52) (Go.Operand.const (Go.Value.bool true)) (Go.Operand.tmp 58), type := 4, pos := "law.go:47", after := #[{ on := 12, ground := Go.Ground.data }, { on := 18, ground := Go.Ground.data }], guard := none }) (v := ?va19) rfl (by kernel_rfl) (by kernel_rfl) (by kernel_rfl) (fun _ _ _ h => h) (Or.inl ⟨by rfl, ?ya19⟩) (by assumption) ?_
  case ya19 => (intro wX hSw; (try dsimp only at hSw); go_simp <;> with_reducible rfl)
  try simp only [Act.put, List.setIfInBounds_toArray, List.set_cons_zero, List.set_cons_succ]
  refine wpAnyH_done (by kernel_rfl) ?_ _
  obtain ⟨hb6, hG6⟩ := hHeld
  have HB6 := Lib.hid hb6
  clear hb6 gx
  obtain ⟨⟨p0, p1, p2, p3, p4⟩, ⟨p5, p6, p7, p8, p9⟩, ⟨p10, p11, p12, p13, p14⟩, ⟨p15, p16, p17, p18, p19⟩⟩ := hG6
  go_wp2_with fail
  clear p0 p1 p2 p3 p4 p5 p6 p7 p8 p9 p10 p11 p12 p13 p14 p15 p16 p17 p18 p19
  have gx := FF.out _ (HB6.out).drew
  refine wp_region_held_drew (S := (fun W => Below wz.heap.size wz W ∧ (W.cell? ⟨w.heap.size, 0, none⟩ = some (.int .i64 m.now) ∧ W.cell? ⟨w.heap.size, 1, none⟩ = some (.int .i64 m.score) ∧ W.cell? ⟨w.heap.size, 2, none⟩ = some (.int .i64 m.time) ∧ W.cell? ⟨w.heap.size, 3, none⟩ = some (.string (bs m.id)) ∧ W.cell? ⟨w.heap.size, 4, none⟩ = some (.bool m.beg)) ∧ (W.cell? ⟨w.heap.size + 1, 0, none⟩ = some (.int .i64 n.now) ∧ W.cell? ⟨w.heap.size + 1, 1, none⟩ = some (.int .i64 n.score) ∧ W.cell? ⟨w.heap.size + 1, 2, none⟩ = some (.int .i64 n.time) ∧ W.cell? ⟨w.heap.size + 1, 3, none⟩ = some (.string (bs n.id)) ∧ W.cell? ⟨w.heap.size + 1, 4, none⟩ = some (.bool n.beg)) ∧ (W.cell? ⟨b3, 0, none⟩ = some (.int .i64 0) ∧ W.cell? ⟨b3, 1, none⟩ = some (.int .i64 0) ∧ W.cell? ⟨b3, 2, none⟩ = some (.int .i64 0) ∧ W.cell? ⟨b3, 3, none⟩ = some (.string ⟨#[]⟩) ∧ W.cell? ⟨b3, 4, none⟩ = some (.bool false)) ∧ (W.cell? ⟨b4, 0, none⟩ = some (.int .i64 0) ∧ W.cell? ⟨b4, 1, none⟩ = some (.int .i64 0) ∧ W.cell? ⟨b4, 2, none⟩ = some (.int .i64 0) ∧ W.cell? ⟨b4, 3, none⟩ = some (.string ⟨#[]⟩) ∧ W.cell? ⟨b4, 4, none⟩ = some (.bool false)))) (by kernel_rfl) (⟨(HB6.out).drew, FF.out _ (HB6.out).drew⟩) (fun hHeld => ?_)
  refine wpAnyH_take (i := 0) (oi := { dst := some 81, op := Go.Op.move (Go.Operand.tmp 7), type := 4, pos := "law.go:53", after := #[], guard := none }) (v := ?vc0) rfl (by kernel_rfl) (by kernel_rfl) (by kernel_rfl) (fun _ _ _ h => h) (Or.inl ⟨by rfl, ?yc0⟩) (by assumption) ?_
  case yc0 => (intro wX hSw; (try dsimp only at hSw); go_simp <;> with_reducible rfl)
  try simp only [Act.put, List.setIfInBounds_toArray, List.set_cons_zero, List.set_cons_succ]
  refine wpAnyH_take (i := 1) (oi := { dst := some 82, op := Go.Op.move (Go.Operand.tmp 81), type := 4, pos := "law.go:53", after := #[{ on := 0, ground := Go.Ground.data }], guard := none }) (v := ?vc1) rfl (by kernel_rfl) (by kernel_rfl) (by kernel_rfl) (fun _ _ _ h => h) (Or.inl ⟨by rfl, ?yc1⟩) (by assumption) ?_
  case yc1 => (intro wX hSw; (try dsimp only at hSw); go_simp <;> with_reducible rfl)
  try simp only [Act.put, List.setIfInBounds_toArray, List.set_cons_zero, List.set_cons_succ]
  refine wpAnyH_take (i := 2) (oi := { dst := some 83, op := Go.Op.load 23 (Go.Operand.tmp 3), type := 23, pos := "law.go:53", after := #[{ on := 1, ground := Go.Ground.guard }], guard := some (1, true) }) (v := ?vc2) rfl (by kernel_rfl) (by kernel_rfl) (by kernel_rfl) (fun _ _ _ h => h) (Or.inl ⟨by rfl, ?yc2⟩) (by assumption) ?_
  case yc2 => (intro wX hSw; (try dsimp only at hSw); go_simp <;> with_reducible rfl)
  try simp only [Act.put, List.setIfInBounds_toArray, List.set_cons_zero, List.set_cons_succ]
  refine wpAnyH_ready (rs := [3]) (by kernel_rfl) (by simp) (AllReadyH.cons (o := { dst := some 84, op := Go.Op.call { callee := Go.Callee.value (Go.Operand.func 10), args := #[Go.Operand.tmp 83], argTypes := #[23] }, type := 4, pos := "law.go:53", after := #[{ on := 2, ground := Go.Ground.data }, { on := 1, ground := Go.Ground.chain }, { on := 1, ground := Go.Ground.guard }], guard := some (1, true) }) rfl (fun K hK => ?_) AllReadyH.nil)
  (go_simp; go_at_call 10; refine (crm _).mono ?_; rintro e wc0 ⟨rfl, hbc0⟩)
  refine hK.out _ _ (⟨((HB6.out).drew).trans (hbc0.mono ((HB6.out).drew).size), FF.out _ (((HB6.out).drew).trans (hbc0.mono ((HB6.out).drew).size))⟩) (fun hHeld => ?_)
  clear hK K
  try simp only [Act.put, List.setIfInBounds_toArray, List.set_cons_zero, List.set_cons_succ]
  refine wpAnyH_take (i := 4) (oi := { dst := some 85, op := Go.Op.unOp Go.UnOp.not 4 (Go.Operand.tmp 84), type := 4, pos := "law.go:53", after := #[{ on := 3, ground := Go.Ground.data }, { on := 1, ground := Go.Ground.guard }], guard := some (1, true) }) (v := ?vc4) rfl (by kernel_rfl) (by kernel_rfl) (by kernel_rfl) (fun _ _ _ h => h) (Or.inl ⟨by rfl, ?yc4⟩) (by assumption) ?_
  case yc4 => (intro wX hSw; (try dsimp only at hSw); go_simp <;> with_reducible rfl)
  try simp only [Act.put, List.setIfInBounds_toArray, List.set_cons_zero, List.set_cons_succ]
  refine wpAnyH_take (i := 5) (oi := { dst := some 86, op := Go.Op.move (Go.Operand.tmp 85), type := 4, pos := "law.go:53", after := #[{ on := 4, ground := Go.Ground.data }, { on := 3, ground := Go.Ground.chain }, { on := 1, ground := Go.Ground.guard }], guard := some (1, true) }) (v := ?vc5) rfl (by kernel_rfl) (by kernel_rfl) (by kernel_rfl) (fun _ _ _ h => h) (Or.inl ⟨by rfl, ?yc5⟩) (by assumption) ?_
  case yc5 => (intro wX hSw; (try dsimp only at hSw); go_simp <;> with_reducible rfl)
  try simp only [Act.put, List.setIfInBounds_toArray, List.set_cons_zero, List.set_cons_succ]
  refine wpAnyH_take (i := 6) (oi := { dst := some 87, op := Go.Op.load 23 (Go.Operand.tmp 4), type := 23, pos := "law.go:53", after := #[{ on := 5, ground := Go.Ground.guard }], guard := some (5, false) }) (v := undef) rfl (by kernel_rfl) (by kernel_rfl) (by kernel_rfl) (fun _ _ _ h => h) (Or.inr ⟨by rfl, rfl⟩) (by assumption) ?_
  try simp only [Act.put, List.setIfInBounds_toArray, List.set_cons_zero, List.set_cons_succ]
  refine wpAnyH_take (i := 7) (oi := { dst := some 88, op := Go.Op.call { callee := Go.Callee.value (Go.Operand.func 10), args := #[Go.Operand.tmp 87], argTypes := #[23] }, type := 4, pos := "law.go:53", after := #[{ on := 6, ground := Go.Ground.data }, { on := 5, ground := Go.Ground.chain }, { on := 5, ground := Go.Ground.guard }], guard := some (5, false) }) (v := undef) rfl (by kernel_rfl) (by kernel_rfl) (by kernel_rfl) (fun _ _ _ h => h) (Or.inr ⟨by rfl, rfl⟩) (by assumption) ?_
  try simp only [Act.put, List.setIfInBounds_toArray, List.set_cons_zero, List.set_cons_succ]
  refine wpAnyH_take (i := 8) (oi := { dst := some 89, op := Go.Op.unOp Go.UnOp.not 4 (Go.Operand.tmp 88), type := 4, pos := "law.go:53", after := #[{ on := 7, ground := Go.Ground.data }, { on := 5, ground := Go.Ground.guard }], guard := some (5, false) }) (v := undef) rfl (by kernel_rfl) (by kernel_rfl) (by kernel_rfl) (fun _ _ _ h => h) (Or.inr ⟨by rfl, rfl⟩) (by assumption) ?_
  try simp only [Act.put, List.setIfInBounds_toArray, List.set_cons_zero, List.set_cons_succ]
  refine wpAnyH_take (i := 9) (oi := { dst := some 90, op := Go.Op.pick (Go.Operand.tmp 86) (Go.Operand.const (Go.Value.bool true)) (Go.Operand.tmp 89), type := 4, pos := "law.go:53", after := #[{ on := 5, ground := Go.Ground.data }, { on := 8, ground := Go.Ground.data }, { on := 1, ground := Go.Ground.guard }], guard := some (1, true) }) (v := ?vc9) rfl (by kernel_rfl) (by kernel_rfl) (by kernel_rfl) (fun _ _ _ h => h) (Or.inl ⟨by rfl, ?yc9⟩) (by assumption) ?_
  case yc9 => (intro wX hSw; (try dsimp only at hSw); go_simp <;> with_reducible rfl)
  try simp only [Act.put, List.setIfInBounds_toArray, List.set_cons_zero, List.set_cons_succ]
  refine wpAnyH_take (i := 10) (oi := { dst := some 91, op := Go.Op.move (Go.Operand.tmp 90), type := 4, pos := "law.go:53", after := #[{ on := 9, ground := Go.Ground.data }, { on := 7, ground := Go.Ground.chain }, { on := 1, ground := Go.Ground.guard }], guard := some (1, true) }) (v := ?vc10) rfl (by kernel_rfl) (by kernel_rfl) (by kernel_rfl) (fun _ _ _ h => h) (Or.inl ⟨by rfl, ?yc10⟩) (by assumption) ?_
  case yc10 => (intro wX hSw; (try dsimp only at hSw); go_simp <;> with_reducible rfl)
  try simp only [Act.put, List.setIfInBounds_toArray, List.set_cons_zero, List.set_cons_succ]
  refine wpAnyH_take (i := 11) (oi := { dst := some 92, op := Go.Op.load 23 (Go.Operand.tmp 3), type := 23, pos := "law.go:53", after := #[{ on := 10, ground := Go.Ground.guard }], guard := some (10, false) }) (v := undef) rfl (by kernel_rfl) (by kernel_rfl) (by kernel_rfl) (fun _ _ _ h => h) (Or.inr ⟨by rfl, rfl⟩) (by assumption) ?_
  try simp only [Act.put, List.setIfInBounds_toArray, List.set_cons_zero, List.set_cons_succ]
  refine wpAnyH_take (i := 12) (oi := { dst := some 93, op := Go.Op.call { callee := Go.Callee.value (Go.Operand.func 9), args := #[Go.Operand.tmp 92], argTypes := #[23] }, type := 9, pos := "law.go:53", after := #[{ on := 11, ground := Go.Ground.data }, { on := 10, ground := Go.Ground.chain }, { on := 10, ground := Go.Ground.guard }], guard := some (10, false) }) (v := undef) rfl (by kernel_rfl) (by kernel_rfl) (by kernel_rfl) (fun _ _ _ h => h) (Or.inr ⟨by rfl, rfl⟩) (by assumption) ?_
  try simp only [Act.put, List.setIfInBounds_toArray, List.set_cons_zero, List.set_cons_succ]
  refine wpAnyH_take (i := 13) (oi := { dst := some 94, op := Go.Op.load 23 (Go.Operand.tmp 4), type := 23, pos := "law.go:53", after := #[{ on := 10, ground := Go.Ground.guard }], guard := some (10, false) }) (v := undef) rfl (by kernel_rfl) (by kernel_rfl) (by kernel_rfl) (fun _ _ _ h => h) (Or.inr ⟨by rfl, rfl⟩) (by assumption) ?_
  try simp only [Act.put, List.setIfInBounds_toArray, List.set_cons_zero, List.set_cons_succ]
  refine wpAnyH_take (i := 14) (oi := { dst := some 95, op := Go.Op.call { callee := Go.Callee.value (Go.Operand.func 9), args := #[Go.Operand.tmp 94], argTypes := #[23] }, type := 9, pos := "law.go:53", after := #[{ on := 13, ground := Go.Ground.data }, { on := 12, ground := Go.Ground.chain }, { on := 10, ground := Go.Ground.guard }], guard := some (10, false) }) (v := undef) rfl (by kernel_rfl) (by kernel_rfl) (by kernel_rfl) (fun _ _ _ h => h) (Or.inr ⟨by rfl, rfl⟩) (by assumption) ?_
  try simp only [Act.put, List.setIfInBounds_toArray, List.set_cons_zero, List.set_cons_succ]
  refine wpAnyH_take (i := 15) (oi := { dst := some 96, op := Go.Op.binOp Go.BinOp.eql 9 (Go.Operand.tmp 93) (Go.Operand.tmp 95) 9, type := 4, pos := "law.go:53", after := #[{ on := 12, ground := Go.Ground.data }, { on := 14, ground := Go.Ground.data }, { on := 10, ground := Go.Ground.guard }], guard := some (10, false) }) (v := undef) rfl (by kernel_rfl) (by kernel_rfl) (by kernel_rfl) (fun _ _ _ h => h) (Or.inr ⟨by rfl, rfl⟩) (by assumption) ?_
  try simp only [Act.put, List.setIfInBounds_toArray, List.set_cons_zero, List.set_cons_succ]
  refine wpAnyH_take (i := 16) (oi := { dst := some 97, op := Go.Op.load 23 (Go.Operand.tmp 3), type := 23, pos := "law.go:53", after := #[{ on := 10, ground := Go.Ground.guard }], guard := some (10, false) }) (v := undef) rfl (by kernel_rfl) (by kernel_rfl) (by kernel_rfl) (fun _ _ _ h => h) (Or.inr ⟨by rfl, rfl⟩) (by assumption) ?_
  try simp only [Act.put, List.setIfInBounds_toArray, List.set_cons_zero, List.set_cons_succ]
  refine wpAnyH_take (i := 17) (oi := { dst := some 98, op := Go.Op.load 23 (Go.Operand.tmp 4), type := 23, pos := "law.go:53", after := #[{ on := 10, ground := Go.Ground.guard }], guard := some (10, false) }) (v := undef) rfl (by kernel_rfl) (by kernel_rfl) (by kernel_rfl) (fun _ _ _ h => h) (Or.inr ⟨by rfl, rfl⟩) (by assumption) ?_
  try simp only [Act.put, List.setIfInBounds_toArray, List.set_cons_zero, List.set_cons_succ]
  refine wpAnyH_take (i := 18) (oi := { dst := some 99, op := Go.Op.binOp Go.BinOp.eql 23 (Go.Operand.tmp 97) (Go.Operand.tmp 98) 23, type := 4, pos := "law.go:53", after := #[{ on := 16, ground := Go.Ground.data }, { on := 17, ground := Go.Ground.data }, { on := 10, ground := Go.Ground.guard }], guard := some (10, false) }) (v := undef) rfl (by kernel_rfl) (by kernel_rfl) (by kernel_rfl) (fun _ _ _ h => h) (Or.inr ⟨by rfl, rfl⟩) (by assumption) ?_
  try simp only [Act.put, List.setIfInBounds_toArray, List.set_cons_zero, List.set_cons_succ]
  refine wpAnyH_take (i := 19) (oi := { dst := some 100, op := Go.Op.binOp Go.BinOp.eql 4 (Go.Operand.tmp 96) (Go.Operand.tmp 99) 4, type := 4, pos := "law.go:53", after := #[{ on := 15, ground := Go.Ground.data }, { on := 18, ground := Go.Ground.data }, { on := 10, ground := Go.Ground.guard }], guard := some (10, false) }) (v := undef) rfl (by kernel_rfl) (by kernel_rfl) (by kernel_rfl) (fun _ _ _ h => h) (Or.inr ⟨by rfl, rfl⟩) (by assumption) ?_
  try simp only [Act.put, List.setIfInBounds_toArray, List.set_cons_zero, List.set_cons_succ]
  refine wpAnyH_take (i := 20) (oi := { dst := some 101, op := Go.Op.pick (Go.Operand.tmp 91) (Go.Operand.const (Go.Value.bool true)) (Go.Operand.tmp 100), type := 4, pos := "law.go:53", after := #[{ on := 10, ground := Go.Ground.data }, { on := 19, ground := Go.Ground.data }, { on := 1, ground := Go.Ground.guard }], guard := some (1, true) }) (v := ?vc20) rfl (by kernel_rfl) (by kernel_rfl) (by kernel_rfl) (fun _ _ _ h => h) (Or.inl ⟨by rfl, ?yc20⟩) (by assumption) ?_
  case yc20 => (intro wX hSw; (try dsimp only at hSw); go_simp <;> with_reducible rfl)
  try simp only [Act.put, List.setIfInBounds_toArray, List.set_cons_zero, List.set_cons_succ]
  refine wpAnyH_take (i := 21) (oi := { dst := some 102, op := Go.Op.pick (Go.Operand.tmp 82) (Go.Operand.tmp 101) (Go.Operand.const (Go.Value.bool false)), type := 4, pos := "law.go:53", after := #[{ on := 1, ground := Go.Ground.data }, { on := 20, ground := Go.Ground.data }], guard := none }) (v := ?vc21) rfl (by kernel_rfl) (by kernel_rfl) (by kernel_rfl) (fun _ _ _ h => h) (Or.inl ⟨by rfl, ?yc21⟩) (by assumption) ?_
  case yc21 => (intro wX hSw; (try dsimp only at hSw); go_simp <;> with_reducible rfl)
  try simp only [Act.put, List.setIfInBounds_toArray, List.set_cons_zero, List.set_cons_succ]
  refine wpAnyH_take (i := 22) (oi := { dst := some 6, op := Go.Op.assign (Go.Operand.tmp 102), type := 4, pos := "law.go:53", after := #[{ on := 21, ground := Go.Ground.data }, { on := 14, ground := Go.Ground.chain }, { on := 0, ground := Go.Ground.phase }, { on := 1, ground := Go.Ground.phase }, { on := 2, ground := Go.Ground.phase }, { on := 3, ground := Go.Ground.phase }, { on := 4, ground := Go.Ground.phase }, { on := 5, ground := Go.Ground.phase }, { on := 6, ground := Go.Ground.phase }, { on := 7, ground := Go.Ground.phase }, { on := 8, ground := Go.Ground.phase }, { on := 9, ground := Go.Ground.phase }, { on := 10, ground := Go.Ground.phase }, { on := 11, ground := Go.Ground.phase }, { on := 12, ground := Go.Ground.phase }, { on := 13, ground := Go.Ground.phase }, { on := 14, ground := Go.Ground.phase }, { on := 15, ground := Go.Ground.phase }, { on := 16, ground := Go.Ground.phase }, { on := 17, ground := Go.Ground.phase }, { on := 18, ground := Go.Ground.phase }, { on := 19, ground := Go.Ground.phase }, { on := 20, ground := Go.Ground.phase }, { on := 21, ground := Go.Ground.phase }], guard := none }) (v := ?vc22) rfl (by kernel_rfl) (by kernel_rfl) (by kernel_rfl) (fun _ _ _ h => h) (Or.inl ⟨by rfl, ?yc22⟩) (by assumption) ?_
  case yc22 => (intro wX hSw; (try dsimp only at hSw); go_simp <;> with_reducible rfl)
  try simp only [Act.put, List.setIfInBounds_toArray, List.set_cons_zero, List.set_cons_succ]
  refine wpAnyH_done (by kernel_rfl) ?_ _
  go_wp2
  go_ret
  exact ⟨rfl, HB.out.trans (hHeld.1.mono HB.out.size)⟩
theorem long1 (m n : Mk) (s : List UInt8) (w : World) (h1 : 200 < s.length) : Calls Try.prog 3 #[.agg (cellsM m), .agg (cellsM n), .string (bs s)] w (BoolPost w true) := by
  have cs := fun W => small_any W
  have ss := bs_size s
  have sm := bs_size m.id
  have sn := bs_size n.id
  have d1 : decide (200 < (s.length : Int)) = true := decide_eq_true (by omega)
  have g3 := heap_alloc_new w (.cells (cellsM m) 23)
  have g4 := heap_alloc_new (w.alloc (.cells (cellsM m) 23)) (.cells (cellsM n) 23)
  rw [World.size_alloc] at g4
  have g3' := (Below.heap_alloc _ (.cells (cellsM n) 23) _ (lt_of_heap g3)).trans g3
  have hB0 := ((Below.refl w.heap.size w).alloc (Nat.le_refl _) (.cells (cellsM m) 23)).alloc (by simp) (.cells (cellsM n) 23)
  have M3 := Lib.hid g3'
  have M4 := Lib.hid g4
  have HB := Lib.hid hB0
  clear g3 g4 g3' hB0 h1
  simp only [cellsM]
  go_enter Try.func3, Try.ntmps3
  go_wp2_with fail
  (with_reducible refine Calls.mono (cs _) ?_)
  rintro e w1 ⟨rfl, hbx⟩
  have q3 := (fiveM (keep_blkP hbx M3.out)).2.2.2.1
  have q4 := (fiveM (keep_blkP hbx M4.out)).2.2.2.1
  replace HB := Lib.hid (HB.out.trans (hbx.mono HB.out.size))
  clear hbx M3 M4
  go_wp2
  go_ret
  exact ⟨rfl, HB.out⟩
theorem long2 (m n : Mk) (s : List UInt8) (w : World) (h1 : ¬ 200 < s.length) (h2 : 200 < m.id.length) : Calls Try.prog 3 #[.agg (cellsM m), .agg (cellsM n), .string (bs s)] w (BoolPost w true) := by
  have cs := fun W => small_any W
  have ss := bs_size s
  have sm := bs_size m.id
  have sn := bs_size n.id
  have d1 : decide (200 < (s.length : Int)) = false := decide_eq_false (by omega)
  have d2 : decide (200 < (m.id.length : Int)) = true := decide_eq_true (by omega)
  have g3 := heap_alloc_new w (.cells (cellsM m) 23)
  have g4 := heap_alloc_new (w.alloc (.cells (cellsM m) 23)) (.cells (cellsM n) 23)
  rw [World.size_alloc] at g4
  have g3' := (Below.heap_alloc _ (.cells (cellsM n) 23) _ (lt_of_heap g3)).trans g3
  have hB0 := ((Below.refl w.heap.size w).alloc (Nat.le_refl _) (.cells (cellsM m) 23)).alloc (by simp) (.cells (cellsM n) 23)
  have M3 := Lib.hid g3'
  have M4 := Lib.hid g4
  have HB := Lib.hid hB0
  clear g3 g4 g3' hB0 h1 h2
  simp only [cellsM]
  go_enter Try.func3, Try.ntmps3
  go_wp2_with fail
  (with_reducible refine Calls.mono (cs _) ?_)
  rintro e w1 ⟨rfl, hbx⟩
  have q3 := (fiveM (keep_blkP hbx M3.out)).2.2.2.1
  have q4 := (fiveM (keep_blkP hbx M4.out)).2.2.2.1
  replace HB := Lib.hid (HB.out.trans (hbx.mono HB.out.size))
  clear hbx M3 M4
  go_wp2
  go_ret
  exact ⟨rfl, HB.out⟩
theorem long3 (m n : Mk) (s : List UInt8) (w : World) (h1 : ¬ 200 < s.length) (h2 : ¬ 200 < m.id.length) (h3 : 200 < n.id.length) : Calls Try.prog 3 #[.agg (cellsM m), .agg (cellsM n), .string (bs s)] w (BoolPost w true) := by
  have cs := fun W => small_any W
  have ss := bs_size s
  have sm := bs_size m.id
  have sn := bs_size n.id
  have d1 : decide (200 < (s.length : Int)) = false := decide_eq_false (by omega)
  have d2 : decide (200 < (m.id.length : Int)) = false := decide_eq_false (by omega)
  have d3 : decide (200 < (n.id.length : Int)) = true := decide_eq_true (by omega)
  have g3 := heap_alloc_new w (.cells (cellsM m) 23)
  have g4 := heap_alloc_new (w.alloc (.cells (cellsM m) 23)) (.cells (cellsM n) 23)
  rw [World.size_alloc] at g4
  have g3' := (Below.heap_alloc _ (.cells (cellsM n) 23) _ (lt_of_heap g3)).trans g3
  have hB0 := ((Below.refl w.heap.size w).alloc (Nat.le_refl _) (.cells (cellsM m) 23)).alloc (by simp) (.cells (cellsM n) 23)
  have M3 := Lib.hid g3'
  have M4 := Lib.hid g4
  have HB := Lib.hid hB0
  clear g3 g4 g3' hB0 h1 h2 h3
  simp only [cellsM]
  go_enter Try.func3, Try.ntmps3
  go_wp2_with fail
  (with_reducible refine Calls.mono (cs _) ?_)
  rintro e w1 ⟨rfl, hbx⟩
  have q3 := (fiveM (keep_blkP hbx M3.out)).2.2.2.1
  have q4 := (fiveM (keep_blkP hbx M4.out)).2.2.2.1
  replace HB := Lib.hid (HB.out.trans (hbx.mono HB.out.size))
  clear hbx M3 M4
  go_wp2
  go_ret
  exact ⟨rfl, HB.out⟩
theorem preads_any (m n : Mk) (s : List UInt8) (w : World) : Calls Try.prog 3 #[.agg (cellsM m), .agg (cellsM n), .string (bs s)] w (BoolPost w true) := by
  by_cases h1 : 200 < s.length
  · exact long1 m n s w h1
  by_cases h2 : 200 < m.id.length
  · exact long2 m n s w h1 h2
  by_cases h3 : 200 < n.id.length
  · exact long3 m n s w h1 h2 h3
  have l1 : s.length ≤ 200 := by omega
  have l2 : m.id.length ≤ 200 := by omega
  have l3 : n.id.length ≤ 200 := by omega
  cases hm : rightB m with
  | true =>
    cases hn : rightB n with
    | true =>
      by_cases he : m = n
      · cases hy : readM s with
        | none => exact reads_11ne m n s w l1 l2 l3 hm hn hy he
        | some y => exact reads_11se m n s w l1 l2 l3 hm hn y hy he
      · cases hy : readM s with
        | none => exact reads_11nn m n s w l1 l2 l3 hm hn hy he
        | some y => exact reads_11sn m n s w l1 l2 l3 hm hn y hy he
    | false =>
      cases hy : readM s with
      | none => exact reads_10n m n s w l1 l2 l3 hm hn hy
      | some y => exact reads_10s m n s w l1 l2 l3 hm hn y hy
  | false =>
    cases hn : rightB n with
    | true =>
      cases hy : readM s with
      | none => exact reads_01n m n s w l1 l2 l3 hm hn hy
      | some y => exact reads_01s m n s w l1 l2 l3 hm hn y hy
    | false =>
      cases hy : readM s with
      | none => exact reads_00n m n s w l1 l2 l3 hm hn hy
      | some y => exact reads_00s m n s w l1 l2 l3 hm hn y hy
end Go.Proofs.Ytemdecaiadkchaa
