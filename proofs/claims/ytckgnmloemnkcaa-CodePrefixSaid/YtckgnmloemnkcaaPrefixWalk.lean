/- CodePrefix, walked: it answers true. -/
import Derived.Test.YtckgnmloemnkcaaCutWalk
import Derived.Deep.RegionHeld3
namespace Go.Proofs.Ytckgnmloemnkcaa
open Go.ChangeShapes Go.WideShapes Go.ChangeAt Go.RowKit Go.Lib
set_option linter.unusedVariables false

theorem ValAt.chg {S : List Nat} {w w' : World} {g : Nat} {v : V} {q : VP} (h : ValAt w g v q) (hb : Chg S w w') (hn : g ∉ S) : ValAt w' g v q := hb.heap_some hn h
theorem held_of {w W : World} {v u : V} {q r : VP} (hb : Below w.heap.size w W) (h1 : ValAt W w.heap.size v q) (h2 : ValAt W (w.heap.size + 1) u r) :
    Below w.heap.size w W ∧ ValAt W w.heap.size v q ∧ ValAt W (w.heap.size + 1) u r ∧ W.cell? ⟨w.heap.size, 0, none⟩ = some (.int .i64 v.k) ∧ W.cell? ⟨w.heap.size, 1, none⟩ = some (.int .i64 v.n) ∧ W.cell? ⟨w.heap.size, 2, none⟩ = some (.string (bs v.s)) ∧ W.cell? ⟨w.heap.size, 3, none⟩ = some (.slice q.A v.l.length q.C) ∧ W.cell? ⟨w.heap.size, 4, none⟩ = some (.slice q.B v.m.length q.D) ∧ W.cell? ⟨w.heap.size + 1, 0, none⟩ = some (.int .i64 u.k) ∧ W.cell? ⟨w.heap.size + 1, 1, none⟩ = some (.int .i64 u.n) ∧ W.cell? ⟨w.heap.size + 1, 2, none⟩ = some (.string (bs u.s)) ∧ W.cell? ⟨w.heap.size + 1, 3, none⟩ = some (.slice r.A u.l.length r.C) ∧ W.cell? ⟨w.heap.size + 1, 4, none⟩ = some (.slice r.B u.m.length r.D) := ⟨hb, h1, h2, h1.f0, h1.f1, h1.f2, h1.f3, h1.f4, h2.f0, h2.f1, h2.f2, h2.f3, h2.f4⟩
theorem held_call {w W w7 : World} {v u : V} {q r : VP} (hb : Below w.heap.size w W) (h1 : ValAt W w.heap.size v q) (h2 : ValAt W (w.heap.size + 1) u r) (hb7 : Below W.heap.size W w7) :
    Below w.heap.size w w7 ∧ ValAt w7 w.heap.size v q ∧ ValAt w7 (w.heap.size + 1) u r ∧ w7.cell? ⟨w.heap.size, 0, none⟩ = some (.int .i64 v.k) ∧ w7.cell? ⟨w.heap.size, 1, none⟩ = some (.int .i64 v.n) ∧ w7.cell? ⟨w.heap.size, 2, none⟩ = some (.string (bs v.s)) ∧ w7.cell? ⟨w.heap.size, 3, none⟩ = some (.slice q.A v.l.length q.C) ∧ w7.cell? ⟨w.heap.size, 4, none⟩ = some (.slice q.B v.m.length q.D) ∧ w7.cell? ⟨w.heap.size + 1, 0, none⟩ = some (.int .i64 u.k) ∧ w7.cell? ⟨w.heap.size + 1, 1, none⟩ = some (.int .i64 u.n) ∧ w7.cell? ⟨w.heap.size + 1, 2, none⟩ = some (.string (bs u.s)) ∧ w7.cell? ⟨w.heap.size + 1, 3, none⟩ = some (.slice r.A u.l.length r.C) ∧ w7.cell? ⟨w.heap.size + 1, 4, none⟩ = some (.slice r.B u.m.length r.D) := held_of (hb.trans (hb7.mono hb.size)) (h1.below hb7) (h2.below hb7)
theorem held_call_drew {w W w7 : World} {v u : V} {q r : VP} (hb : Below w.heap.size w W) (h1 : ValAt W w.heap.size v q) (h2 : ValAt W (w.heap.size + 1) u r) (hb7 : Below W.drew.heap.size W.drew w7) :
    Below w.heap.size w w7 ∧ ValAt w7 w.heap.size v q ∧ ValAt w7 (w.heap.size + 1) u r ∧ w7.cell? ⟨w.heap.size, 0, none⟩ = some (.int .i64 v.k) ∧ w7.cell? ⟨w.heap.size, 1, none⟩ = some (.int .i64 v.n) ∧ w7.cell? ⟨w.heap.size, 2, none⟩ = some (.string (bs v.s)) ∧ w7.cell? ⟨w.heap.size, 3, none⟩ = some (.slice q.A v.l.length q.C) ∧ w7.cell? ⟨w.heap.size, 4, none⟩ = some (.slice q.B v.m.length q.D) ∧ w7.cell? ⟨w.heap.size + 1, 0, none⟩ = some (.int .i64 u.k) ∧ w7.cell? ⟨w.heap.size + 1, 1, none⟩ = some (.int .i64 u.n) ∧ w7.cell? ⟨w.heap.size + 1, 2, none⟩ = some (.string (bs u.s)) ∧ w7.cell? ⟨w.heap.size + 1, 3, none⟩ = some (.slice r.A u.l.length r.C) ∧ w7.cell? ⟨w.heap.size + 1, 4, none⟩ = some (.slice r.B u.m.length r.D) := held_call (W := W.drew) hb.drew h1 h2 hb7
set_option maxRecDepth 100000 in
set_option maxHeartbeats 1600000 in
theorem prefix_any (v u0 : V) (q r : VP) (w : World) (hv : VAt w v q) (hw : v.wf) (hu : VAt w u0 r) (hwu : u0.wf) :
    Calls Try.prog 8 #[.agg #[.int .i64 v.k, .int .i64 v.n, .string (bs v.s), .slice q.A v.l.length q.C, .slice q.B v.m.length q.D], .agg #[.int .i64 u0.k, .int .i64 u0.n, .string (bs u0.s), .slice r.A u0.l.length r.C, .slice r.B u0.m.length r.D]] w (BoolPost w true) := by
  obtain ⟨u, hue⟩ : ∃ u : V, u = ⟨v.k, u0.n, u0.s, u0.l, u0.m⟩ := ⟨_, rfl⟩
  have e1 : u.k = v.k := by rw [hue]
  have e2 : u.n = u0.n := by rw [hue]
  have e3 : u.s = u0.s := by rw [hue]
  have e4 : u.l = u0.l := by rw [hue]
  have e5 : u.m = u0.m := by rw [hue]
  have HV := Lib.hid hv
  have HW := Lib.hid hw
  have HU : Hid (VAt w u r) := by unfold Hid; rw [hue]; exact ⟨hu.l, hu.m⟩
  have HWU : Hid u.wf := by unfold Hid; rw [hue]; exact ⟨hw.k0, hw.k1, hwu.n0, hwu.n1, hwu.m⟩
  have HK : Hid (v.kind = u.kind) := by unfold Hid V.kind; rw [e1]
  rw [← e2, ← e3, ← e4, ← e5]
  clear hv hw hu hwu e2 e3 e4 e5 hue
  obtain ⟨W, hW⟩ : ∃ W, W = (w.alloc (.cells #[.int .i64 v.k, .int .i64 v.n, .string (bs v.s), .slice q.A v.l.length q.C, .slice q.B v.m.length q.D] 45)).alloc (.cells #[.int .i64 u0.k, .int .i64 u.n, .string (bs u.s), .slice r.A u.l.length r.C, .slice r.B u.m.length r.D] 45) := ⟨_, rfl⟩
  have hbW : Below w.heap.size w W := by rw [hW]; exact ((Below.refl _ _).alloc (Nat.le_refl _) _).alloc (by simp) _
  have hvW : ValAt W w.heap.size v q := by
    unfold ValAt
    rw [hW, Below.heap_alloc _ _ _ (by simp)]
    exact ValAt.new w v q
  have huW : W.heap[w.heap.size + 1]? = some (.cells #[.int .i64 u0.k, .int .i64 u.n, .string (bs u.s), .slice r.A u.l.length r.C, .slice r.B u.m.length r.D] 45 (0, 0)) := by
    rw [hW]; exact heap_alloc2_new w _ _
  go_enter Try.func8, Try.ntmps8
  go_wp2_with fail
  rw [← hW]
  clear hW
  refine (small_any W).mono ?_
  rintro e w1 ⟨rfl, hb1⟩
  have hv1 := hvW.below hb1
  have hu1 := (hb1.block _ (lt_of_heap huW)).trans huW
  have hw1 := hbW.trans (hb1.mono hbW.size)
  clear hvW huW hb1 hbW
  have hcr := cell_row hu1
  have hfz : w1.frozen? ⟨w.heap.size + 1, 0, none⟩ = false := frozen_row hu1 0
  have g0 : w1.cell? ⟨w.heap.size + 1, 0, none⟩ = some (.int .i64 u0.k) := hcr 0
  have g1 : w1.cell? ⟨w.heap.size + 1, 1, none⟩ = some (.int .i64 u.n) := hcr 1
  have g2 : w1.cell? ⟨w.heap.size + 1, 2, none⟩ = some (.string (bs u.s)) := hcr 2
  have g3 : w1.cell? ⟨w.heap.size + 1, 3, none⟩ = some (.slice r.A u.l.length r.C) := hcr 3
  have g4 : w1.cell? ⟨w.heap.size + 1, 4, none⟩ = some (.slice r.B u.m.length r.D) := hcr 4
  clear hcr
  have f0 := hv1.f0
  have f1 := hv1.f1
  have f2 := hv1.f2
  have f3 := hv1.f3
  have f4 := hv1.f4
  go_wp2_with fail
  obtain ⟨w2, hw2e⟩ : ∃ w2, w2 = w1.setCell ⟨w.heap.size + 1, 0, none⟩ (.int .i64 v.k) := ⟨_, rfl⟩
  have hu2 : ValAt w2 (w.heap.size + 1) u r := by
    unfold ValAt
    rw [hw2e, set_row hu1, e1]; rfl
  have hv2 : ValAt w2 w.heap.size v q := by rw [hw2e]; exact set_row_other hv1 (by simp) _
  have hw2 : Below w.heap.size w w2 := by rw [hw2e]; exact hw1.setCell (by simp) _
  rw [← hw2e]
  clear hw2e hu1 hv1 hw1 f0 f1 f2 f3 f4 g0 g1 g2 g3 g4 hfz
  have f0 := hv2.f0
  have f1 := hv2.f1
  have f2 := hv2.f2
  have f3 := hv2.f3
  have f4 := hv2.f4
  have g0 := hu2.f0
  have g1 := hu2.f1
  have g2 := hu2.f2
  have g3 := hu2.f3
  have g4 := hu2.f4
  refine (valid_any v q w2 (HV.out.below hw2) HW.out).mono ?_
  rintro e w3 ⟨rfl, hb3⟩
  have hv3 := hv2.below hb3
  have hu3 := hu2.below hb3
  have hw3 := hw2.trans (hb3.mono hw2.size)
  clear hv2 hu2 hw2 hb3 f0 f1 f2 f3 f4 g0 g1 g2 g3 g4
  cases hval : v.validB
  · clear hval
    go_wp2
    go_ret
    exact ⟨rfl, hw3⟩
  have HVAL := Lib.hid (validB_true hval)
  clear hval
  have f0 := hv3.f0
  have f1 := hv3.f1
  have f2 := hv3.f2
  have f3 := hv3.f3
  have f4 := hv3.f4
  have g0 := hu3.f0
  have g1 := hu3.f1
  have g2 := hu3.f2
  have g3 := hu3.f3
  have g4 := hu3.f4
  have E1 := Lib.hid e1
  clear e1
  go_wp2_with fail
  refine (valid_any u r w3 (HU.out.below hw3) HWU.out).mono ?_
  rintro e w4 ⟨rfl, hb4⟩
  have hv4 := hv3.below hb4
  have hu4 := hu3.below hb4
  have hw4 := hw3.trans (hb4.mono hw3.size)
  clear hv3 hu3 hw3 hb4 f0 f1 f2 f3 f4 g0 g1 g2 g3 g4
  cases hval : u.validB
  · clear hval
    go_wp2
    go_ret
    exact ⟨rfl, hw4⟩
  have HUVAL := Lib.hid (validB_true hval)
  clear hval
  have f0 := hv4.f0
  have f1 := hv4.f1
  have f2 := hv4.f2
  have f3 := hv4.f3
  have f4 := hv4.f4
  have g0 := hu4.f0
  have g1 := hu4.f1
  have g2 := hu4.f2
  have g3 := hu4.f3
  have g4 := hu4.f4
  go_wp2_with fail
  refine (write_any v q w4 (HV.out.below hw4) HW.out HVAL.out.1.mid).mono ?_
  rintro e w5 ⟨rfl, hb5⟩
  have hv5 := hv4.below hb5
  have hu5 := hu4.below hb5
  have hw5 := hw4.trans (hb5.mono hw4.size)
  clear hv4 hu4 hw4 hb5 f0 f1 f2 f3 f4 g0 g1 g2 g3 g4
  have f0 := hv5.f0
  have f1 := hv5.f1
  have f2 := hv5.f2
  have f3 := hv5.f3
  have f4 := hv5.f4
  have g0 := hu5.f0
  have g1 := hu5.f1
  have g2 := hu5.f2
  have g3 := hu5.f3
  have g4 := hu5.f4
  go_wp2_with fail
  refine (write_any u r w5 (HU.out.below hw5) HWU.out HUVAL.out.1.mid).mono ?_
  rintro e w6 ⟨rfl, hb6⟩
  have hv6 := hv5.below hb6
  have hu6 := hu5.below hb6
  have hw6 := hw5.trans (hb6.mono hw5.size)
  clear hv5 hu5 hw5 hb6 f0 f1 f2 f3 f4 g0 g1 g2 g3 g4
  have f0 := hv6.f0
  have f1 := hv6.f1
  have f2 := hv6.f2
  have f3 := hv6.f3
  have f4 := hv6.f4
  have g0 := hu6.f0
  have g1 := hu6.f1
  have g2 := hu6.f2
  have g3 := hu6.f3
  have g4 := hu6.f4
  have hs1 := bs_size v.write
  have hs2 := bs_size u.write
  have hcs : Hid (∀ W, Below w.heap.size w W → Calls Try.prog 46 #[.agg #[.int .i64 v.k, .int .i64 v.n, .string (bs v.s), .slice q.A v.l.length q.C, .slice q.B v.m.length q.D], .agg #[.int .i64 u.k, .int .i64 u.n, .string (bs u.s), .slice r.A u.l.length r.C, .slice r.B u.m.length r.D]] W (BoolPost W (v.sameB u))) :=
    fun W hb => same_any v u q r W (HV.out.below hb) (HU.out.below hb) HVAL.out.1 ⟨by have := HUVAL.out.1.mid.m; omega, by have := HUVAL.out.1.mid.l; omega⟩
  by_cases hlen : u.write.length < v.write.length
  · have HS : Hid (v.sameB u = false) := by
      unfold Hid V.sameB
      simp only [decide_eq_false_iff_not]
      intro h
      rw [write_same HK.out h] at hlen
      omega
    have hg := HS.out
    go_wp2_with fail
    refine (hcs.out _ hw6).mono ?_
    rintro e w7 ⟨rfl, hb7⟩
    go_wp2
    go_ret
    exact ⟨rfl, hw6.trans (hb7.mono hw6.size)⟩
  · by_cases hsame : v.same u
    · have hwe := write_same HK.out hsame
      have HS : Hid (v.sameB u = true) := by unfold Hid V.sameB; simpa using hsame
      have hg := HS.out
      have hex : (bs u.write).extract 0 v.write.length = bs (u.write.take v.write.length) := by rw [bs_extract]; simp
      have ht1 := bs_toList (u.write.take v.write.length)
      have ht2 := bs_toList v.write
      have hne : (u.write.take v.write.length == v.write) = true := by rw [hwe]; simp
      have hle : v.write.length ≤ u.write.length := by omega
      have hbe : ((v.write.length : Int) == (u.write.length : Int)) = true := by rw [hwe]; simp
      clear hwe hsame
      go_wp2
      clear f0 f1 f2 f3 f4 g0 g1 g2 g3 g4
      refine wp_region_held_drew (S := (fun W' => Below w.heap.size w W' ∧ ValAt W' w.heap.size v q ∧ ValAt W' (w.heap.size + 1) u r ∧ W'.cell? ⟨w.heap.size, 0, none⟩ = some (.int .i64 v.k) ∧ W'.cell? ⟨w.heap.size, 1, none⟩ = some (.int .i64 v.n) ∧ W'.cell? ⟨w.heap.size, 2, none⟩ = some (.string (bs v.s)) ∧ W'.cell? ⟨w.heap.size, 3, none⟩ = some (.slice q.A v.l.length q.C) ∧ W'.cell? ⟨w.heap.size, 4, none⟩ = some (.slice q.B v.m.length q.D) ∧ W'.cell? ⟨w.heap.size + 1, 0, none⟩ = some (.int .i64 u.k) ∧ W'.cell? ⟨w.heap.size + 1, 1, none⟩ = some (.int .i64 u.n) ∧ W'.cell? ⟨w.heap.size + 1, 2, none⟩ = some (.string (bs u.s)) ∧ W'.cell? ⟨w.heap.size + 1, 3, none⟩ = some (.slice r.A u.l.length r.C) ∧ W'.cell? ⟨w.heap.size + 1, 4, none⟩ = some (.slice r.B u.m.length r.D))) (by kernel_rfl) (held_of hw6.drew hv6 hu6) (fun hHeld => ?_)
      refine wpAnyH_take (i := 0) (oi := { dst := some 37, op := Op.move (Operand.tmp 5), type := 4, pos := "law.go:235", after := #[], guard := none }) (v := ?va0) rfl (by kernel_rfl) (by kernel_rfl) (by kernel_rfl) (fun _ _ _ h => h) (Or.inl ⟨by rfl, ?ya0⟩) (by assumption) ?_
      case ya0 => (intro wX hSw; (try dsimp only at hSw); go_simp <;> with_reducible rfl)
      try simp only [Act.put, List.setIfInBounds_toArray, List.set_cons_zero, List.set_cons_succ]
      refine wpAnyH_take (i := 1) (oi := { dst := some 38, op := Op.move (Operand.tmp 37), type := 4, pos := "law.go:235", after := #[{ on := 0, ground := Ground.data }], guard := none }) (v := ?va1) rfl (by kernel_rfl) (by kernel_rfl) (by kernel_rfl) (fun _ _ _ h => h) (Or.inl ⟨by rfl, ?ya1⟩) (by assumption) ?_
      case ya1 => (intro wX hSw; (try dsimp only at hSw); go_simp <;> with_reducible rfl)
      try simp only [Act.put, List.setIfInBounds_toArray, List.set_cons_zero, List.set_cons_succ]
      refine wpAnyH_take (i := 2) (oi := { dst := some 39, op := Op.move (Operand.tmp 7), type := 9, pos := "law.go:235", after := #[{ on := 1, ground := Ground.guard }], guard := some (1, true) }) (v := ?va2) rfl (by kernel_rfl) (by kernel_rfl) (by kernel_rfl) (fun _ _ _ h => h) (Or.inl ⟨by rfl, ?ya2⟩) (by assumption) ?_
      case ya2 => (intro wX hSw; (try dsimp only at hSw); go_simp <;> with_reducible rfl)
      try simp only [Act.put, List.setIfInBounds_toArray, List.set_cons_zero, List.set_cons_succ]
      refine wpAnyH_take (i := 3) (oi := { dst := some 40, op := Op.move (Operand.tmp 6), type := 9, pos := "law.go:235", after := #[{ on := 1, ground := Ground.guard }], guard := some (1, true) }) (v := ?va3) rfl (by kernel_rfl) (by kernel_rfl) (by kernel_rfl) (fun _ _ _ h => h) (Or.inl ⟨by rfl, ?ya3⟩) (by assumption) ?_
      case ya3 => (intro wX hSw; (try dsimp only at hSw); go_simp <;> with_reducible rfl)
      try simp only [Act.put, List.setIfInBounds_toArray, List.set_cons_zero, List.set_cons_succ]
      refine wpAnyH_take (i := 4) (oi := { dst := some 41, op := Op.call { callee := Callee.builtin Builtin.len, args := #[Operand.tmp 40], argTypes := #[9] }, type := 3, pos := "law.go:235", after := #[{ on := 3, ground := Ground.data }, { on := 1, ground := Ground.guard }], guard := some (1, true) }) (v := ?va4) rfl (by kernel_rfl) (by kernel_rfl) (by kernel_rfl) (fun _ _ _ h => h) (Or.inl ⟨by rfl, ?ya4⟩) (by assumption) ?_
      case ya4 => (intro wX hSw; (try dsimp only at hSw); go_simp <;> with_reducible rfl)
      try simp only [Act.put, List.setIfInBounds_toArray, List.set_cons_zero, List.set_cons_succ]
      refine wpAnyH_take (i := 5) (oi := { dst := some 42, op := Op.slice 9 (Operand.tmp 39) none (some (Operand.tmp 41)) none, type := 9, pos := "law.go:235", after := #[{ on := 2, ground := Ground.data }, { on := 4, ground := Ground.data }, { on := 1, ground := Ground.guard }], guard := some (1, true) }) (v := ?va5) rfl (by kernel_rfl) (by kernel_rfl) (by kernel_rfl) (fun _ _ _ h => h) (Or.inl ⟨by rfl, ?ya5⟩) (by assumption) ?_
      case ya5 => (intro wX hSw; (try dsimp only at hSw); go_simp <;> with_reducible rfl)
      try simp only [Act.put, List.setIfInBounds_toArray, List.set_cons_zero, List.set_cons_succ]
      refine wpAnyH_take (i := 6) (oi := { dst := some 43, op := Op.move (Operand.tmp 6), type := 9, pos := "law.go:235", after := #[{ on := 1, ground := Ground.guard }], guard := some (1, true) }) (v := ?va6) rfl (by kernel_rfl) (by kernel_rfl) (by kernel_rfl) (fun _ _ _ h => h) (Or.inl ⟨by rfl, ?ya6⟩) (by assumption) ?_
      case ya6 => (intro wX hSw; (try dsimp only at hSw); go_simp <;> with_reducible rfl)
      try simp only [Act.put, List.setIfInBounds_toArray, List.set_cons_zero, List.set_cons_succ]
      refine wpAnyH_take (i := 7) (oi := { dst := some 44, op := Op.binOp BinOp.eql 9 (Operand.tmp 42) (Operand.tmp 43) 9, type := 4, pos := "law.go:235", after := #[{ on := 5, ground := Ground.data }, { on := 6, ground := Ground.data }, { on := 1, ground := Ground.guard }], guard := some (1, true) }) (v := ?va7) rfl (by kernel_rfl) (by kernel_rfl) (by kernel_rfl) (fun _ _ _ h => h) (Or.inl ⟨by rfl, ?ya7⟩) (by assumption) ?_
      case ya7 => (intro wX hSw; (try dsimp only at hSw); go_simp <;> with_reducible rfl)
      try simp only [Act.put, List.setIfInBounds_toArray, List.set_cons_zero, List.set_cons_succ]
      refine wpAnyH_take (i := 8) (oi := { dst := some 45, op := Op.load 45 (Operand.tmp 2), type := 45, pos := "law.go:235", after := #[{ on := 1, ground := Ground.guard }], guard := some (1, true) }) (v := ?va8) rfl (by kernel_rfl) (by kernel_rfl) (by kernel_rfl) (fun _ _ _ h => h) (Or.inl ⟨by rfl, ?ya8⟩) (by assumption) ?_
      case ya8 => (intro wX hSw; (try dsimp only at hSw); go_simp <;> with_reducible rfl)
      try simp only [Act.put, List.setIfInBounds_toArray, List.set_cons_zero, List.set_cons_succ]
      refine wpAnyH_take (i := 9) (oi := { dst := some 46, op := Op.load 45 (Operand.tmp 3), type := 45, pos := "law.go:235", after := #[{ on := 1, ground := Ground.guard }], guard := some (1, true) }) (v := ?va9) rfl (by kernel_rfl) (by kernel_rfl) (by kernel_rfl) (fun _ _ _ h => h) (Or.inl ⟨by rfl, ?ya9⟩) (by assumption) ?_
      case ya9 => (intro wX hSw; (try dsimp only at hSw); go_simp <;> with_reducible rfl)
      try simp only [Act.put, List.setIfInBounds_toArray, List.set_cons_zero, List.set_cons_succ]
      refine wpAnyH_ready (rs := [10]) (by kernel_rfl) (by simp) (AllReadyH.cons (o := { dst := some 47, op := Op.call { callee := Callee.value (Operand.func 46), args := #[Operand.tmp 45, Operand.tmp 46], argTypes := #[45, 45] }, type := 4, pos := "law.go:235", after := #[{ on := 8, ground := Ground.data }, { on := 9, ground := Ground.data }, { on := 1, ground := Ground.chain }, { on := 1, ground := Ground.guard }], guard := some (1, true) }) rfl (fun K hK => ?_) AllReadyH.nil)
      (go_simp; go_at_call 46; refine (hcs.out _ hw6.drew).mono ?_; rintro e w7 ⟨rfl, hb7⟩)
      refine hK.out _ _ (held_call_drew hw6 hv6 hu6 hb7) (fun hHeld => ?_)
      clear hK K
      try simp only [Act.put, List.setIfInBounds_toArray, List.set_cons_zero, List.set_cons_succ]
      refine wpAnyH_take (i := 11) (oi := { dst := some 48, op := Op.binOp BinOp.eql 4 (Operand.tmp 44) (Operand.tmp 47) 4, type := 4, pos := "law.go:235", after := #[{ on := 7, ground := Ground.data }, { on := 10, ground := Ground.data }, { on := 1, ground := Ground.guard }], guard := some (1, true) }) (v := ?va11) rfl (by kernel_rfl) (by kernel_rfl) (by kernel_rfl) (fun _ _ _ h => h) (Or.inl ⟨by rfl, ?ya11⟩) (by assumption) ?_
      case ya11 => (intro wX hSw; (try dsimp only at hSw); go_simp <;> with_reducible rfl)
      try simp only [Act.put, List.setIfInBounds_toArray, List.set_cons_zero, List.set_cons_succ]
      refine wpAnyH_take (i := 12) (oi := { dst := some 49, op := Op.pick (Operand.tmp 38) (Operand.tmp 48) (Operand.const (Value.bool false)), type := 4, pos := "law.go:235", after := #[{ on := 1, ground := Ground.data }, { on := 11, ground := Ground.data }], guard := none }) (v := ?va12) rfl (by kernel_rfl) (by kernel_rfl) (by kernel_rfl) (fun _ _ _ h => h) (Or.inl ⟨by rfl, ?ya12⟩) (by assumption) ?_
      case ya12 => (intro wX hSw; (try dsimp only at hSw); go_simp <;> with_reducible rfl)
      try simp only [Act.put, List.setIfInBounds_toArray, List.set_cons_zero, List.set_cons_succ]
      refine wpAnyH_take (i := 13) (oi := { dst := some 50, op := Op.move (Operand.tmp 49), type := 4, pos := "law.go:235", after := #[{ on := 12, ground := Ground.data }, { on := 10, ground := Ground.chain }], guard := none }) (v := ?va13) rfl (by kernel_rfl) (by kernel_rfl) (by kernel_rfl) (fun _ _ _ h => h) (Or.inl ⟨by rfl, ?ya13⟩) (by assumption) ?_
      case ya13 => (intro wX hSw; (try dsimp only at hSw); go_simp <;> with_reducible rfl)
      try simp only [Act.put, List.setIfInBounds_toArray, List.set_cons_zero, List.set_cons_succ]
      refine wpAnyH_take (i := 14) (oi := { dst := some 51, op := Op.move (Operand.tmp 6), type := 9, pos := "law.go:235", after := #[{ on := 13, ground := Ground.guard }], guard := some (13, true) }) (v := ?va14) rfl (by kernel_rfl) (by kernel_rfl) (by kernel_rfl) (fun _ _ _ h => h) (Or.inl ⟨by rfl, ?ya14⟩) (by assumption) ?_
      case ya14 => (intro wX hSw; (try dsimp only at hSw); go_simp <;> with_reducible rfl)
      try simp only [Act.put, List.setIfInBounds_toArray, List.set_cons_zero, List.set_cons_succ]
      refine wpAnyH_take (i := 15) (oi := { dst := some 52, op := Op.call { callee := Callee.builtin Builtin.len, args := #[Operand.tmp 51], argTypes := #[9] }, type := 3, pos := "law.go:235", after := #[{ on := 14, ground := Ground.data }, { on := 13, ground := Ground.guard }], guard := some (13, true) }) (v := ?va15) rfl (by kernel_rfl) (by kernel_rfl) (by kernel_rfl) (fun _ _ _ h => h) (Or.inl ⟨by rfl, ?ya15⟩) (by assumption) ?_
      case ya15 => (intro wX hSw; (try dsimp only at hSw); go_simp <;> with_reducible rfl)
      try simp only [Act.put, List.setIfInBounds_toArray, List.set_cons_zero, List.set_cons_succ]
      refine wpAnyH_take (i := 16) (oi := { dst := some 53, op := Op.move (Operand.tmp 7), type := 9, pos := "law.go:235", after := #[{ on := 13, ground := Ground.guard }], guard := some (13, true) }) (v := ?va16) rfl (by kernel_rfl) (by kernel_rfl) (by kernel_rfl) (fun _ _ _ h => h) (Or.inl ⟨by rfl, ?ya16⟩) (by assumption) ?_
      case ya16 => (intro wX hSw; (try dsimp only at hSw); go_simp <;> with_reducible rfl)
      try simp only [Act.put, List.setIfInBounds_toArray, List.set_cons_zero, List.set_cons_succ]
      refine wpAnyH_take (i := 17) (oi := { dst := some 54, op := Op.call { callee := Callee.builtin Builtin.len, args := #[Operand.tmp 53], argTypes := #[9] }, type := 3, pos := "law.go:235", after := #[{ on := 16, ground := Ground.data }, { on := 13, ground := Ground.guard }], guard := some (13, true) }) (v := ?va17) rfl (by kernel_rfl) (by kernel_rfl) (by kernel_rfl) (fun _ _ _ h => h) (Or.inl ⟨by rfl, ?ya17⟩) (by assumption) ?_
      case ya17 => (intro wX hSw; (try dsimp only at hSw); go_simp <;> with_reducible rfl)
      try simp only [Act.put, List.setIfInBounds_toArray, List.set_cons_zero, List.set_cons_succ]
      refine wpAnyH_take (i := 18) (oi := { dst := some 55, op := Op.binOp BinOp.eql 3 (Operand.tmp 52) (Operand.tmp 54) 3, type := 4, pos := "law.go:235", after := #[{ on := 15, ground := Ground.data }, { on := 17, ground := Ground.data }, { on := 13, ground := Ground.guard }], guard := some (13, true) }) (v := ?va18) rfl (by kernel_rfl) (by kernel_rfl) (by kernel_rfl) (fun _ _ _ h => h) (Or.inl ⟨by rfl, ?ya18⟩) (by assumption) ?_
      case ya18 => (intro wX hSw; (try dsimp only at hSw); go_simp <;> with_reducible rfl)
      try simp only [Act.put, List.setIfInBounds_toArray, List.set_cons_zero, List.set_cons_succ]
      refine wpAnyH_take (i := 19) (oi := { dst := some 56, op := Op.move (Operand.tmp 55), type := 4, pos := "law.go:235", after := #[{ on := 18, ground := Ground.data }, { on := 13, ground := Ground.chain }, { on := 13, ground := Ground.guard }], guard := some (13, true) }) (v := ?va19) rfl (by kernel_rfl) (by kernel_rfl) (by kernel_rfl) (fun _ _ _ h => h) (Or.inl ⟨by rfl, ?ya19⟩) (by assumption) ?_
      case ya19 => (intro wX hSw; (try dsimp only at hSw); go_simp <;> with_reducible rfl)
      try simp only [Act.put, List.setIfInBounds_toArray, List.set_cons_zero, List.set_cons_succ]
      refine wpAnyH_take (i := 20) (oi := { dst := some 57, op := Op.load 45 (Operand.tmp 2), type := 45, pos := "law.go:235", after := #[{ on := 19, ground := Ground.guard }], guard := some (19, false) }) (v := undef) rfl (by kernel_rfl) (by kernel_rfl) (by kernel_rfl) (fun _ _ _ h => h) (Or.inr ⟨by rfl, rfl⟩) (by assumption) ?_
      try simp only [Act.put, List.setIfInBounds_toArray, List.set_cons_zero, List.set_cons_succ]
      refine wpAnyH_take (i := 21) (oi := { dst := some 58, op := Op.load 45 (Operand.tmp 3), type := 45, pos := "law.go:235", after := #[{ on := 19, ground := Ground.guard }], guard := some (19, false) }) (v := undef) rfl (by kernel_rfl) (by kernel_rfl) (by kernel_rfl) (fun _ _ _ h => h) (Or.inr ⟨by rfl, rfl⟩) (by assumption) ?_
      try simp only [Act.put, List.setIfInBounds_toArray, List.set_cons_zero, List.set_cons_succ]
      refine wpAnyH_take (i := 22) (oi := { dst := some 59, op := Op.call { callee := Callee.value (Operand.func 46), args := #[Operand.tmp 57, Operand.tmp 58], argTypes := #[45, 45] }, type := 4, pos := "law.go:235", after := #[{ on := 20, ground := Ground.data }, { on := 21, ground := Ground.data }, { on := 19, ground := Ground.chain }, { on := 19, ground := Ground.guard }], guard := some (19, false) }) (v := undef) rfl (by kernel_rfl) (by kernel_rfl) (by kernel_rfl) (fun _ _ _ h => h) (Or.inr ⟨by rfl, rfl⟩) (by assumption) ?_
      try simp only [Act.put, List.setIfInBounds_toArray, List.set_cons_zero, List.set_cons_succ]
      refine wpAnyH_take (i := 23) (oi := { dst := some 60, op := Op.unOp UnOp.not 4 (Operand.tmp 59), type := 4, pos := "law.go:235", after := #[{ on := 22, ground := Ground.data }, { on := 19, ground := Ground.guard }], guard := some (19, false) }) (v := undef) rfl (by kernel_rfl) (by kernel_rfl) (by kernel_rfl) (fun _ _ _ h => h) (Or.inr ⟨by rfl, rfl⟩) (by assumption) ?_
      try simp only [Act.put, List.setIfInBounds_toArray, List.set_cons_zero, List.set_cons_succ]
      refine wpAnyH_take (i := 24) (oi := { dst := some 61, op := Op.pick (Operand.tmp 56) (Operand.const (Value.bool true)) (Operand.tmp 60), type := 4, pos := "law.go:235", after := #[{ on := 19, ground := Ground.data }, { on := 23, ground := Ground.data }, { on := 13, ground := Ground.guard }], guard := some (13, true) }) (v := ?va24) rfl (by kernel_rfl) (by kernel_rfl) (by kernel_rfl) (fun _ _ _ h => h) (Or.inl ⟨by rfl, ?ya24⟩) (by assumption) ?_
      case ya24 => (intro wX hSw; (try dsimp only at hSw); go_simp <;> with_reducible rfl)
      try simp only [Act.put, List.setIfInBounds_toArray, List.set_cons_zero, List.set_cons_succ]
      refine wpAnyH_take (i := 25) (oi := { dst := some 62, op := Op.pick (Operand.tmp 50) (Operand.tmp 61) (Operand.const (Value.bool false)), type := 4, pos := "law.go:235", after := #[{ on := 13, ground := Ground.data }, { on := 24, ground := Ground.data }], guard := none }) (v := ?va25) rfl (by kernel_rfl) (by kernel_rfl) (by kernel_rfl) (fun _ _ _ h => h) (Or.inl ⟨by rfl, ?ya25⟩) (by assumption) ?_
      case ya25 => (intro wX hSw; (try dsimp only at hSw); go_simp <;> with_reducible rfl)
      try simp only [Act.put, List.setIfInBounds_toArray, List.set_cons_zero, List.set_cons_succ]
      refine wpAnyH_take (i := 26) (oi := { dst := some 4, op := Op.assign (Operand.tmp 62), type := 4, pos := "law.go:235", after := #[{ on := 25, ground := Ground.data }, { on := 22, ground := Ground.chain }, { on := 0, ground := Ground.phase }, { on := 1, ground := Ground.phase }, { on := 2, ground := Ground.phase }, { on := 3, ground := Ground.phase }, { on := 4, ground := Ground.phase }, { on := 5, ground := Ground.phase }, { on := 6, ground := Ground.phase }, { on := 7, ground := Ground.phase }, { on := 8, ground := Ground.phase }, { on := 9, ground := Ground.phase }, { on := 10, ground := Ground.phase }, { on := 11, ground := Ground.phase }, { on := 12, ground := Ground.phase }, { on := 13, ground := Ground.phase }, { on := 14, ground := Ground.phase }, { on := 15, ground := Ground.phase }, { on := 16, ground := Ground.phase }, { on := 17, ground := Ground.phase }, { on := 18, ground := Ground.phase }, { on := 19, ground := Ground.phase }, { on := 20, ground := Ground.phase }, { on := 21, ground := Ground.phase }, { on := 22, ground := Ground.phase }, { on := 23, ground := Ground.phase }, { on := 24, ground := Ground.phase }, { on := 25, ground := Ground.phase }], guard := none }) (v := ?va26) rfl (by kernel_rfl) (by kernel_rfl) (by kernel_rfl) (fun _ _ _ h => h) (Or.inl ⟨by rfl, ?ya26⟩) (by assumption) ?_
      case ya26 => (intro wX hSw; (try dsimp only at hSw); go_simp <;> with_reducible rfl)
      try simp only [Act.put, List.setIfInBounds_toArray, List.set_cons_zero, List.set_cons_succ]
      refine wpAnyH_done (by kernel_rfl) ?_ _
      go_wp2
      go_ret
      exact ⟨rfl, hHeld.1⟩
    · have HS : Hid (v.sameB u = false) := by unfold Hid V.sameB; simpa using hsame
      have hg := HS.out
      have hex : (bs u.write).extract 0 v.write.length = bs (u.write.take v.write.length) := by rw [bs_extract]; simp
      have ht1 := bs_toList (u.write.take v.write.length)
      have ht2 := bs_toList v.write
      have hne : (u.write.take v.write.length == v.write) = false := by
        simp only [beq_eq_false_iff_ne]
        intro h
        refine hsame (read_prefix (HVAL.out.codec HW.out) (HUVAL.out.codec HWU.out) HK.out (x := u.write.drop v.write.length) ?_).1
        conv => lhs; rw [← List.take_append_drop v.write.length u.write]
        rw [h]
      have hle : v.write.length ≤ u.write.length := by omega
      clear hsame
      by_cases hll : v.write.length = u.write.length
      · have hbe : ((v.write.length : Int) == (u.write.length : Int)) = true := by simp; omega
        clear hll
        go_wp2
        clear f0 f1 f2 f3 f4 g0 g1 g2 g3 g4
        refine wp_region_held_drew (S := (fun W' => Below w.heap.size w W' ∧ ValAt W' w.heap.size v q ∧ ValAt W' (w.heap.size + 1) u r ∧ W'.cell? ⟨w.heap.size, 0, none⟩ = some (.int .i64 v.k) ∧ W'.cell? ⟨w.heap.size, 1, none⟩ = some (.int .i64 v.n) ∧ W'.cell? ⟨w.heap.size, 2, none⟩ = some (.string (bs v.s)) ∧ W'.cell? ⟨w.heap.size, 3, none⟩ = some (.slice q.A v.l.length q.C) ∧ W'.cell? ⟨w.heap.size, 4, none⟩ = some (.slice q.B v.m.length q.D) ∧ W'.cell? ⟨w.heap.size + 1, 0, none⟩ = some (.int .i64 u.k) ∧ W'.cell? ⟨w.heap.size + 1, 1, none⟩ = some (.int .i64 u.n) ∧ W'.cell? ⟨w.heap.size + 1, 2, none⟩ = some (.string (bs u.s)) ∧ W'.cell? ⟨w.heap.size + 1, 3, none⟩ = some (.slice r.A u.l.length r.C) ∧ W'.cell? ⟨w.heap.size + 1, 4, none⟩ = some (.slice r.B u.m.length r.D))) (by kernel_rfl) (held_of hw6.drew hv6 hu6) (fun hHeld => ?_)
        refine wpAnyH_take (i := 0) (oi := { dst := some 37, op := Op.move (Operand.tmp 5), type := 4, pos := "law.go:235", after := #[], guard := none }) (v := ?vb0) rfl (by kernel_rfl) (by kernel_rfl) (by kernel_rfl) (fun _ _ _ h => h) (Or.inl ⟨by rfl, ?yb0⟩) (by assumption) ?_
        case yb0 => (intro wX hSw; (try dsimp only at hSw); go_simp <;> with_reducible rfl)
        try simp only [Act.put, List.setIfInBounds_toArray, List.set_cons_zero, List.set_cons_succ]
        refine wpAnyH_take (i := 1) (oi := { dst := some 38, op := Op.move (Operand.tmp 37), type := 4, pos := "law.go:235", after := #[{ on := 0, ground := Ground.data }], guard := none }) (v := ?vb1) rfl (by kernel_rfl) (by kernel_rfl) (by kernel_rfl) (fun _ _ _ h => h) (Or.inl ⟨by rfl, ?yb1⟩) (by assumption) ?_
        case yb1 => (intro wX hSw; (try dsimp only at hSw); go_simp <;> with_reducible rfl)
        try simp only [Act.put, List.setIfInBounds_toArray, List.set_cons_zero, List.set_cons_succ]
        refine wpAnyH_take (i := 2) (oi := { dst := some 39, op := Op.move (Operand.tmp 7), type := 9, pos := "law.go:235", after := #[{ on := 1, ground := Ground.guard }], guard := some (1, true) }) (v := ?vb2) rfl (by kernel_rfl) (by kernel_rfl) (by kernel_rfl) (fun _ _ _ h => h) (Or.inl ⟨by rfl, ?yb2⟩) (by assumption) ?_
        case yb2 => (intro wX hSw; (try dsimp only at hSw); go_simp <;> with_reducible rfl)
        try simp only [Act.put, List.setIfInBounds_toArray, List.set_cons_zero, List.set_cons_succ]
        refine wpAnyH_take (i := 3) (oi := { dst := some 40, op := Op.move (Operand.tmp 6), type := 9, pos := "law.go:235", after := #[{ on := 1, ground := Ground.guard }], guard := some (1, true) }) (v := ?vb3) rfl (by kernel_rfl) (by kernel_rfl) (by kernel_rfl) (fun _ _ _ h => h) (Or.inl ⟨by rfl, ?yb3⟩) (by assumption) ?_
        case yb3 => (intro wX hSw; (try dsimp only at hSw); go_simp <;> with_reducible rfl)
        try simp only [Act.put, List.setIfInBounds_toArray, List.set_cons_zero, List.set_cons_succ]
        refine wpAnyH_take (i := 4) (oi := { dst := some 41, op := Op.call { callee := Callee.builtin Builtin.len, args := #[Operand.tmp 40], argTypes := #[9] }, type := 3, pos := "law.go:235", after := #[{ on := 3, ground := Ground.data }, { on := 1, ground := Ground.guard }], guard := some (1, true) }) (v := ?vb4) rfl (by kernel_rfl) (by kernel_rfl) (by kernel_rfl) (fun _ _ _ h => h) (Or.inl ⟨by rfl, ?yb4⟩) (by assumption) ?_
        case yb4 => (intro wX hSw; (try dsimp only at hSw); go_simp <;> with_reducible rfl)
        try simp only [Act.put, List.setIfInBounds_toArray, List.set_cons_zero, List.set_cons_succ]
        refine wpAnyH_take (i := 5) (oi := { dst := some 42, op := Op.slice 9 (Operand.tmp 39) none (some (Operand.tmp 41)) none, type := 9, pos := "law.go:235", after := #[{ on := 2, ground := Ground.data }, { on := 4, ground := Ground.data }, { on := 1, ground := Ground.guard }], guard := some (1, true) }) (v := ?vb5) rfl (by kernel_rfl) (by kernel_rfl) (by kernel_rfl) (fun _ _ _ h => h) (Or.inl ⟨by rfl, ?yb5⟩) (by assumption) ?_
        case yb5 => (intro wX hSw; (try dsimp only at hSw); go_simp <;> with_reducible rfl)
        try simp only [Act.put, List.setIfInBounds_toArray, List.set_cons_zero, List.set_cons_succ]
        refine wpAnyH_take (i := 6) (oi := { dst := some 43, op := Op.move (Operand.tmp 6), type := 9, pos := "law.go:235", after := #[{ on := 1, ground := Ground.guard }], guard := some (1, true) }) (v := ?vb6) rfl (by kernel_rfl) (by kernel_rfl) (by kernel_rfl) (fun _ _ _ h => h) (Or.inl ⟨by rfl, ?yb6⟩) (by assumption) ?_
        case yb6 => (intro wX hSw; (try dsimp only at hSw); go_simp <;> with_reducible rfl)
        try simp only [Act.put, List.setIfInBounds_toArray, List.set_cons_zero, List.set_cons_succ]
        refine wpAnyH_take (i := 7) (oi := { dst := some 44, op := Op.binOp BinOp.eql 9 (Operand.tmp 42) (Operand.tmp 43) 9, type := 4, pos := "law.go:235", after := #[{ on := 5, ground := Ground.data }, { on := 6, ground := Ground.data }, { on := 1, ground := Ground.guard }], guard := some (1, true) }) (v := ?vb7) rfl (by kernel_rfl) (by kernel_rfl) (by kernel_rfl) (fun _ _ _ h => h) (Or.inl ⟨by rfl, ?yb7⟩) (by assumption) ?_
        case yb7 => (intro wX hSw; (try dsimp only at hSw); go_simp <;> with_reducible rfl)
        try simp only [Act.put, List.setIfInBounds_toArray, List.set_cons_zero, List.set_cons_succ]
        refine wpAnyH_take (i := 8) (oi := { dst := some 45, op := Op.load 45 (Operand.tmp 2), type := 45, pos := "law.go:235", after := #[{ on := 1, ground := Ground.guard }], guard := some (1, true) }) (v := ?vb8) rfl (by kernel_rfl) (by kernel_rfl) (by kernel_rfl) (fun _ _ _ h => h) (Or.inl ⟨by rfl, ?yb8⟩) (by assumption) ?_
        case yb8 => (intro wX hSw; (try dsimp only at hSw); go_simp <;> with_reducible rfl)
        try simp only [Act.put, List.setIfInBounds_toArray, List.set_cons_zero, List.set_cons_succ]
        refine wpAnyH_take (i := 9) (oi := { dst := some 46, op := Op.load 45 (Operand.tmp 3), type := 45, pos := "law.go:235", after := #[{ on := 1, ground := Ground.guard }], guard := some (1, true) }) (v := ?vb9) rfl (by kernel_rfl) (by kernel_rfl) (by kernel_rfl) (fun _ _ _ h => h) (Or.inl ⟨by rfl, ?yb9⟩) (by assumption) ?_
        case yb9 => (intro wX hSw; (try dsimp only at hSw); go_simp <;> with_reducible rfl)
        try simp only [Act.put, List.setIfInBounds_toArray, List.set_cons_zero, List.set_cons_succ]
        refine wpAnyH_ready (rs := [10]) (by kernel_rfl) (by simp) (AllReadyH.cons (o := { dst := some 47, op := Op.call { callee := Callee.value (Operand.func 46), args := #[Operand.tmp 45, Operand.tmp 46], argTypes := #[45, 45] }, type := 4, pos := "law.go:235", after := #[{ on := 8, ground := Ground.data }, { on := 9, ground := Ground.data }, { on := 1, ground := Ground.chain }, { on := 1, ground := Ground.guard }], guard := some (1, true) }) rfl (fun K hK => ?_) AllReadyH.nil)
        (go_simp; go_at_call 46; refine (hcs.out _ hw6.drew).mono ?_; rintro e w7 ⟨rfl, hb7⟩)
        refine hK.out _ _ (held_call_drew hw6 hv6 hu6 hb7) (fun hHeld => ?_)
        clear hK K
        try simp only [Act.put, List.setIfInBounds_toArray, List.set_cons_zero, List.set_cons_succ]
        refine wpAnyH_take (i := 11) (oi := { dst := some 48, op := Op.binOp BinOp.eql 4 (Operand.tmp 44) (Operand.tmp 47) 4, type := 4, pos := "law.go:235", after := #[{ on := 7, ground := Ground.data }, { on := 10, ground := Ground.data }, { on := 1, ground := Ground.guard }], guard := some (1, true) }) (v := ?vb11) rfl (by kernel_rfl) (by kernel_rfl) (by kernel_rfl) (fun _ _ _ h => h) (Or.inl ⟨by rfl, ?yb11⟩) (by assumption) ?_
        case yb11 => (intro wX hSw; (try dsimp only at hSw); go_simp <;> with_reducible rfl)
        try simp only [Act.put, List.setIfInBounds_toArray, List.set_cons_zero, List.set_cons_succ]
        refine wpAnyH_take (i := 12) (oi := { dst := some 49, op := Op.pick (Operand.tmp 38) (Operand.tmp 48) (Operand.const (Value.bool false)), type := 4, pos := "law.go:235", after := #[{ on := 1, ground := Ground.data }, { on := 11, ground := Ground.data }], guard := none }) (v := ?vb12) rfl (by kernel_rfl) (by kernel_rfl) (by kernel_rfl) (fun _ _ _ h => h) (Or.inl ⟨by rfl, ?yb12⟩) (by assumption) ?_
        case yb12 => (intro wX hSw; (try dsimp only at hSw); go_simp <;> with_reducible rfl)
        try simp only [Act.put, List.setIfInBounds_toArray, List.set_cons_zero, List.set_cons_succ]
        refine wpAnyH_take (i := 13) (oi := { dst := some 50, op := Op.move (Operand.tmp 49), type := 4, pos := "law.go:235", after := #[{ on := 12, ground := Ground.data }, { on := 10, ground := Ground.chain }], guard := none }) (v := ?vb13) rfl (by kernel_rfl) (by kernel_rfl) (by kernel_rfl) (fun _ _ _ h => h) (Or.inl ⟨by rfl, ?yb13⟩) (by assumption) ?_
        case yb13 => (intro wX hSw; (try dsimp only at hSw); go_simp <;> with_reducible rfl)
        try simp only [Act.put, List.setIfInBounds_toArray, List.set_cons_zero, List.set_cons_succ]
        refine wpAnyH_take (i := 14) (oi := { dst := some 51, op := Op.move (Operand.tmp 6), type := 9, pos := "law.go:235", after := #[{ on := 13, ground := Ground.guard }], guard := some (13, true) }) (v := ?vb14) rfl (by kernel_rfl) (by kernel_rfl) (by kernel_rfl) (fun _ _ _ h => h) (Or.inl ⟨by rfl, ?yb14⟩) (by assumption) ?_
        case yb14 => (intro wX hSw; (try dsimp only at hSw); go_simp <;> with_reducible rfl)
        try simp only [Act.put, List.setIfInBounds_toArray, List.set_cons_zero, List.set_cons_succ]
        refine wpAnyH_take (i := 15) (oi := { dst := some 52, op := Op.call { callee := Callee.builtin Builtin.len, args := #[Operand.tmp 51], argTypes := #[9] }, type := 3, pos := "law.go:235", after := #[{ on := 14, ground := Ground.data }, { on := 13, ground := Ground.guard }], guard := some (13, true) }) (v := ?vb15) rfl (by kernel_rfl) (by kernel_rfl) (by kernel_rfl) (fun _ _ _ h => h) (Or.inl ⟨by rfl, ?yb15⟩) (by assumption) ?_
        case yb15 => (intro wX hSw; (try dsimp only at hSw); go_simp <;> with_reducible rfl)
        try simp only [Act.put, List.setIfInBounds_toArray, List.set_cons_zero, List.set_cons_succ]
        refine wpAnyH_take (i := 16) (oi := { dst := some 53, op := Op.move (Operand.tmp 7), type := 9, pos := "law.go:235", after := #[{ on := 13, ground := Ground.guard }], guard := some (13, true) }) (v := ?vb16) rfl (by kernel_rfl) (by kernel_rfl) (by kernel_rfl) (fun _ _ _ h => h) (Or.inl ⟨by rfl, ?yb16⟩) (by assumption) ?_
        case yb16 => (intro wX hSw; (try dsimp only at hSw); go_simp <;> with_reducible rfl)
        try simp only [Act.put, List.setIfInBounds_toArray, List.set_cons_zero, List.set_cons_succ]
        refine wpAnyH_take (i := 17) (oi := { dst := some 54, op := Op.call { callee := Callee.builtin Builtin.len, args := #[Operand.tmp 53], argTypes := #[9] }, type := 3, pos := "law.go:235", after := #[{ on := 16, ground := Ground.data }, { on := 13, ground := Ground.guard }], guard := some (13, true) }) (v := ?vb17) rfl (by kernel_rfl) (by kernel_rfl) (by kernel_rfl) (fun _ _ _ h => h) (Or.inl ⟨by rfl, ?yb17⟩) (by assumption) ?_
        case yb17 => (intro wX hSw; (try dsimp only at hSw); go_simp <;> with_reducible rfl)
        try simp only [Act.put, List.setIfInBounds_toArray, List.set_cons_zero, List.set_cons_succ]
        refine wpAnyH_take (i := 18) (oi := { dst := some 55, op := Op.binOp BinOp.eql 3 (Operand.tmp 52) (Operand.tmp 54) 3, type := 4, pos := "law.go:235", after := #[{ on := 15, ground := Ground.data }, { on := 17, ground := Ground.data }, { on := 13, ground := Ground.guard }], guard := some (13, true) }) (v := ?vb18) rfl (by kernel_rfl) (by kernel_rfl) (by kernel_rfl) (fun _ _ _ h => h) (Or.inl ⟨by rfl, ?yb18⟩) (by assumption) ?_
        case yb18 => (intro wX hSw; (try dsimp only at hSw); go_simp <;> with_reducible rfl)
        try simp only [Act.put, List.setIfInBounds_toArray, List.set_cons_zero, List.set_cons_succ]
        refine wpAnyH_take (i := 19) (oi := { dst := some 56, op := Op.move (Operand.tmp 55), type := 4, pos := "law.go:235", after := #[{ on := 18, ground := Ground.data }, { on := 13, ground := Ground.chain }, { on := 13, ground := Ground.guard }], guard := some (13, true) }) (v := ?vb19) rfl (by kernel_rfl) (by kernel_rfl) (by kernel_rfl) (fun _ _ _ h => h) (Or.inl ⟨by rfl, ?yb19⟩) (by assumption) ?_
        case yb19 => (intro wX hSw; (try dsimp only at hSw); go_simp <;> with_reducible rfl)
        try simp only [Act.put, List.setIfInBounds_toArray, List.set_cons_zero, List.set_cons_succ]
        refine wpAnyH_take (i := 20) (oi := { dst := some 57, op := Op.load 45 (Operand.tmp 2), type := 45, pos := "law.go:235", after := #[{ on := 19, ground := Ground.guard }], guard := some (19, false) }) (v := undef) rfl (by kernel_rfl) (by kernel_rfl) (by kernel_rfl) (fun _ _ _ h => h) (Or.inr ⟨by rfl, rfl⟩) (by assumption) ?_
        try simp only [Act.put, List.setIfInBounds_toArray, List.set_cons_zero, List.set_cons_succ]
        refine wpAnyH_take (i := 21) (oi := { dst := some 58, op := Op.load 45 (Operand.tmp 3), type := 45, pos := "law.go:235", after := #[{ on := 19, ground := Ground.guard }], guard := some (19, false) }) (v := undef) rfl (by kernel_rfl) (by kernel_rfl) (by kernel_rfl) (fun _ _ _ h => h) (Or.inr ⟨by rfl, rfl⟩) (by assumption) ?_
        try simp only [Act.put, List.setIfInBounds_toArray, List.set_cons_zero, List.set_cons_succ]
        refine wpAnyH_take (i := 22) (oi := { dst := some 59, op := Op.call { callee := Callee.value (Operand.func 46), args := #[Operand.tmp 57, Operand.tmp 58], argTypes := #[45, 45] }, type := 4, pos := "law.go:235", after := #[{ on := 20, ground := Ground.data }, { on := 21, ground := Ground.data }, { on := 19, ground := Ground.chain }, { on := 19, ground := Ground.guard }], guard := some (19, false) }) (v := undef) rfl (by kernel_rfl) (by kernel_rfl) (by kernel_rfl) (fun _ _ _ h => h) (Or.inr ⟨by rfl, rfl⟩) (by assumption) ?_
        try simp only [Act.put, List.setIfInBounds_toArray, List.set_cons_zero, List.set_cons_succ]
        refine wpAnyH_take (i := 23) (oi := { dst := some 60, op := Op.unOp UnOp.not 4 (Operand.tmp 59), type := 4, pos := "law.go:235", after := #[{ on := 22, ground := Ground.data }, { on := 19, ground := Ground.guard }], guard := some (19, false) }) (v := undef) rfl (by kernel_rfl) (by kernel_rfl) (by kernel_rfl) (fun _ _ _ h => h) (Or.inr ⟨by rfl, rfl⟩) (by assumption) ?_
        try simp only [Act.put, List.setIfInBounds_toArray, List.set_cons_zero, List.set_cons_succ]
        refine wpAnyH_take (i := 24) (oi := { dst := some 61, op := Op.pick (Operand.tmp 56) (Operand.const (Value.bool true)) (Operand.tmp 60), type := 4, pos := "law.go:235", after := #[{ on := 19, ground := Ground.data }, { on := 23, ground := Ground.data }, { on := 13, ground := Ground.guard }], guard := some (13, true) }) (v := ?vb24) rfl (by kernel_rfl) (by kernel_rfl) (by kernel_rfl) (fun _ _ _ h => h) (Or.inl ⟨by rfl, ?yb24⟩) (by assumption) ?_
        case yb24 => (intro wX hSw; (try dsimp only at hSw); go_simp <;> with_reducible rfl)
        try simp only [Act.put, List.setIfInBounds_toArray, List.set_cons_zero, List.set_cons_succ]
        refine wpAnyH_take (i := 25) (oi := { dst := some 62, op := Op.pick (Operand.tmp 50) (Operand.tmp 61) (Operand.const (Value.bool false)), type := 4, pos := "law.go:235", after := #[{ on := 13, ground := Ground.data }, { on := 24, ground := Ground.data }], guard := none }) (v := ?vb25) rfl (by kernel_rfl) (by kernel_rfl) (by kernel_rfl) (fun _ _ _ h => h) (Or.inl ⟨by rfl, ?yb25⟩) (by assumption) ?_
        case yb25 => (intro wX hSw; (try dsimp only at hSw); go_simp <;> with_reducible rfl)
        try simp only [Act.put, List.setIfInBounds_toArray, List.set_cons_zero, List.set_cons_succ]
        refine wpAnyH_take (i := 26) (oi := { dst := some 4, op := Op.assign (Operand.tmp 62), type := 4, pos := "law.go:235", after := #[{ on := 25, ground := Ground.data }, { on := 22, ground := Ground.chain }, { on := 0, ground := Ground.phase }, { on := 1, ground := Ground.phase }, { on := 2, ground := Ground.phase }, { on := 3, ground := Ground.phase }, { on := 4, ground := Ground.phase }, { on := 5, ground := Ground.phase }, { on := 6, ground := Ground.phase }, { on := 7, ground := Ground.phase }, { on := 8, ground := Ground.phase }, { on := 9, ground := Ground.phase }, { on := 10, ground := Ground.phase }, { on := 11, ground := Ground.phase }, { on := 12, ground := Ground.phase }, { on := 13, ground := Ground.phase }, { on := 14, ground := Ground.phase }, { on := 15, ground := Ground.phase }, { on := 16, ground := Ground.phase }, { on := 17, ground := Ground.phase }, { on := 18, ground := Ground.phase }, { on := 19, ground := Ground.phase }, { on := 20, ground := Ground.phase }, { on := 21, ground := Ground.phase }, { on := 22, ground := Ground.phase }, { on := 23, ground := Ground.phase }, { on := 24, ground := Ground.phase }, { on := 25, ground := Ground.phase }], guard := none }) (v := ?vb26) rfl (by kernel_rfl) (by kernel_rfl) (by kernel_rfl) (fun _ _ _ h => h) (Or.inl ⟨by rfl, ?yb26⟩) (by assumption) ?_
        case yb26 => (intro wX hSw; (try dsimp only at hSw); go_simp <;> with_reducible rfl)
        try simp only [Act.put, List.setIfInBounds_toArray, List.set_cons_zero, List.set_cons_succ]
        refine wpAnyH_done (by kernel_rfl) ?_ _
        go_wp2
        go_ret
        exact ⟨rfl, hHeld.1⟩
      · have hbe : ((v.write.length : Int) == (u.write.length : Int)) = false := by simp; omega
        clear hll
        go_wp2
        clear f0 f1 f2 f3 f4 g0 g1 g2 g3 g4
        refine wp_region_held_drew (S := (fun W' => Below w.heap.size w W' ∧ ValAt W' w.heap.size v q ∧ ValAt W' (w.heap.size + 1) u r ∧ W'.cell? ⟨w.heap.size, 0, none⟩ = some (.int .i64 v.k) ∧ W'.cell? ⟨w.heap.size, 1, none⟩ = some (.int .i64 v.n) ∧ W'.cell? ⟨w.heap.size, 2, none⟩ = some (.string (bs v.s)) ∧ W'.cell? ⟨w.heap.size, 3, none⟩ = some (.slice q.A v.l.length q.C) ∧ W'.cell? ⟨w.heap.size, 4, none⟩ = some (.slice q.B v.m.length q.D) ∧ W'.cell? ⟨w.heap.size + 1, 0, none⟩ = some (.int .i64 u.k) ∧ W'.cell? ⟨w.heap.size + 1, 1, none⟩ = some (.int .i64 u.n) ∧ W'.cell? ⟨w.heap.size + 1, 2, none⟩ = some (.string (bs u.s)) ∧ W'.cell? ⟨w.heap.size + 1, 3, none⟩ = some (.slice r.A u.l.length r.C) ∧ W'.cell? ⟨w.heap.size + 1, 4, none⟩ = some (.slice r.B u.m.length r.D))) (by kernel_rfl) (held_of hw6.drew hv6 hu6) (fun hHeld => ?_)
        refine wpAnyH_take (i := 0) (oi := { dst := some 37, op := Op.move (Operand.tmp 5), type := 4, pos := "law.go:235", after := #[], guard := none }) (v := ?vc0) rfl (by kernel_rfl) (by kernel_rfl) (by kernel_rfl) (fun _ _ _ h => h) (Or.inl ⟨by rfl, ?yc0⟩) (by assumption) ?_
        case yc0 => (intro wX hSw; (try dsimp only at hSw); go_simp <;> with_reducible rfl)
        try simp only [Act.put, List.setIfInBounds_toArray, List.set_cons_zero, List.set_cons_succ]
        refine wpAnyH_take (i := 1) (oi := { dst := some 38, op := Op.move (Operand.tmp 37), type := 4, pos := "law.go:235", after := #[{ on := 0, ground := Ground.data }], guard := none }) (v := ?vc1) rfl (by kernel_rfl) (by kernel_rfl) (by kernel_rfl) (fun _ _ _ h => h) (Or.inl ⟨by rfl, ?yc1⟩) (by assumption) ?_
        case yc1 => (intro wX hSw; (try dsimp only at hSw); go_simp <;> with_reducible rfl)
        try simp only [Act.put, List.setIfInBounds_toArray, List.set_cons_zero, List.set_cons_succ]
        refine wpAnyH_take (i := 2) (oi := { dst := some 39, op := Op.move (Operand.tmp 7), type := 9, pos := "law.go:235", after := #[{ on := 1, ground := Ground.guard }], guard := some (1, true) }) (v := ?vc2) rfl (by kernel_rfl) (by kernel_rfl) (by kernel_rfl) (fun _ _ _ h => h) (Or.inl ⟨by rfl, ?yc2⟩) (by assumption) ?_
        case yc2 => (intro wX hSw; (try dsimp only at hSw); go_simp <;> with_reducible rfl)
        try simp only [Act.put, List.setIfInBounds_toArray, List.set_cons_zero, List.set_cons_succ]
        refine wpAnyH_take (i := 3) (oi := { dst := some 40, op := Op.move (Operand.tmp 6), type := 9, pos := "law.go:235", after := #[{ on := 1, ground := Ground.guard }], guard := some (1, true) }) (v := ?vc3) rfl (by kernel_rfl) (by kernel_rfl) (by kernel_rfl) (fun _ _ _ h => h) (Or.inl ⟨by rfl, ?yc3⟩) (by assumption) ?_
        case yc3 => (intro wX hSw; (try dsimp only at hSw); go_simp <;> with_reducible rfl)
        try simp only [Act.put, List.setIfInBounds_toArray, List.set_cons_zero, List.set_cons_succ]
        refine wpAnyH_take (i := 4) (oi := { dst := some 41, op := Op.call { callee := Callee.builtin Builtin.len, args := #[Operand.tmp 40], argTypes := #[9] }, type := 3, pos := "law.go:235", after := #[{ on := 3, ground := Ground.data }, { on := 1, ground := Ground.guard }], guard := some (1, true) }) (v := ?vc4) rfl (by kernel_rfl) (by kernel_rfl) (by kernel_rfl) (fun _ _ _ h => h) (Or.inl ⟨by rfl, ?yc4⟩) (by assumption) ?_
        case yc4 => (intro wX hSw; (try dsimp only at hSw); go_simp <;> with_reducible rfl)
        try simp only [Act.put, List.setIfInBounds_toArray, List.set_cons_zero, List.set_cons_succ]
        refine wpAnyH_take (i := 5) (oi := { dst := some 42, op := Op.slice 9 (Operand.tmp 39) none (some (Operand.tmp 41)) none, type := 9, pos := "law.go:235", after := #[{ on := 2, ground := Ground.data }, { on := 4, ground := Ground.data }, { on := 1, ground := Ground.guard }], guard := some (1, true) }) (v := ?vc5) rfl (by kernel_rfl) (by kernel_rfl) (by kernel_rfl) (fun _ _ _ h => h) (Or.inl ⟨by rfl, ?yc5⟩) (by assumption) ?_
        case yc5 => (intro wX hSw; (try dsimp only at hSw); go_simp <;> with_reducible rfl)
        try simp only [Act.put, List.setIfInBounds_toArray, List.set_cons_zero, List.set_cons_succ]
        refine wpAnyH_take (i := 6) (oi := { dst := some 43, op := Op.move (Operand.tmp 6), type := 9, pos := "law.go:235", after := #[{ on := 1, ground := Ground.guard }], guard := some (1, true) }) (v := ?vc6) rfl (by kernel_rfl) (by kernel_rfl) (by kernel_rfl) (fun _ _ _ h => h) (Or.inl ⟨by rfl, ?yc6⟩) (by assumption) ?_
        case yc6 => (intro wX hSw; (try dsimp only at hSw); go_simp <;> with_reducible rfl)
        try simp only [Act.put, List.setIfInBounds_toArray, List.set_cons_zero, List.set_cons_succ]
        refine wpAnyH_take (i := 7) (oi := { dst := some 44, op := Op.binOp BinOp.eql 9 (Operand.tmp 42) (Operand.tmp 43) 9, type := 4, pos := "law.go:235", after := #[{ on := 5, ground := Ground.data }, { on := 6, ground := Ground.data }, { on := 1, ground := Ground.guard }], guard := some (1, true) }) (v := ?vc7) rfl (by kernel_rfl) (by kernel_rfl) (by kernel_rfl) (fun _ _ _ h => h) (Or.inl ⟨by rfl, ?yc7⟩) (by assumption) ?_
        case yc7 => (intro wX hSw; (try dsimp only at hSw); go_simp <;> with_reducible rfl)
        try simp only [Act.put, List.setIfInBounds_toArray, List.set_cons_zero, List.set_cons_succ]
        refine wpAnyH_take (i := 8) (oi := { dst := some 45, op := Op.load 45 (Operand.tmp 2), type := 45, pos := "law.go:235", after := #[{ on := 1, ground := Ground.guard }], guard := some (1, true) }) (v := ?vc8) rfl (by kernel_rfl) (by kernel_rfl) (by kernel_rfl) (fun _ _ _ h => h) (Or.inl ⟨by rfl, ?yc8⟩) (by assumption) ?_
        case yc8 => (intro wX hSw; (try dsimp only at hSw); go_simp <;> with_reducible rfl)
        try simp only [Act.put, List.setIfInBounds_toArray, List.set_cons_zero, List.set_cons_succ]
        refine wpAnyH_take (i := 9) (oi := { dst := some 46, op := Op.load 45 (Operand.tmp 3), type := 45, pos := "law.go:235", after := #[{ on := 1, ground := Ground.guard }], guard := some (1, true) }) (v := ?vc9) rfl (by kernel_rfl) (by kernel_rfl) (by kernel_rfl) (fun _ _ _ h => h) (Or.inl ⟨by rfl, ?yc9⟩) (by assumption) ?_
        case yc9 => (intro wX hSw; (try dsimp only at hSw); go_simp <;> with_reducible rfl)
        try simp only [Act.put, List.setIfInBounds_toArray, List.set_cons_zero, List.set_cons_succ]
        refine wpAnyH_ready (rs := [10]) (by kernel_rfl) (by simp) (AllReadyH.cons (o := { dst := some 47, op := Op.call { callee := Callee.value (Operand.func 46), args := #[Operand.tmp 45, Operand.tmp 46], argTypes := #[45, 45] }, type := 4, pos := "law.go:235", after := #[{ on := 8, ground := Ground.data }, { on := 9, ground := Ground.data }, { on := 1, ground := Ground.chain }, { on := 1, ground := Ground.guard }], guard := some (1, true) }) rfl (fun K hK => ?_) AllReadyH.nil)
        (go_simp; go_at_call 46; refine (hcs.out _ hw6.drew).mono ?_; rintro e w7 ⟨rfl, hb7⟩)
        refine hK.out _ _ (held_call_drew hw6 hv6 hu6 hb7) (fun hHeld => ?_)
        clear hK K
        try simp only [Act.put, List.setIfInBounds_toArray, List.set_cons_zero, List.set_cons_succ]
        refine wpAnyH_take (i := 11) (oi := { dst := some 48, op := Op.binOp BinOp.eql 4 (Operand.tmp 44) (Operand.tmp 47) 4, type := 4, pos := "law.go:235", after := #[{ on := 7, ground := Ground.data }, { on := 10, ground := Ground.data }, { on := 1, ground := Ground.guard }], guard := some (1, true) }) (v := ?vc11) rfl (by kernel_rfl) (by kernel_rfl) (by kernel_rfl) (fun _ _ _ h => h) (Or.inl ⟨by rfl, ?yc11⟩) (by assumption) ?_
        case yc11 => (intro wX hSw; (try dsimp only at hSw); go_simp <;> with_reducible rfl)
        try simp only [Act.put, List.setIfInBounds_toArray, List.set_cons_zero, List.set_cons_succ]
        refine wpAnyH_take (i := 12) (oi := { dst := some 49, op := Op.pick (Operand.tmp 38) (Operand.tmp 48) (Operand.const (Value.bool false)), type := 4, pos := "law.go:235", after := #[{ on := 1, ground := Ground.data }, { on := 11, ground := Ground.data }], guard := none }) (v := ?vc12) rfl (by kernel_rfl) (by kernel_rfl) (by kernel_rfl) (fun _ _ _ h => h) (Or.inl ⟨by rfl, ?yc12⟩) (by assumption) ?_
        case yc12 => (intro wX hSw; (try dsimp only at hSw); go_simp <;> with_reducible rfl)
        try simp only [Act.put, List.setIfInBounds_toArray, List.set_cons_zero, List.set_cons_succ]
        refine wpAnyH_take (i := 13) (oi := { dst := some 50, op := Op.move (Operand.tmp 49), type := 4, pos := "law.go:235", after := #[{ on := 12, ground := Ground.data }, { on := 10, ground := Ground.chain }], guard := none }) (v := ?vc13) rfl (by kernel_rfl) (by kernel_rfl) (by kernel_rfl) (fun _ _ _ h => h) (Or.inl ⟨by rfl, ?yc13⟩) (by assumption) ?_
        case yc13 => (intro wX hSw; (try dsimp only at hSw); go_simp <;> with_reducible rfl)
        try simp only [Act.put, List.setIfInBounds_toArray, List.set_cons_zero, List.set_cons_succ]
        refine wpAnyH_take (i := 14) (oi := { dst := some 51, op := Op.move (Operand.tmp 6), type := 9, pos := "law.go:235", after := #[{ on := 13, ground := Ground.guard }], guard := some (13, true) }) (v := ?vc14) rfl (by kernel_rfl) (by kernel_rfl) (by kernel_rfl) (fun _ _ _ h => h) (Or.inl ⟨by rfl, ?yc14⟩) (by assumption) ?_
        case yc14 => (intro wX hSw; (try dsimp only at hSw); go_simp <;> with_reducible rfl)
        try simp only [Act.put, List.setIfInBounds_toArray, List.set_cons_zero, List.set_cons_succ]
        refine wpAnyH_take (i := 15) (oi := { dst := some 52, op := Op.call { callee := Callee.builtin Builtin.len, args := #[Operand.tmp 51], argTypes := #[9] }, type := 3, pos := "law.go:235", after := #[{ on := 14, ground := Ground.data }, { on := 13, ground := Ground.guard }], guard := some (13, true) }) (v := ?vc15) rfl (by kernel_rfl) (by kernel_rfl) (by kernel_rfl) (fun _ _ _ h => h) (Or.inl ⟨by rfl, ?yc15⟩) (by assumption) ?_
        case yc15 => (intro wX hSw; (try dsimp only at hSw); go_simp <;> with_reducible rfl)
        try simp only [Act.put, List.setIfInBounds_toArray, List.set_cons_zero, List.set_cons_succ]
        refine wpAnyH_take (i := 16) (oi := { dst := some 53, op := Op.move (Operand.tmp 7), type := 9, pos := "law.go:235", after := #[{ on := 13, ground := Ground.guard }], guard := some (13, true) }) (v := ?vc16) rfl (by kernel_rfl) (by kernel_rfl) (by kernel_rfl) (fun _ _ _ h => h) (Or.inl ⟨by rfl, ?yc16⟩) (by assumption) ?_
        case yc16 => (intro wX hSw; (try dsimp only at hSw); go_simp <;> with_reducible rfl)
        try simp only [Act.put, List.setIfInBounds_toArray, List.set_cons_zero, List.set_cons_succ]
        refine wpAnyH_take (i := 17) (oi := { dst := some 54, op := Op.call { callee := Callee.builtin Builtin.len, args := #[Operand.tmp 53], argTypes := #[9] }, type := 3, pos := "law.go:235", after := #[{ on := 16, ground := Ground.data }, { on := 13, ground := Ground.guard }], guard := some (13, true) }) (v := ?vc17) rfl (by kernel_rfl) (by kernel_rfl) (by kernel_rfl) (fun _ _ _ h => h) (Or.inl ⟨by rfl, ?yc17⟩) (by assumption) ?_
        case yc17 => (intro wX hSw; (try dsimp only at hSw); go_simp <;> with_reducible rfl)
        try simp only [Act.put, List.setIfInBounds_toArray, List.set_cons_zero, List.set_cons_succ]
        refine wpAnyH_take (i := 18) (oi := { dst := some 55, op := Op.binOp BinOp.eql 3 (Operand.tmp 52) (Operand.tmp 54) 3, type := 4, pos := "law.go:235", after := #[{ on := 15, ground := Ground.data }, { on := 17, ground := Ground.data }, { on := 13, ground := Ground.guard }], guard := some (13, true) }) (v := ?vc18) rfl (by kernel_rfl) (by kernel_rfl) (by kernel_rfl) (fun _ _ _ h => h) (Or.inl ⟨by rfl, ?yc18⟩) (by assumption) ?_
        case yc18 => (intro wX hSw; (try dsimp only at hSw); go_simp <;> with_reducible rfl)
        try simp only [Act.put, List.setIfInBounds_toArray, List.set_cons_zero, List.set_cons_succ]
        refine wpAnyH_take (i := 19) (oi := { dst := some 56, op := Op.move (Operand.tmp 55), type := 4, pos := "law.go:235", after := #[{ on := 18, ground := Ground.data }, { on := 13, ground := Ground.chain }, { on := 13, ground := Ground.guard }], guard := some (13, true) }) (v := ?vc19) rfl (by kernel_rfl) (by kernel_rfl) (by kernel_rfl) (fun _ _ _ h => h) (Or.inl ⟨by rfl, ?yc19⟩) (by assumption) ?_
        case yc19 => (intro wX hSw; (try dsimp only at hSw); go_simp <;> with_reducible rfl)
        try simp only [Act.put, List.setIfInBounds_toArray, List.set_cons_zero, List.set_cons_succ]
        refine wpAnyH_take (i := 20) (oi := { dst := some 57, op := Op.load 45 (Operand.tmp 2), type := 45, pos := "law.go:235", after := #[{ on := 19, ground := Ground.guard }], guard := some (19, false) }) (v := ?vc20) rfl (by kernel_rfl) (by kernel_rfl) (by kernel_rfl) (fun _ _ _ h => h) (Or.inl ⟨by rfl, ?yc20⟩) (by assumption) ?_
        case yc20 => (intro wX hSw; (try dsimp only at hSw); go_simp <;> with_reducible rfl)
        try simp only [Act.put, List.setIfInBounds_toArray, List.set_cons_zero, List.set_cons_succ]
        refine wpAnyH_take (i := 21) (oi := { dst := some 58, op := Op.load 45 (Operand.tmp 3), type := 45, pos := "law.go:235", after := #[{ on := 19, ground := Ground.guard }], guard := some (19, false) }) (v := ?vc21) rfl (by kernel_rfl) (by kernel_rfl) (by kernel_rfl) (fun _ _ _ h => h) (Or.inl ⟨by rfl, ?yc21⟩) (by assumption) ?_
        case yc21 => (intro wX hSw; (try dsimp only at hSw); go_simp <;> with_reducible rfl)
        try simp only [Act.put, List.setIfInBounds_toArray, List.set_cons_zero, List.set_cons_succ]
        refine wpAnyH_ready (rs := [22]) (by kernel_rfl) (by simp) (AllReadyH.cons (o := { dst := some 59, op := Op.call { callee := Callee.value (Operand.func 46), args := #[Operand.tmp 57, Operand.tmp 58], argTypes := #[45, 45] }, type := 4, pos := "law.go:235", after := #[{ on := 20, ground := Ground.data }, { on := 21, ground := Ground.data }, { on := 19, ground := Ground.chain }, { on := 19, ground := Ground.guard }], guard := some (19, false) }) rfl (fun K hK => ?_) AllReadyH.nil)
        (go_simp; go_at_call 46; refine (hcs.out _ hHeld.1).mono ?_; rintro e w8 ⟨rfl, hb8⟩)
        refine hK.out _ _ (held_call hHeld.1 hHeld.2.1 hHeld.2.2.1 hb8) (fun hHeld => ?_)
        clear hK K
        try simp only [Act.put, List.setIfInBounds_toArray, List.set_cons_zero, List.set_cons_succ]
        refine wpAnyH_take (i := 23) (oi := { dst := some 60, op := Op.unOp UnOp.not 4 (Operand.tmp 59), type := 4, pos := "law.go:235", after := #[{ on := 22, ground := Ground.data }, { on := 19, ground := Ground.guard }], guard := some (19, false) }) (v := ?vc23) rfl (by kernel_rfl) (by kernel_rfl) (by kernel_rfl) (fun _ _ _ h => h) (Or.inl ⟨by rfl, ?yc23⟩) (by assumption) ?_
        case yc23 => (intro wX hSw; (try dsimp only at hSw); go_simp <;> with_reducible rfl)
        try simp only [Act.put, List.setIfInBounds_toArray, List.set_cons_zero, List.set_cons_succ]
        refine wpAnyH_take (i := 24) (oi := { dst := some 61, op := Op.pick (Operand.tmp 56) (Operand.const (Value.bool true)) (Operand.tmp 60), type := 4, pos := "law.go:235", after := #[{ on := 19, ground := Ground.data }, { on := 23, ground := Ground.data }, { on := 13, ground := Ground.guard }], guard := some (13, true) }) (v := ?vc24) rfl (by kernel_rfl) (by kernel_rfl) (by kernel_rfl) (fun _ _ _ h => h) (Or.inl ⟨by rfl, ?yc24⟩) (by assumption) ?_
        case yc24 => (intro wX hSw; (try dsimp only at hSw); go_simp <;> with_reducible rfl)
        try simp only [Act.put, List.setIfInBounds_toArray, List.set_cons_zero, List.set_cons_succ]
        refine wpAnyH_take (i := 25) (oi := { dst := some 62, op := Op.pick (Operand.tmp 50) (Operand.tmp 61) (Operand.const (Value.bool false)), type := 4, pos := "law.go:235", after := #[{ on := 13, ground := Ground.data }, { on := 24, ground := Ground.data }], guard := none }) (v := ?vc25) rfl (by kernel_rfl) (by kernel_rfl) (by kernel_rfl) (fun _ _ _ h => h) (Or.inl ⟨by rfl, ?yc25⟩) (by assumption) ?_
        case yc25 => (intro wX hSw; (try dsimp only at hSw); go_simp <;> with_reducible rfl)
        try simp only [Act.put, List.setIfInBounds_toArray, List.set_cons_zero, List.set_cons_succ]
        refine wpAnyH_take (i := 26) (oi := { dst := some 4, op := Op.assign (Operand.tmp 62), type := 4, pos := "law.go:235", after := #[{ on := 25, ground := Ground.data }, { on := 22, ground := Ground.chain }, { on := 0, ground := Ground.phase }, { on := 1, ground := Ground.phase }, { on := 2, ground := Ground.phase }, { on := 3, ground := Ground.phase }, { on := 4, ground := Ground.phase }, { on := 5, ground := Ground.phase }, { on := 6, ground := Ground.phase }, { on := 7, ground := Ground.phase }, { on := 8, ground := Ground.phase }, { on := 9, ground := Ground.phase }, { on := 10, ground := Ground.phase }, { on := 11, ground := Ground.phase }, { on := 12, ground := Ground.phase }, { on := 13, ground := Ground.phase }, { on := 14, ground := Ground.phase }, { on := 15, ground := Ground.phase }, { on := 16, ground := Ground.phase }, { on := 17, ground := Ground.phase }, { on := 18, ground := Ground.phase }, { on := 19, ground := Ground.phase }, { on := 20, ground := Ground.phase }, { on := 21, ground := Ground.phase }, { on := 22, ground := Ground.phase }, { on := 23, ground := Ground.phase }, { on := 24, ground := Ground.phase }, { on := 25, ground := Ground.phase }], guard := none }) (v := ?vc26) rfl (by kernel_rfl) (by kernel_rfl) (by kernel_rfl) (fun _ _ _ h => h) (Or.inl ⟨by rfl, ?yc26⟩) (by assumption) ?_
        case yc26 => (intro wX hSw; (try dsimp only at hSw); go_simp <;> with_reducible rfl)
        try simp only [Act.put, List.setIfInBounds_toArray, List.set_cons_zero, List.set_cons_succ]
        refine wpAnyH_done (by kernel_rfl) ?_ _
        go_wp2
        go_ret
        exact ⟨rfl, hHeld.1⟩
end Go.Proofs.Ytckgnmloemnkcaa
