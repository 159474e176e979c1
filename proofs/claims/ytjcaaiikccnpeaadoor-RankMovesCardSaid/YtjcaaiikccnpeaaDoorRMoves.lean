/- RankMoves, walked: it answers true. -/
import Derived.Test.YtjcaaiikccnpeaaDoorSmallR
import Derived.Deep.DeepCutAuto
import Derived.Deep.RegionHeld3
namespace Go.Proofs.YtjcaaiikccnpeaaDoor
open Go.ChangeShapes Go.WideShapes Go.ChangeAt Go.RowKit Go.Lib
set_option linter.unusedVariables false

theorem moves_facts (a b c d x y z p q r : Int) (w W : World) (hW : Below (w.heap.size + 3) (((w.alloc (.cells #[.int .i64 a, .int .i64 b, .int .i64 c, .int .i64 d] 23)).alloc (.cells #[.int .i64 x, .int .i64 y, .int .i64 z] 31)).alloc (.cells #[.int .i64 p, .int .i64 q, .int .i64 r] 31)) W) : Below w.heap.size w W ∧ W.cell? ⟨w.heap.size, 0, none⟩ = some (.int .i64 a) ∧ W.cell? ⟨w.heap.size, 1, none⟩ = some (.int .i64 b) ∧ W.cell? ⟨w.heap.size, 2, none⟩ = some (.int .i64 c) ∧ W.cell? ⟨w.heap.size, 3, none⟩ = some (.int .i64 d) ∧ W.cell? ⟨w.heap.size + 1, 0, none⟩ = some (.int .i64 x) ∧ W.cell? ⟨w.heap.size + 1, 1, none⟩ = some (.int .i64 y) ∧ W.cell? ⟨w.heap.size + 1, 2, none⟩ = some (.int .i64 z) ∧ W.cell? ⟨w.heap.size + 2, 0, none⟩ = some (.int .i64 p) ∧ W.cell? ⟨w.heap.size + 2, 1, none⟩ = some (.int .i64 q) ∧ W.cell? ⟨w.heap.size + 2, 2, none⟩ = some (.int .i64 r) := by
  have hs1 : (w.alloc (.cells #[.int .i64 a, .int .i64 b, .int .i64 c, .int .i64 d] 23)).heap.size = w.heap.size + 1 := by simp
  have hs2 : ((w.alloc (.cells #[.int .i64 a, .int .i64 b, .int .i64 c, .int .i64 d] 23)).alloc (.cells #[.int .i64 x, .int .i64 y, .int .i64 z] 31)).heap.size = w.heap.size + 2 := by simp
  have g1 : W.heap[w.heap.size]? = some (.cells #[.int .i64 a, .int .i64 b, .int .i64 c, .int .i64 d] 23 (0, 0)) := by
    rw [hW.block _ (by omega), Below.heap_alloc _ _ _ (by omega), Below.heap_alloc _ _ _ (by omega), heap_alloc_new]
  have g2 : W.heap[w.heap.size + 1]? = some (.cells #[.int .i64 x, .int .i64 y, .int .i64 z] 31 (0, 0)) := by
    rw [hW.block _ (by omega), Below.heap_alloc _ _ _ (by omega), ← hs1, heap_alloc_new]
  have g3 : W.heap[w.heap.size + 2]? = some (.cells #[.int .i64 p, .int .i64 q, .int .i64 r] 31 (0, 0)) := by
    rw [hW.block _ (by omega), ← hs2, heap_alloc_new]
  obtain ⟨f0, f1, f2, f3⟩ := fourT g1
  obtain ⟨f4, f5, f6⟩ := threeT g2
  obtain ⟨f7, f8, f9⟩ := threeT g3
  have hb : Below w.heap.size w (((w.alloc (.cells #[.int .i64 a, .int .i64 b, .int .i64 c, .int .i64 d] 23)).alloc (.cells #[.int .i64 x, .int .i64 y, .int .i64 z] 31)).alloc (.cells #[.int .i64 p, .int .i64 q, .int .i64 r] 31)) := (((Below.refl _ _).alloc (Nat.le_refl _) _).alloc (by omega) _).alloc (by omega) _
  exact ⟨hb.trans (hW.mono (by omega)), f0, f1, f2, f3, f4, f5, f6, f7, f8, f9⟩
set_option maxRecDepth 100000 in
set_option maxHeartbeats 4000000 in
theorem moves_in (a b c d x y z p q r time now later s s1 s2 s3 sm m1 m2 m3 n1 : Int) (vb bd early : Bool) (w : World) (hL : LaidA w)
    (cv : ∀ W, Calls Tryd.prog 11 #[.agg #[.int .i64 a, .int .i64 b, .int .i64 c, .int .i64 d]] W (BoolPost W vb))
    (cS : ∀ W, Calls Tryd.prog 12 #[.agg #[.int .i64 a, .int .i64 b, .int .i64 c, .int .i64 d], .agg #[.int .i64 x, .int .i64 y, .int .i64 z], .int .i64 time, .int .i64 now] W (IntPost W s)) (cU : ∀ W, Calls Tryd.prog 12 #[.agg #[.int .i64 a, .int .i64 b, .int .i64 c, .int .i64 d], .agg #[.int .i64 p, .int .i64 q, .int .i64 r], .int .i64 time, .int .i64 now] W (IntPost W s1)) (cLt : ∀ W, Calls Tryd.prog 12 #[.agg #[.int .i64 a, .int .i64 b, .int .i64 c, .int .i64 d], .agg #[.int .i64 x, .int .i64 y, .int .i64 z], .int .i64 time, .int .i64 later] W (IntPost W s2)) (cO : ∀ W, Calls Tryd.prog 12 #[.agg #[.int .i64 a, .int .i64 b, .int .i64 c, .int .i64 d], .agg #[.int .i64 x, .int .i64 y, .int .i64 z], .int .i64 0, .int .i64 now] W (IntPost W s3)) (cN : ∀ W, Calls Tryd.prog 12 #[.agg #[.int .i64 a, .int .i64 b, .int .i64 c, .int .i64 d], .agg #[.int .i64 x, .int .i64 y, .int .i64 z], .int .i64 now, .int .i64 now] W (IntPost W sm))
    (cM1 : ∀ W, Calls Tryd.prog 14 #[.int .i64 a, .int .i64 x] W (IntPost W m1)) (cM2 : ∀ W, Calls Tryd.prog 14 #[.int .i64 b, .int .i64 y] W (IntPost W m2)) (cA1 : ∀ W, Calls Tryd.prog 13 #[.int .i64 m1, .int .i64 m2] W (IntPost W n1)) (cM3 : ∀ W, Calls Tryd.prog 14 #[.int .i64 c, .int .i64 z] W (IntPost W m3)) (cA2 : ∀ W, Calls Tryd.prog 13 #[.int .i64 n1, .int .i64 m3] W (IntPost W sm))
    (o1 : (decide (0 ≤ x) = false ∧ bd = false) ∨ (decide (0 ≤ x) = true ∧ decide (x ≤ 1125899906842624) = false ∧ bd = false) ∨ (decide (0 ≤ x) = true ∧ decide (x ≤ 1125899906842624) = true ∧ decide (0 ≤ y) = false ∧ bd = false) ∨ (decide (0 ≤ x) = true ∧ decide (x ≤ 1125899906842624) = true ∧ decide (0 ≤ y) = true ∧ decide (y ≤ 1125899906842624) = false ∧ bd = false) ∨ (decide (0 ≤ x) = true ∧ decide (x ≤ 1125899906842624) = true ∧ decide (0 ≤ y) = true ∧ decide (y ≤ 1125899906842624) = true ∧ decide (0 ≤ z) = false ∧ bd = false) ∨ (decide (0 ≤ x) = true ∧ decide (x ≤ 1125899906842624) = true ∧ decide (0 ≤ y) = true ∧ decide (y ≤ 1125899906842624) = true ∧ decide (0 ≤ z) = true ∧ decide (z ≤ 1125899906842624) = false ∧ bd = false) ∨ (decide (0 ≤ x) = true ∧ decide (x ≤ 1125899906842624) = true ∧ decide (0 ≤ y) = true ∧ decide (y ≤ 1125899906842624) = true ∧ decide (0 ≤ z) = true ∧ decide (z ≤ 1125899906842624) = true ∧ bd = true))
    (o2 : (vb = false ∧ early = true) ∨ (vb = true ∧ bd = false ∧ early = true) ∨ (vb = true ∧ bd = true ∧ decide (p < x) = true ∧ early = true) ∨ (vb = true ∧ bd = true ∧ decide (p < x) = false ∧ decide (q < y) = true ∧ early = true) ∨ (vb = true ∧ bd = true ∧ decide (p < x) = false ∧ decide (q < y) = false ∧ decide (r < z) = true ∧ early = true) ∨ (vb = true ∧ bd = true ∧ decide (p < x) = false ∧ decide (q < y) = false ∧ decide (r < z) = false ∧ decide (time < 0) = true ∧ early = true) ∨ (vb = true ∧ bd = true ∧ decide (p < x) = false ∧ decide (q < y) = false ∧ decide (r < z) = false ∧ decide (time < 0) = false ∧ decide (1125899906842624 < time) = true ∧ early = true) ∨ (vb = true ∧ bd = true ∧ decide (p < x) = false ∧ decide (q < y) = false ∧ decide (r < z) = false ∧ decide (time < 0) = false ∧ decide (1125899906842624 < time) = false ∧ decide (now < 0) = true ∧ early = true) ∨ (vb = true ∧ bd = true ∧ decide (p < x) = false ∧ decide (q < y) = false ∧ decide (r < z) = false ∧ decide (time < 0) = false ∧ decide (1125899906842624 < time) = false ∧ decide (now < 0) = false ∧ decide (1125899906842624 < now) = true ∧ early = true) ∨ (vb = true ∧ bd = true ∧ decide (p < x) = false ∧ decide (q < y) = false ∧ decide (r < z) = false ∧ decide (time < 0) = false ∧ decide (1125899906842624 < time) = false ∧ decide (now < 0) = false ∧ decide (1125899906842624 < now) = false ∧ decide (later < now) = true ∧ early = true) ∨ (vb = true ∧ bd = true ∧ decide (p < x) = false ∧ decide (q < y) = false ∧ decide (r < z) = false ∧ decide (time < 0) = false ∧ decide (1125899906842624 < time) = false ∧ decide (now < 0) = false ∧ decide (1125899906842624 < now) = false ∧ decide (later < now) = false ∧ early = false))
    (k1 : early = false → (decide (s1 < s) = false ∧ decide (s < s2) = false ∧ decide (s < s3) = false ∧ decide (1125899906842624 < s) = false ∧ decide (s < -1125899906842624) = false ∧ (decide (time < now) = true ∨ (decide (time < now) = false ∧ (s == sm) = true)))) :
    Calls Tryd.prog 4 #[.agg #[.int .i64 a, .int .i64 b, .int .i64 c, .int .i64 d], .agg #[.int .i64 x, .int .i64 y, .int .i64 z], .agg #[.int .i64 p, .int .i64 q, .int .i64 r], .int .i64 time, .int .i64 now, .int .i64 later] w (BoolPost w true) := by
  have cs := fun W hW => small_any W hW
  have O1 := Lib.hid o1
  have O2 := Lib.hid o2
  have K1 := Lib.hid k1
  clear o1 o2 k1
  have F1 : Hid (∀ W, Below (w.heap.size + 3) (((w.alloc (.cells #[.int .i64 a, .int .i64 b, .int .i64 c, .int .i64 d] 23)).alloc (.cells #[.int .i64 x, .int .i64 y, .int .i64 z] 31)).alloc (.cells #[.int .i64 p, .int .i64 q, .int .i64 r] 31)) W → Below w.heap.size w W ∧ W.cell? ⟨w.heap.size, 0, none⟩ = some (.int .i64 a) ∧ W.cell? ⟨w.heap.size, 1, none⟩ = some (.int .i64 b) ∧ W.cell? ⟨w.heap.size, 2, none⟩ = some (.int .i64 c) ∧ W.cell? ⟨w.heap.size, 3, none⟩ = some (.int .i64 d) ∧ W.cell? ⟨w.heap.size + 1, 0, none⟩ = some (.int .i64 x) ∧ W.cell? ⟨w.heap.size + 1, 1, none⟩ = some (.int .i64 y) ∧ W.cell? ⟨w.heap.size + 1, 2, none⟩ = some (.int .i64 z) ∧ W.cell? ⟨w.heap.size + 2, 0, none⟩ = some (.int .i64 p) ∧ W.cell? ⟨w.heap.size + 2, 1, none⟩ = some (.int .i64 q) ∧ W.cell? ⟨w.heap.size + 2, 2, none⟩ = some (.int .i64 r)) := fun W hW => moves_facts a b c d x y z p q r w W hW
  have hsz : (((w.alloc (.cells #[.int .i64 a, .int .i64 b, .int .i64 c, .int .i64 d] 23)).alloc (.cells #[.int .i64 x, .int .i64 y, .int .i64 z] 31)).alloc (.cells #[.int .i64 p, .int .i64 q, .int .i64 r] 31)).heap.size = w.heap.size + 3 := by simp
  have F2 : Hid (∀ W W', Below (w.heap.size + 3) (((w.alloc (.cells #[.int .i64 a, .int .i64 b, .int .i64 c, .int .i64 d] 23)).alloc (.cells #[.int .i64 x, .int .i64 y, .int .i64 z] 31)).alloc (.cells #[.int .i64 p, .int .i64 q, .int .i64 r] 31)) W → Below W.heap.size W W' → Below (w.heap.size + 3) (((w.alloc (.cells #[.int .i64 a, .int .i64 b, .int .i64 c, .int .i64 d] 23)).alloc (.cells #[.int .i64 x, .int .i64 y, .int .i64 z] 31)).alloc (.cells #[.int .i64 p, .int .i64 q, .int .i64 r] 31)) W') := fun W W' h h' => h.trans (h'.mono (by have := h.size; rw [hsz] at this; exact this))
  have KB := Lib.hid (Below.refl (w.heap.size + 3) (((w.alloc (.cells #[.int .i64 a, .int .i64 b, .int .i64 c, .int .i64 d] 23)).alloc (.cells #[.int .i64 x, .int .i64 y, .int .i64 z] 31)).alloc (.cells #[.int .i64 p, .int .i64 q, .int .i64 r] 31)))
  clear hsz
  go_enter Tryd.func4, Tryd.ntmps4
  go_wp2_with fail
  generalize (((w.alloc (.cells #[.int .i64 a, .int .i64 b, .int .i64 c, .int .i64 d] 23)).alloc (.cells #[.int .i64 x, .int .i64 y, .int .i64 z] 31)).alloc (.cells #[.int .i64 p, .int .i64 q, .int .i64 r] 31)) = Wb at *
  (with_reducible refine Calls.mono (cs _ (hL.below (F1.out _ KB.out).1)) ?_)
  rintro e w1 ⟨rfl, hbx⟩
  replace KB := Lib.hid (F2.out _ _ KB.out hbx)
  clear hbx cs
  go_upto_region 2 with fail
  go_cut [14] (fun s14 wx => s14 = .bool bd ∧ w1 = wx)
  case first =>
    obtain ⟨hw, f0, f1, f2, f3, f4, f5, f6, f7, f8, f9⟩ := F1.out _ KB.out
    have o1 := O1.out
    clear cv cS cU cLt cO cN cM1 cM2 cA1 cM3 cA2 O1 O2 K1 F1 F2 KB hw
    rcases o1 with ⟨e0, rfl⟩ | ⟨e0, e1, rfl⟩ | ⟨e0, e1, e2, rfl⟩ | ⟨e0, e1, e2, e3, rfl⟩ | ⟨e0, e1, e2, e3, e4, rfl⟩ | ⟨e0, e1, e2, e3, e4, e5, rfl⟩ | ⟨e0, e1, e2, e3, e4, e5, rfl⟩
    all_goals
      go_wp2
      go_meet
      exact ⟨rfl, rfl⟩
  case rest =>
    obtain ⟨rfl, rfl⟩ := hcut
    go_upto_region 3 with fail
    go_cut [95] (fun s95 wx => s95 = .bool early ∧ Below (w.heap.size + 3) Wb wx)
    case first =>
      have o2 := O2.out
      clear O1 O2 K1 cS cU cLt cO cN cM1 cM2 cA1 cM3 cA2
      rcases o2 with ⟨rfl, rfl⟩ | ⟨rfl, rfl, rfl⟩ | ⟨rfl, rfl, e2, rfl⟩ | ⟨rfl, rfl, e2, e3, rfl⟩ | ⟨rfl, rfl, e2, e3, e4, rfl⟩ | ⟨rfl, rfl, e2, e3, e4, e5, rfl⟩ | ⟨rfl, rfl, e2, e3, e4, e5, e6, rfl⟩ | ⟨rfl, rfl, e2, e3, e4, e5, e6, e7, rfl⟩ | ⟨rfl, rfl, e2, e3, e4, e5, e6, e7, e8, rfl⟩ | ⟨rfl, rfl, e2, e3, e4, e5, e6, e7, e8, e9, rfl⟩ | ⟨rfl, rfl, e2, e3, e4, e5, e6, e7, e8, e9, rfl⟩
      all_goals
        obtain ⟨hw, f0, f1, f2, f3, f4, f5, f6, f7, f8, f9⟩ := F1.out _ KB.out
        go_wp2_with fail
        (with_reducible refine Calls.mono (cv _) ?_)
        rintro e w2 ⟨rfl, hbx⟩
        replace KB := Lib.hid (F2.out _ _ KB.out hbx)
        clear hbx hw f0 f1 f2 f3 f4 f5 f6 f7 f8 f9
        obtain ⟨hw, f0, f1, f2, f3, f4, f5, f6, f7, f8, f9⟩ := F1.out _ KB.out
        go_wp2
        go_meet
        exact ⟨rfl, KB.out⟩
    case rest =>
      obtain ⟨rfl, kb⟩ := hcut
      replace KB := Lib.hid kb
      clear kb O1 O2 cv
      cases early with
      | true =>
        have hw := (F1.out _ KB.out).1
        go_wp2
        go_ret
        exact ⟨rfl, hw⟩
      | false =>
        obtain ⟨k1, k2, k3, k4, k5, k6⟩ := K1.out rfl
        clear K1
        obtain ⟨hw, f0, f1, f2, f3, f4, f5, f6, f7, f8, f9⟩ := F1.out _ KB.out
        go_wp2_with fail
        (with_reducible refine Calls.mono (cS _) ?_)
        rintro e w' ⟨rfl, hbx⟩
        replace KB := Lib.hid (F2.out _ _ KB.out hbx)
        clear hbx
        clear hw f0 f1 f2 f3 f4 f5 f6 f7 f8 f9
        obtain ⟨hw, f0, f1, f2, f3, f4, f5, f6, f7, f8, f9⟩ := F1.out _ KB.out
        go_wp2_with fail
        (with_reducible refine Calls.mono (cU _) ?_)
        rintro e w' ⟨rfl, hbx⟩
        replace KB := Lib.hid (F2.out _ _ KB.out hbx)
        clear hbx cU
        clear hw f0 f1 f2 f3 f4 f5 f6 f7 f8 f9
        obtain ⟨hw, f0, f1, f2, f3, f4, f5, f6, f7, f8, f9⟩ := F1.out _ KB.out
        go_wp2_with fail
        (with_reducible refine Calls.mono (cLt _) ?_)
        rintro e w' ⟨rfl, hbx⟩
        replace KB := Lib.hid (F2.out _ _ KB.out hbx)
        clear hbx cLt
        clear hw f0 f1 f2 f3 f4 f5 f6 f7 f8 f9
        obtain ⟨hw, f0, f1, f2, f3, f4, f5, f6, f7, f8, f9⟩ := F1.out _ KB.out
        go_wp2_with fail
        (with_reducible refine Calls.mono (cO _) ?_)
        rintro e w' ⟨rfl, hbx⟩
        replace KB := Lib.hid (F2.out _ _ KB.out hbx)
        clear hbx cO
        clear hw f0 f1 f2 f3 f4 f5 f6 f7 f8 f9
        clear cS
        obtain ⟨hw, f0, f1, f2, f3, f4, f5, f6, f7, f8, f9⟩ := F1.out _ KB.out
        go_wp2
        clear hw f0 f1 f2 f3 f4 f5 f6 f7 f8 f9
        obtain ⟨K, hK⟩ : ∃ K : Hid (Below (w.heap.size + 3) Wb _), K = KB := ⟨_, rfl⟩
        clear hK
        go_region_held3 (fun W => Below (w.heap.size + 3) Wb W ∧ (W.cell? ⟨w.heap.size, 0, none⟩ = some (.int .i64 a) ∧ W.cell? ⟨w.heap.size, 1, none⟩ = some (.int .i64 b) ∧ W.cell? ⟨w.heap.size, 2, none⟩ = some (.int .i64 c) ∧ W.cell? ⟨w.heap.size, 3, none⟩ = some (.int .i64 d) ∧ W.cell? ⟨w.heap.size + 1, 0, none⟩ = some (.int .i64 x) ∧ W.cell? ⟨w.heap.size + 1, 1, none⟩ = some (.int .i64 y) ∧ W.cell? ⟨w.heap.size + 1, 2, none⟩ = some (.int .i64 z) ∧ W.cell? ⟨w.heap.size + 2, 0, none⟩ = some (.int .i64 p) ∧ W.cell? ⟨w.heap.size + 2, 1, none⟩ = some (.int .i64 q) ∧ W.cell? ⟨w.heap.size + 2, 2, none⟩ = some (.int .i64 r))) (first | exact ⟨KB.out, (F1.out _ KB.out).2⟩ | exact ⟨KB.out.drew, (F1.out _ KB.out.drew).2⟩ | go_keep | exact ⟨F2.out _ _ (by first | assumption | (apply And.left; assumption)) hbx, (F1.out _ (F2.out _ _ (by first | assumption | (apply And.left; assumption)) hbx)).2⟩) (first
          | (go_at_call 14; (with_reducible refine Calls.mono (cM1 _) ?_); rintro e w' ⟨rfl, hbx⟩)
          | (go_at_call 14; (with_reducible refine Calls.mono (cM2 _) ?_); rintro e w' ⟨rfl, hbx⟩)
          | (go_at_call 14; (with_reducible refine Calls.mono (cM3 _) ?_); rintro e w' ⟨rfl, hbx⟩)
          | (go_at_call 13; (with_reducible refine Calls.mono (cA1 _) ?_); rintro e w' ⟨rfl, hbx⟩)
          | (go_at_call 13; (with_reducible refine Calls.mono (cA2 _) ?_); rintro e w' ⟨rfl, hbx⟩))
        all_goals
          have kb : Below (w.heap.size + 3) Wb w' := by (apply And.left; assumption)
          clear K KB
          have KB := Lib.hid kb
          clear kb hbx cM1 cM2 cM3 cA1 cA2
          obtain ⟨hw, f0, f1, f2, f3, f4, f5, f6, f7, f8, f9⟩ := F1.out _ KB.out
          go_wp2_with fail
          (with_reducible refine Calls.mono (cN _) ?_)
          rintro e w' ⟨rfl, hbx⟩
          replace KB := Lib.hid (F2.out _ _ KB.out hbx)
          clear hbx cN
          clear hw f0 f1 f2 f3 f4 f5 f6 f7 f8 f9
          obtain ⟨hw, f0, f1, f2, f3, f4, f5, f6, f7, f8, f9⟩ := F1.out _ KB.out
          rcases k6 with k6 | ⟨k6, k7⟩
          all_goals
            go_wp2
            go_ret
            exact ⟨rfl, hw⟩
theorem moves_cases (vb : Bool) (x y z p q r time now later : Int) : ∃ bd early : Bool, ((decide (0 ≤ x) = false ∧ bd = false) ∨ (decide (0 ≤ x) = true ∧ decide (x ≤ 1125899906842624) = false ∧ bd = false) ∨ (decide (0 ≤ x) = true ∧ decide (x ≤ 1125899906842624) = true ∧ decide (0 ≤ y) = false ∧ bd = false) ∨ (decide (0 ≤ x) = true ∧ decide (x ≤ 1125899906842624) = true ∧ decide (0 ≤ y) = true ∧ decide (y ≤ 1125899906842624) = false ∧ bd = false) ∨ (decide (0 ≤ x) = true ∧ decide (x ≤ 1125899906842624) = true ∧ decide (0 ≤ y) = true ∧ decide (y ≤ 1125899906842624) = true ∧ decide (0 ≤ z) = false ∧ bd = false) ∨ (decide (0 ≤ x) = true ∧ decide (x ≤ 1125899906842624) = true ∧ decide (0 ≤ y) = true ∧ decide (y ≤ 1125899906842624) = true ∧ decide (0 ≤ z) = true ∧ decide (z ≤ 1125899906842624) = false ∧ bd = false) ∨ (decide (0 ≤ x) = true ∧ decide (x ≤ 1125899906842624) = true ∧ decide (0 ≤ y) = true ∧ decide (y ≤ 1125899906842624) = true ∧ decide (0 ≤ z) = true ∧ decide (z ≤ 1125899906842624) = true ∧ bd = true)) ∧ ((vb = false ∧ early = true) ∨ (vb = true ∧ bd = false ∧ early = true) ∨ (vb = true ∧ bd = true ∧ decide (p < x) = true ∧ early = true) ∨ (vb = true ∧ bd = true ∧ decide (p < x) = false ∧ decide (q < y) = true ∧ early = true) ∨ (vb = true ∧ bd = true ∧ decide (p < x) = false ∧ decide (q < y) = false ∧ decide (r < z) = true ∧ early = true) ∨ (vb = true ∧ bd = true ∧ decide (p < x) = false ∧ decide (q < y) = false ∧ decide (r < z) = false ∧ decide (time < 0) = true ∧ early = true) ∨ (vb = true ∧ bd = true ∧ decide (p < x) = false ∧ decide (q < y) = false ∧ decide (r < z) = false ∧ decide (time < 0) = false ∧ decide (1125899906842624 < time) = true ∧ early = true) ∨ (vb = true ∧ bd = true ∧ decide (p < x) = false ∧ decide (q < y) = false ∧ decide (r < z) = false ∧ decide (time < 0) = false ∧ decide (1125899906842624 < time) = false ∧ decide (now < 0) = true ∧ early = true) ∨ (vb = true ∧ bd = true ∧ decide (p < x) = false ∧ decide (q < y) = false ∧ decide (r < z) = false ∧ decide (time < 0) = false ∧ decide (1125899906842624 < time) = false ∧ decide (now < 0) = false ∧ decide (1125899906842624 < now) = true ∧ early = true) ∨ (vb = true ∧ bd = true ∧ decide (p < x) = false ∧ decide (q < y) = false ∧ decide (r < z) = false ∧ decide (time < 0) = false ∧ decide (1125899906842624 < time) = false ∧ decide (now < 0) = false ∧ decide (1125899906842624 < now) = false ∧ decide (later < now) = true ∧ early = true) ∨ (vb = true ∧ bd = true ∧ decide (p < x) = false ∧ decide (q < y) = false ∧ decide (r < z) = false ∧ decide (time < 0) = false ∧ decide (1125899906842624 < time) = false ∧ decide (now < 0) = false ∧ decide (1125899906842624 < now) = false ∧ decide (later < now) = false ∧ early = false)) ∧ (early = false → vb = true ∧ ((0 ≤ x ∧ x ≤ 1125899906842624) ∧ (0 ≤ y ∧ y ≤ 1125899906842624) ∧ (0 ≤ z ∧ z ≤ 1125899906842624)) ∧ x ≤ p ∧ y ≤ q ∧ z ≤ r ∧ 0 ≤ time ∧ time ≤ 1125899906842624 ∧ 0 ≤ now ∧ now ≤ 1125899906842624 ∧ now ≤ later) := by
  have hbd : ∃ bd : Bool, ((decide (0 ≤ x) = false ∧ bd = false) ∨ (decide (0 ≤ x) = true ∧ decide (x ≤ 1125899906842624) = false ∧ bd = false) ∨ (decide (0 ≤ x) = true ∧ decide (x ≤ 1125899906842624) = true ∧ decide (0 ≤ y) = false ∧ bd = false) ∨ (decide (0 ≤ x) = true ∧ decide (x ≤ 1125899906842624) = true ∧ decide (0 ≤ y) = true ∧ decide (y ≤ 1125899906842624) = false ∧ bd = false) ∨ (decide (0 ≤ x) = true ∧ decide (x ≤ 1125899906842624) = true ∧ decide (0 ≤ y) = true ∧ decide (y ≤ 1125899906842624) = true ∧ decide (0 ≤ z) = false ∧ bd = false) ∨ (decide (0 ≤ x) = true ∧ decide (x ≤ 1125899906842624) = true ∧ decide (0 ≤ y) = true ∧ decide (y ≤ 1125899906842624) = true ∧ decide (0 ≤ z) = true ∧ decide (z ≤ 1125899906842624) = false ∧ bd = false) ∨ (decide (0 ≤ x) = true ∧ decide (x ≤ 1125899906842624) = true ∧ decide (0 ≤ y) = true ∧ decide (y ≤ 1125899906842624) = true ∧ decide (0 ≤ z) = true ∧ decide (z ≤ 1125899906842624) = true ∧ bd = true)) ∧ (bd = true → (0 ≤ x ∧ x ≤ 1125899906842624) ∧ (0 ≤ y ∧ y ≤ 1125899906842624) ∧ (0 ≤ z ∧ z ≤ 1125899906842624)) := by
    simp only [decide_eq_true_eq, decide_eq_false_iff_not]
    by_cases hb : (0 ≤ x ∧ x ≤ 1125899906842624) ∧ (0 ≤ y ∧ y ≤ 1125899906842624) ∧ (0 ≤ z ∧ z ≤ 1125899906842624)
    · refine ⟨true, ?_, fun _ => hb⟩
      obtain ⟨⟨h1, h2⟩, ⟨h3, h4⟩, h5, h6⟩ := hb
      simp only [h1, h2, h3, h4, h5, h6, not_true_eq_false, and_self, reduceCtorEq, or_true, and_false]
    · refine ⟨false, ?_, fun h => by cases h⟩
      simp only [and_true, reduceCtorEq, and_false, or_false]
      omega
  obtain ⟨bd, hb1, hb2⟩ := hbd
  cases vb with
  | false => exact ⟨bd, true, hb1, .inl ⟨rfl, rfl⟩, fun h => by cases h⟩
  | true =>
    cases bd with
    | false => exact ⟨false, true, hb1, .inr (.inl ⟨rfl, rfl, rfl⟩), fun h => by cases h⟩
    | true =>
      have hb3 := hb2 rfl
      by_cases n0 : p < x
      · exact ⟨true, true, hb1, .inr (.inr (.inl ⟨rfl, rfl, decide_eq_true n0, rfl⟩)), fun h => by cases h⟩
      by_cases n1 : q < y
      · exact ⟨true, true, hb1, .inr (.inr (.inr (.inl ⟨rfl, rfl, decide_eq_false n0, decide_eq_true n1, rfl⟩))), fun h => by cases h⟩
      by_cases n2 : r < z
      · exact ⟨true, true, hb1, .inr (.inr (.inr (.inr (.inl ⟨rfl, rfl, decide_eq_false n0, decide_eq_false n1, decide_eq_true n2, rfl⟩)))), fun h => by cases h⟩
      by_cases n3 : time < 0
      · exact ⟨true, true, hb1, .inr (.inr (.inr (.inr (.inr (.inl ⟨rfl, rfl, decide_eq_false n0, decide_eq_false n1, decide_eq_false n2, decide_eq_true n3, rfl⟩))))), fun h => by cases h⟩
      by_cases n4 : 1125899906842624 < time
      · exact ⟨true, true, hb1, .inr (.inr (.inr (.inr (.inr (.inr (.inl ⟨rfl, rfl, decide_eq_false n0, decide_eq_false n1, decide_eq_false n2, decide_eq_false n3, decide_eq_true n4, rfl⟩)))))), fun h => by cases h⟩
      by_cases n5 : now < 0
      · exact ⟨true, true, hb1, .inr (.inr (.inr (.inr (.inr (.inr (.inr (.inl ⟨rfl, rfl, decide_eq_false n0, decide_eq_false n1, decide_eq_false n2, decide_eq_false n3, decide_eq_false n4, decide_eq_true n5, rfl⟩))))))), fun h => by cases h⟩
      by_cases n6 : 1125899906842624 < now
      · exact ⟨true, true, hb1, .inr (.inr (.inr (.inr (.inr (.inr (.inr (.inr (.inl ⟨rfl, rfl, decide_eq_false n0, decide_eq_false n1, decide_eq_false n2, decide_eq_false n3, decide_eq_false n4, decide_eq_false n5, decide_eq_true n6, rfl⟩)))))))), fun h => by cases h⟩
      by_cases n7 : later < now
      · exact ⟨true, true, hb1, .inr (.inr (.inr (.inr (.inr (.inr (.inr (.inr (.inr (.inl ⟨rfl, rfl, decide_eq_false n0, decide_eq_false n1, decide_eq_false n2, decide_eq_false n3, decide_eq_false n4, decide_eq_false n5, decide_eq_false n6, decide_eq_true n7, rfl⟩))))))))), fun h => by cases h⟩
      exact ⟨true, false, hb1, .inr (.inr (.inr (.inr (.inr (.inr (.inr (.inr (.inr (.inr (⟨rfl, rfl, decide_eq_false n0, decide_eq_false n1, decide_eq_false n2, decide_eq_false n3, decide_eq_false n4, decide_eq_false n5, decide_eq_false n6, decide_eq_false n7, rfl⟩)))))))))), fun _ => ⟨rfl, hb3, by omega, by omega, by omega, by omega, by omega, by omega, by omega, by omega⟩⟩
theorem rmoves_any (v : Wts) (t u : Tal) (time now later : Int) (w : World) (hv : v.Wf) (ht : t.Wf) (hu : u.Wf) (h1 : wf64 time) (h2 : wf64 now) (h3 : wf64 later) (hL : LaidA w) :
    Calls Tryd.prog 4 #[.agg (cellsW v), .agg (cellsT t), .agg (cellsT u), .int .i64 time, .int .i64 now, .int .i64 later] w (BoolPost w true) := by
  have m0 : wf64 0 := by unfold wf64; omega
  have m5 := limI_wf (v.li * t.li)
  have m6 := limI_wf (v.bo * t.bo)
  have m7 := limI_wf (v.re * t.re)
  have cv := fun W => valid_any v W
  have cS := fun W => score_any v t time now W hv ht h1 h2
  have cU := fun W => score_any v u time now W hv hu h1 h2
  have cLt := fun W => score_any v t time later W hv ht h1 h3
  have cO := fun W => score_any v t 0 now W hv ht m0 h2
  have cN := fun W => score_any v t now now W hv ht h2 h2
  have cM1 := fun W => mul_any v.li t.li W hv.1 ht.1
  have cM2 := fun W => mul_any v.bo t.bo W hv.2.1 ht.2.1
  have cM3 := fun W => mul_any v.re t.re W hv.2.2.1 ht.2.2
  have cA1 := fun W => add_any (limI (v.li * t.li)) (limI (v.bo * t.bo)) W m5 m6
  have cA2 := fun W => add_any (limI (limI (v.li * t.li) + limI (v.bo * t.bo))) (limI (v.re * t.re)) W (limI_wf _) m7
  rw [score_young (v := v) (t := t) (time := now) (now := now) (Int.le_refl _)] at cN
  have key : (decide v.Ok) = true → ((0 ≤ t.li ∧ t.li ≤ 1125899906842624) ∧ (0 ≤ t.bo ∧ t.bo ≤ 1125899906842624) ∧ (0 ≤ t.re ∧ t.re ≤ 1125899906842624)) → t.li ≤ u.li → t.bo ≤ u.bo → t.re ≤ u.re → 0 ≤ time → time ≤ 1125899906842624 → 0 ≤ now → now ≤ 1125899906842624 → now ≤ later →
      (decide (scoreI v u time now < scoreI v t time now) = false ∧ decide (scoreI v t time now < scoreI v t time later) = false ∧ decide (scoreI v t time now < scoreI v t 0 now) = false ∧ decide (1125899906842624 < scoreI v t time now) = false ∧ decide (scoreI v t time now < -1125899906842624) = false ∧ (decide (time < now) = true ∨ (decide (time < now) = false ∧ (scoreI v t time now == sumI v t) = true))) := by
    intro hok hb g1 g2 g3 g4 g5 g6 g7 g8
    have hok' : v.Ok := of_decide_eq_true hok
    have e1 := score_count (time := time) (now := now) hok' g1 g2 g3
    have e2 := score_age (v := v) (t := t) (time := time) (now := now) (time' := time) (now' := later) hok' (by omega)
    have e3 := score_age (v := v) (t := t) (time := time) (now := now) (time' := 0) (now' := now) hok' (by omega)
    have e4 := score_lim v t time now
    refine ⟨decide_eq_false (by omega), decide_eq_false (by omega), decide_eq_false (by omega), decide_eq_false (by omega), decide_eq_false (by omega), ?_⟩
    by_cases h : time < now
    · exact .inl (decide_eq_true h)
    · refine .inr ⟨decide_eq_false h, ?_⟩
      rw [score_young (by omega)]
      simp
  obtain ⟨a, b, c, d⟩ := v
  obtain ⟨x, y, z⟩ := t
  obtain ⟨p, q, r⟩ := u
  dsimp only at key
  have big : ∃ bd early : Bool, ((decide (0 ≤ x) = false ∧ bd = false) ∨ (decide (0 ≤ x) = true ∧ decide (x ≤ 1125899906842624) = false ∧ bd = false) ∨ (decide (0 ≤ x) = true ∧ decide (x ≤ 1125899906842624) = true ∧ decide (0 ≤ y) = false ∧ bd = false) ∨ (decide (0 ≤ x) = true ∧ decide (x ≤ 1125899906842624) = true ∧ decide (0 ≤ y) = true ∧ decide (y ≤ 1125899906842624) = false ∧ bd = false) ∨ (decide (0 ≤ x) = true ∧ decide (x ≤ 1125899906842624) = true ∧ decide (0 ≤ y) = true ∧ decide (y ≤ 1125899906842624) = true ∧ decide (0 ≤ z) = false ∧ bd = false) ∨ (decide (0 ≤ x) = true ∧ decide (x ≤ 1125899906842624) = true ∧ decide (0 ≤ y) = true ∧ decide (y ≤ 1125899906842624) = true ∧ decide (0 ≤ z) = true ∧ decide (z ≤ 1125899906842624) = false ∧ bd = false) ∨ (decide (0 ≤ x) = true ∧ decide (x ≤ 1125899906842624) = true ∧ decide (0 ≤ y) = true ∧ decide (y ≤ 1125899906842624) = true ∧ decide (0 ≤ z) = true ∧ decide (z ≤ 1125899906842624) = true ∧ bd = true)) ∧ ((decide (⟨a, b, c, d⟩ : Wts).Ok = false ∧ early = true) ∨ (decide (⟨a, b, c, d⟩ : Wts).Ok = true ∧ bd = false ∧ early = true) ∨ (decide (⟨a, b, c, d⟩ : Wts).Ok = true ∧ bd = true ∧ decide (p < x) = true ∧ early = true) ∨ (decide (⟨a, b, c, d⟩ : Wts).Ok = true ∧ bd = true ∧ decide (p < x) = false ∧ decide (q < y) = true ∧ early = true) ∨ (decide (⟨a, b, c, d⟩ : Wts).Ok = true ∧ bd = true ∧ decide (p < x) = false ∧ decide (q < y) = false ∧ decide (r < z) = true ∧ early = true) ∨ (decide (⟨a, b, c, d⟩ : Wts).Ok = true ∧ bd = true ∧ decide (p < x) = false ∧ decide (q < y) = false ∧ decide (r < z) = false ∧ decide (time < 0) = true ∧ early = true) ∨ (decide (⟨a, b, c, d⟩ : Wts).Ok = true ∧ bd = true ∧ decide (p < x) = false ∧ decide (q < y) = false ∧ decide (r < z) = false ∧ decide (time < 0) = false ∧ decide (1125899906842624 < time) = true ∧ early = true) ∨ (decide (⟨a, b, c, d⟩ : Wts).Ok = true ∧ bd = true ∧ decide (p < x) = false ∧ decide (q < y) = false ∧ decide (r < z) = false ∧ decide (time < 0) = false ∧ decide (1125899906842624 < time) = false ∧ decide (now < 0) = true ∧ early = true) ∨ (decide (⟨a, b, c, d⟩ : Wts).Ok = true ∧ bd = true ∧ decide (p < x) = false ∧ decide (q < y) = false ∧ decide (r < z) = false ∧ decide (time < 0) = false ∧ decide (1125899906842624 < time) = false ∧ decide (now < 0) = false ∧ decide (1125899906842624 < now) = true ∧ early = true) ∨ (decide (⟨a, b, c, d⟩ : Wts).Ok = true ∧ bd = true ∧ decide (p < x) = false ∧ decide (q < y) = false ∧ decide (r < z) = false ∧ decide (time < 0) = false ∧ decide (1125899906842624 < time) = false ∧ decide (now < 0) = false ∧ decide (1125899906842624 < now) = false ∧ decide (later < now) = true ∧ early = true) ∨ (decide (⟨a, b, c, d⟩ : Wts).Ok = true ∧ bd = true ∧ decide (p < x) = false ∧ decide (q < y) = false ∧ decide (r < z) = false ∧ decide (time < 0) = false ∧ decide (1125899906842624 < time) = false ∧ decide (now < 0) = false ∧ decide (1125899906842624 < now) = false ∧ decide (later < now) = false ∧ early = false)) ∧ (early = false → decide (⟨a, b, c, d⟩ : Wts).Ok = true ∧ ((0 ≤ x ∧ x ≤ 1125899906842624) ∧ (0 ≤ y ∧ y ≤ 1125899906842624) ∧ (0 ≤ z ∧ z ≤ 1125899906842624)) ∧ x ≤ p ∧ y ≤ q ∧ z ≤ r ∧ 0 ≤ time ∧ time ≤ 1125899906842624 ∧ 0 ≤ now ∧ now ≤ 1125899906842624 ∧ now ≤ later) := by
    clear key cv cS cU cLt cO cN cM1 cM2 cM3 cA1 cA2 hv ht hu hL m0 m5 m6 m7
    exact moves_cases _ x y z p q r time now later
  obtain ⟨bd, early, o1, o2, o3⟩ := big
  exact moves_in a b c d x y z p q r time now later _ _ _ _ _ _ _ _ _ _ bd early w hL cv cS cU cLt cO cN cM1 cM2 cA1 cM3 cA2 o1 o2 (fun h => by
    obtain ⟨k0, k1, k2, k3, k4, k5, k6, k7, k8, k9⟩ := o3 h
    exact key k0 k1 k2 k3 k4 k5 k6 k7 k8 k9)
end Go.Proofs.YtjcaaiikccnpeaaDoor
