/- Sort of less than twenty cards, and Score, walked. -/
import Derived.Test.YtjcaaiikccnpeaaDoorSortS
import Derived.Deep.RegionHeld3
namespace Go.Proofs.YtjcaaiikccnpeaaDoor
open Go.ChangeShapes Go.WideShapes Go.ChangeAt Go.RowKit Go.Lib
set_option linter.unusedVariables false

theorem sortfn_small (l : List Card) (g c : Nat) (w : World) (hn : l.length < 20) (hc : l.length ≤ c) (hg : g < w.heap.size) (hC : CAt w g l) (hT : w.there g 0 (l.length * 6)) :
    Calls Tryd.prog 44 #[.slice (some ⟨g, 0, none⟩) l.length c, .func (.func 37) #[] #[]] w (doneP w g (insN 0 (l.length - 1) l) l.length) := by
  have ci := stable_small l g c w hn hc hg hC hT
  generalize insN 0 (l.length - 1) l = R at *
  clear hC hT
  go_enter Tryd.func44, Tryd.ntmps44
  go_wp2_with fail
  refine ci.mono ?_
  rintro e w1 ⟨rfl, h1, h2, h3⟩
  go_wp2
  go_end0
  exact ⟨rfl, h1, h2, h3⟩
def SortPost (w : World) (l : List Card) (e : Ending) (w' : World) : Prop := ∃ g c, e = .returned (.slice (some ⟨g, 0, none⟩) l.length c) ∧ CAt w' g l ∧ l.length ≤ c ∧ Below w.heap.size w w'
theorem sort_small (l : List Card) (b o C : Nat) (w : World) (hn : l.length < 20) (hl : CRow w (some ⟨b, o, none⟩) l) : Calls Tryd.prog 21 #[.slice (some ⟨b, o, none⟩) l.length C] w (SortPost w (insN 0 (l.length - 1) l)) := by
  have c1 := clone_any l b o C w (by omega) hl
  have c2 := fun g c W hc hg hC hT => sortfn_small l g c W hn hc hg hC hT
  have hlen : (insN 0 (l.length - 1) l).length = l.length := insN_length _ _ _
  unfold SortPost
  rw [hlen]
  generalize insN 0 (l.length - 1) l = R at *
  clear hl hlen
  go_enter Tryd.func21, Tryd.ntmps21
  go_wp2_with fail
  refine c1.mono ?_
  rintro e w1 ⟨g, c, rfl, h1, h2, h3, h4, h5, h6⟩
  have c3 := c2 g c w1 h1 h3 h4 h5
  clear c1 c2
  go_wp2_with fail
  refine c3.mono ?_
  rintro e w2 ⟨rfl, k1, k2, k3⟩
  have hbel : Below w.heap.size w w2 := h6.grown k3 h6.size (fun x hx => by simp only [Option.some.injEq] at hx; omega)
  go_wp2
  go_ret
  exact ⟨g, c, rfl, k1, h1, hbel⟩
theorem limI_in (n : Int) : -1125899906842624 ≤ limI n ∧ limI n ≤ 1125899906842624 := by
  unfold limI clampI
  split
  · omega
  · split <;> omega
theorem limI_wf (n : Int) : wf64 (limI n) := by have := limI_in n; unfold wf64; omega
def maxI (x : Int) : Int := max 0 x
theorem maxI_wf {x : Int} (h : wf64 x) : wf64 (maxI x) := by unfold wf64 maxI at *; omega
/-- the weights; the counts -/
structure Wts where
  li : Int
  bo : Int
  re : Int
  ag : Int
deriving DecidableEq
structure Tal where
  li : Int
  bo : Int
  re : Int
def Wts.Wf (v : Wts) : Prop := wf64 v.li ∧ wf64 v.bo ∧ wf64 v.re ∧ wf64 v.ag
def Tal.Wf (t : Tal) : Prop := wf64 t.li ∧ wf64 t.bo ∧ wf64 t.re
def cellsW (v : Wts) : Array Value := #[.int .i64 v.li, .int .i64 v.bo, .int .i64 v.re, .int .i64 v.ag]
def cellsT (t : Tal) : Array Value := #[.int .i64 t.li, .int .i64 t.bo, .int .i64 t.re]
def scoreI (v : Wts) (t : Tal) (time now : Int) : Int :=
  limI (limI (limI (limI (v.li * t.li) + limI (v.bo * t.bo)) + limI (v.re * t.re)) - limI (v.ag * maxI (limI (now - time))))
set_option maxRecDepth 100000 in
set_option maxHeartbeats 1000000 in
theorem score_any (v : Wts) (t : Tal) (time now : Int) (w : World) (hv : v.Wf) (ht : t.Wf) (h1 : wf64 time) (h2 : wf64 now) : Calls Tryd.prog 12 #[.agg (cellsW v), .agg (cellsT t), .int .i64 time, .int .i64 now] w (IntPost w (scoreI v t time now)) := by
  obtain ⟨a, b, c, d⟩ := v
  obtain ⟨x, y, z⟩ := t
  obtain ⟨va, vb, vc, vd⟩ := hv
  obtain ⟨tx, ty, tz⟩ := ht
  have c1 := fun W => mul_any a x W va tx
  have c2 := fun W => mul_any b y W vb ty
  have c3 := fun W => mul_any c z W vc tz
  have c4 := fun W => sub_any now time W h2 h1
  have c5 := fun W => mul_any d (maxI (limI (now - time))) W vd (maxI_wf (limI_wf _))
  have c6 := fun W => add_any (limI (a * x)) (limI (b * y)) W (limI_wf _) (limI_wf _)
  have c7 := fun W => add_any (limI (limI (a * x) + limI (b * y))) (limI (c * z)) W (limI_wf _) (limI_wf _)
  have c8 := fun W => sub_any (limI (limI (limI (a * x) + limI (b * y)) + limI (c * z))) (limI (d * maxI (limI (now - time)))) W (limI_wf _) (limI_wf _)
  have hR : Hid (scoreI ⟨a, b, c, d⟩ ⟨x, y, z⟩ time now = limI (limI (limI (limI (a * x) + limI (b * y)) + limI (c * z)) - limI (d * maxI (limI (now - time))))) := rfl
  have hmx : Hid (maxI (limI (now - time)) = max 0 (limI (now - time))) := rfl
  clear va vb vc vd tx ty tz h1 h2
  generalize scoreI ⟨a, b, c, d⟩ ⟨x, y, z⟩ time now = R at *
  generalize limI (limI (limI (limI (a * x) + limI (b * y)) + limI (c * z)) - limI (d * maxI (limI (now - time)))) = R8 at *
  generalize limI (limI (limI (a * x) + limI (b * y)) + limI (c * z)) = R7 at *
  generalize limI (limI (a * x) + limI (b * y)) = R6 at *
  generalize limI (d * maxI (limI (now - time))) = R5 at *
  generalize maxI (limI (now - time)) = Rm at *
  generalize limI (now - time) = R4 at *
  generalize limI (c * z) = R3 at *
  generalize limI (b * y) = R2 at *
  generalize limI (a * x) = R1 at *
  unfold cellsW cellsT
  simp only
  have hs1 : (w.alloc (.cells #[.int .i64 a, .int .i64 b, .int .i64 c, .int .i64 d] 23)).heap.size = w.heap.size + 1 := by simp
  have hb0 := Below.refl w.heap.size w
  have f1 : ∀ W, Below (w.heap.size + 2) ((w.alloc (.cells #[.int .i64 a, .int .i64 b, .int .i64 c, .int .i64 d] 23)).alloc (.cells #[.int .i64 x, .int .i64 y, .int .i64 z] 31)) W →
      (W.cell? ⟨w.heap.size, 0, none⟩ = some (.int .i64 a) ∧ W.cell? ⟨w.heap.size, 1, none⟩ = some (.int .i64 b) ∧ W.cell? ⟨w.heap.size, 2, none⟩ = some (.int .i64 c) ∧ W.cell? ⟨w.heap.size, 3, none⟩ = some (.int .i64 d)) ∧
      (W.cell? ⟨w.heap.size + 1, 0, none⟩ = some (.int .i64 x) ∧ W.cell? ⟨w.heap.size + 1, 1, none⟩ = some (.int .i64 y) ∧ W.cell? ⟨w.heap.size + 1, 2, none⟩ = some (.int .i64 z)) ∧ Below w.heap.size w W := by
    intro W hW
    have hA : W.heap[w.heap.size]? = some (.cells #[.int .i64 a, .int .i64 b, .int .i64 c, .int .i64 d] 23 (0, 0)) := by
      rw [hW.block _ (by omega), Below.heap_alloc _ _ _ (by omega), heap_alloc_new]
    have hB : W.heap[w.heap.size + 1]? = some (.cells #[.int .i64 x, .int .i64 y, .int .i64 z] 31 (0, 0)) := by
      rw [hW.block _ (by omega), ← hs1, heap_alloc_new]
    refine ⟨⟨?_, ?_, ?_, ?_⟩, ⟨?_, ?_, ?_⟩, Below.trans (((Below.refl _ _).alloc (Nat.le_refl _) _).alloc (by omega) _) (hW.mono (by omega))⟩
    · rw [cell_of_row W _ 0 _ _ _ hA]; rfl
    · rw [cell_of_row W _ 1 _ _ _ hA]; rfl
    · rw [cell_of_row W _ 2 _ _ _ hA]; rfl
    · rw [cell_of_row W _ 3 _ _ _ hA]; rfl
    · rw [cell_of_row W _ 0 _ _ _ hB]; rfl
    · rw [cell_of_row W _ 1 _ _ _ hB]; rfl
    · rw [cell_of_row W _ 2 _ _ _ hB]; rfl
  have F1 := Lib.hid f1
  have hsz : ((w.alloc (.cells #[.int .i64 a, .int .i64 b, .int .i64 c, .int .i64 d] 23)).alloc (.cells #[.int .i64 x, .int .i64 y, .int .i64 z] 31)).heap.size = w.heap.size + 2 := by simp
  have HSZ := Lib.hid hsz
  clear f1 hs1 hsz
  have hnx : Hid (∀ W W' : World, Below (w.heap.size + 2) ((w.alloc (.cells #[.int .i64 a, .int .i64 b, .int .i64 c, .int .i64 d] 23)).alloc (.cells #[.int .i64 x, .int .i64 y, .int .i64 z] 31)) W → Below W.heap.size W W' → Below (w.heap.size + 2) ((w.alloc (.cells #[.int .i64 a, .int .i64 b, .int .i64 c, .int .i64 d] 23)).alloc (.cells #[.int .i64 x, .int .i64 y, .int .i64 z] 31)) W') := fun W W' h h' => h.trans (h'.mono (by have := h.size; rw [HSZ.out] at this; exact this))
  rw [hmx.out] at c5
  clear hmx
  go_enter Tryd.func12, Tryd.ntmps12
  go_wp2_with fail
  refine (c1 _).mono ?_
  rintro e w1 ⟨rfl, hb1⟩
  rw [HSZ.out] at hb1
  obtain ⟨⟨_, p1, p2, p3⟩, ⟨_, q1, q2⟩, hw1⟩ := F1.out _ hb1
  go_wp2_with fail
  refine (c2 _).mono ?_
  rintro e w2 ⟨rfl, hbx⟩
  have hb2 := hnx.out _ _ hb1 hbx
  clear hbx hw1 p1 p2 p3 q1 q2
  obtain ⟨⟨_, p1, p2, p3⟩, ⟨_, q1, q2⟩, hw2⟩ := F1.out _ hb2
  go_wp2_with fail
  refine (c3 _).mono ?_
  rintro e w3 ⟨rfl, hbx⟩
  have hb3 := hnx.out _ _ hb2 hbx
  clear hbx hw2 p1 p2 p3 q1 q2 c1 c2 c3 hb1 hb2
  obtain ⟨⟨_, p1, p2, p3⟩, ⟨_, q1, q2⟩, hw3⟩ := F1.out _ hb3
  clear p1 p2 q1 q2 hw3
  go_wp2
  go_region_held3 (fun W => W.cell? ⟨w.heap.size, 3, none⟩ = some (.int .i64 d)) (first | go_keep | exact (F1.out _ hb6).1.2.2.2 | exact (F1.out _ hb5).1.2.2.2) (first
    | (go_at_call 29; (with_reducible refine Calls.mono (c4 _) ?_); rintro e w5 ⟨rfl, hbx⟩; have hb5 := hnx.out _ _ hb3.drew hbx; clear hbx)
    | (go_at_call 14; (with_reducible refine Calls.mono (c5 _) ?_); rintro e w6 ⟨rfl, hbx⟩; have hb6 := hnx.out _ _ hb5 hbx; clear hbx))
  all_goals
    go_wp2_with fail
    refine (c6 _).mono ?_
    rintro e w7 ⟨rfl, hbx⟩
    have hb7 := hnx.out _ _ hb6 hbx
    clear hbx
    go_wp2_with fail
    refine (c7 _).mono ?_
    rintro e w8 ⟨rfl, hbx⟩
    have hb8 := hnx.out _ _ hb7 hbx
    clear hbx
    go_wp2_with fail
    refine (c8 _).mono ?_
    rintro e w9 ⟨rfl, hbx⟩
    have hb9 := hnx.out _ _ hb8 hbx
    clear hbx
    go_wp2
    go_ret
    exact ⟨by rw [hR.out]; first | done | rfl, (F1.out _ hb9).2.2⟩
end Go.Proofs.YtjcaaiikccnpeaaDoor
