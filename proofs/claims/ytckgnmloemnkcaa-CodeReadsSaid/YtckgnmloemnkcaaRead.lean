/- read, walked. -/
import Derived.Test.YtckgnmloemnkcaaVal
namespace Go.Proofs.Ytckgnmloemnkcaa
open Go.ChangeShapes Go.WideShapes Go.ChangeAt Go.RowKit Go.Lib
set_option linter.unusedVariables false

def Rd.read (r : Rd) (k : Int) : V × Rd :=
  if k = 0 then (⟨k, r.num.1, [], [], []⟩, r.num.2) else if k = 1 then (⟨k, r.int.1, [], [], []⟩, r.int.2) else if k = 2 then (⟨k, 0, r.text.1, [], []⟩, r.text.2)
  else if k = 3 then (⟨k, 0, [], r.list.1, []⟩, r.list.2) else (⟨k, 0, [], [], r.nums.1⟩, r.nums.2)
structure ReadPost (w : World) (p : Nat) (v : V) (r : Rd) (e : Ending) (w' : World) : Prop where
  out : ∃ q : VP, e = .returned (.agg #[.int .i64 v.k, .int .i64 v.n, .string (bs v.s), .slice q.A v.l.length q.C, .slice q.B v.m.length q.D]) ∧ VAt w' v q ∧ (∀ a, q.A = some a → w.heap.size ≤ a.block) ∧ (∀ a, q.B = some a → w.heap.size ≤ a.block)
  rd : RdAt w' p 57 r
  chg : Chg [p] w w'
theorem info45 : (Try.prog.info? 45).map (·.size) = some 5 := by kernel_rfl
theorem row_nil (w : World) (A : Option Addr) : RowAt w A [] := fun h => by simp at h
theorem read_any (p : Nat) (r : Rd) (k : Int) (w : World) (h : RdAt w p 57 r) (hl : r.rest.length ≤ 1000000000) (hk : 0 ≤ k ∧ k ≤ 4) :
    Calls Try.prog 44 #[.pointer (some ⟨p, 0, none⟩), .int .i64 k] w (ReadPost w p (r.read k).1 (r.read k).2) := by
  have hd : k = 0 ∨ k = 1 ∨ k = 2 ∨ k = 3 ∨ k = 4 := by omega
  have hp := h.lt
  rcases hd with rfl | rfl | rfl | rfl | rfl
  · go_enter Try.func44, Try.ntmps44
    go_wp2_with fail
    obtain ⟨W, hW⟩ : ∃ W, W = (w.alloc (.cells #[.int .i64 0, .int .i64 0, .string ⟨#[]⟩, .slice none 0 0, .slice none 0 0] 45)).alloc (.cells #[.int .i64 0, .int .i64 0, .string ⟨#[]⟩, .slice none 0 0, .slice none 0 0] 45) := ⟨_, rfl⟩
    have hbW : Below w.heap.size w W := by rw [hW]; exact ((Below.refl _ _).alloc (Nat.le_refl _) _).alloc (by simp) _
    have g0 : W.heap[w.heap.size]? = some (.cells #[.int .i64 0, .int .i64 0, .string ⟨#[]⟩, .slice none 0 0, .slice none 0 0] 45 (0, 0)) := by rw [hW, Below.heap_alloc _ _ _ (by simp)]; exact heap_alloc_new w _
    have g1 : W.heap[w.heap.size + 1]? = some (.cells #[.int .i64 0, .int .i64 0, .string ⟨#[]⟩, .slice none 0 0, .slice none 0 0] 45 (0, 0)) := by
      have := heap_alloc_new (w.alloc (.cells #[.int .i64 0, .int .i64 0, .string ⟨#[]⟩, .slice none 0 0, .slice none 0 0] 45)) (.cells #[.int .i64 0, .int .i64 0, .string ⟨#[]⟩, .slice none 0 0, .slice none 0 0] 45)
      rw [show (w.alloc (.cells #[.int .i64 0, .int .i64 0, .string ⟨#[]⟩, .slice none 0 0, .slice none 0 0] 45)).heap.size = w.heap.size + 1 by simp] at this
      rw [hW]; exact this
    have hWs := Lib.hid (show W.heap.size = w.heap.size + 2 by rw [hW]; simp)
    rw [← hW]
    clear hW
    have c := num_rd p r W (h.below hbW) hl
    refine (Calls.mono c ?_)
    rintro e w1 ⟨rfl, hr, hch⟩
    have e0 := hch.heap_some (by simp; omega) g0
    have e1 := hch.heap_some (by simp; omega) g1
    have hcr := cell_row e1
    have hf1 : w1.frozen? ⟨w.heap.size + 1, 1, none⟩ = false := frozen_row e1 1
    have ho0 : w1.cell? ⟨w.heap.size + 1, 0, none⟩ = some (.int .i64 0) := hcr 0
    have ho1 : w1.cell? ⟨w.heap.size + 1, 1, none⟩ = some (.int .i64 0) := hcr 1
    have ho2 : w1.cell? ⟨w.heap.size + 1, 2, none⟩ = some (.string ⟨#[]⟩) := hcr 2
    have ho3 : w1.cell? ⟨w.heap.size + 1, 3, none⟩ = some (.slice none 0 0) := hcr 3
    have ho4 : w1.cell? ⟨w.heap.size + 1, 4, none⟩ = some (.slice none 0 0) := hcr 4
    clear hcr
    have i0 : w1.cell? ⟨w.heap.size, 0, none⟩ = some (.int .i64 0) := cell_row e0 0
    have i1 : w1.cell? ⟨w.heap.size, 1, none⟩ = some (.int .i64 0) := cell_row e0 1
    have i2 : w1.cell? ⟨w.heap.size, 2, none⟩ = some (.string ⟨#[]⟩) := cell_row e0 2
    have i3 : w1.cell? ⟨w.heap.size, 3, none⟩ = some (.slice none 0 0) := cell_row e0 3
    have i4 : w1.cell? ⟨w.heap.size, 4, none⟩ = some (.slice none 0 0) := cell_row e0 4
    have fz := frozen_row e0
    go_wp2
    have e5 : ((((((w1.setCell ⟨w.heap.size + 1, 1, none⟩ (.int .i64 r.num.1)).setCell ⟨w.heap.size, 0, none⟩ (.int .i64 0)).setCell ⟨w.heap.size, 1, none⟩ (.int .i64 r.num.1)).setCell ⟨w.heap.size, 2, none⟩ (.string ⟨#[]⟩)).setCell ⟨w.heap.size, 3, none⟩ (.slice none 0 0)).setCell ⟨w.heap.size, 4, none⟩ (.slice none 0 0)).heap[w.heap.size]? = some (.cells #[.int .i64 0, .int .i64 r.num.1, .string ⟨#[]⟩, .slice none 0 0, .slice none 0 0] 45 (0, 0)) := by
      rw [set_row (set_row (set_row (set_row (set_row (set_row_other e0 (by simp) _) 0 _) 1 _) 2 _) 3 _) 4 _]; rfl
    have e6 : RdAt ((((((w1.setCell ⟨w.heap.size + 1, 1, none⟩ (.int .i64 r.num.1)).setCell ⟨w.heap.size, 0, none⟩ (.int .i64 0)).setCell ⟨w.heap.size, 1, none⟩ (.int .i64 r.num.1)).setCell ⟨w.heap.size, 2, none⟩ (.string ⟨#[]⟩)).setCell ⟨w.heap.size, 3, none⟩ (.slice none 0 0)).setCell ⟨w.heap.size, 4, none⟩ (.slice none 0 0)) p 57 r.num.2 :=
      set_row_other (set_row_other (set_row_other (set_row_other (set_row_other (set_row_other hr (by simp; omega) _) (by simp; omega) _) (by simp; omega) _) (by simp; omega) _) (by simp; omega) _) (by simp; omega) _
    have e7 := ((((((Chg.refl [w.heap.size, w.heap.size + 1] w1).setCell (p := ⟨w.heap.size + 1, 1, none⟩) (by simp) (.int .i64 r.num.1)).setCell (p := ⟨w.heap.size, 0, none⟩) (by simp) (.int .i64 0)).setCell (p := ⟨w.heap.size, 1, none⟩) (by simp) (.int .i64 r.num.1)).setCell (p := ⟨w.heap.size, 2, none⟩) (by simp) (.string ⟨#[]⟩)).setCell (p := ⟨w.heap.size, 3, none⟩) (by simp) (.slice none 0 0)).setCell (p := ⟨w.heap.size, 4, none⟩) (by simp) (.slice none 0 0)
    have e8 : Chg [p] w ((((((w1.setCell ⟨w.heap.size + 1, 1, none⟩ (.int .i64 r.num.1)).setCell ⟨w.heap.size, 0, none⟩ (.int .i64 0)).setCell ⟨w.heap.size, 1, none⟩ (.int .i64 r.num.1)).setCell ⟨w.heap.size, 2, none⟩ (.string ⟨#[]⟩)).setCell ⟨w.heap.size, 3, none⟩ (.slice none 0 0)).setCell ⟨w.heap.size, 4, none⟩ (.slice none 0 0)) :=
      ((Chg.of_below hbW [p]).trans hch).step e7 (by intro b hb; simp at hb; right; omega)
    refine bodyPost_ret (results_cell_row rfl _ _ w.heap.size 45 _ (0, 0) _ rfl e5 Try.underlying45 rfl info45) rfl ?_
    refine ⟨?_, e6, e8⟩
    exact ⟨⟨none, 0, none, 0⟩, rfl, ⟨row_nil _ _, row_nil _ _⟩, (by intro a ha; cases ha), (by intro a ha; cases ha)⟩
  · go_enter Try.func44, Try.ntmps44
    go_wp2_with fail
    obtain ⟨W, hW⟩ : ∃ W, W = (w.alloc (.cells #[.int .i64 0, .int .i64 0, .string ⟨#[]⟩, .slice none 0 0, .slice none 0 0] 45)).alloc (.cells #[.int .i64 1, .int .i64 0, .string ⟨#[]⟩, .slice none 0 0, .slice none 0 0] 45) := ⟨_, rfl⟩
    have hbW : Below w.heap.size w W := by rw [hW]; exact ((Below.refl _ _).alloc (Nat.le_refl _) _).alloc (by simp) _
    have g0 : W.heap[w.heap.size]? = some (.cells #[.int .i64 0, .int .i64 0, .string ⟨#[]⟩, .slice none 0 0, .slice none 0 0] 45 (0, 0)) := by rw [hW, Below.heap_alloc _ _ _ (by simp)]; exact heap_alloc_new w _
    have g1 : W.heap[w.heap.size + 1]? = some (.cells #[.int .i64 1, .int .i64 0, .string ⟨#[]⟩, .slice none 0 0, .slice none 0 0] 45 (0, 0)) := by
      have := heap_alloc_new (w.alloc (.cells #[.int .i64 0, .int .i64 0, .string ⟨#[]⟩, .slice none 0 0, .slice none 0 0] 45)) (.cells #[.int .i64 1, .int .i64 0, .string ⟨#[]⟩, .slice none 0 0, .slice none 0 0] 45)
      rw [show (w.alloc (.cells #[.int .i64 0, .int .i64 0, .string ⟨#[]⟩, .slice none 0 0, .slice none 0 0] 45)).heap.size = w.heap.size + 1 by simp] at this
      rw [hW]; exact this
    have hWs := Lib.hid (show W.heap.size = w.heap.size + 2 by rw [hW]; simp)
    rw [← hW]
    clear hW
    have c := int_rd p r W (h.below hbW) hl
    refine (Calls.mono c ?_)
    rintro e w1 ⟨rfl, hr, hch⟩
    have e0 := hch.heap_some (by simp; omega) g0
    have e1 := hch.heap_some (by simp; omega) g1
    have hcr := cell_row e1
    have hf1 : w1.frozen? ⟨w.heap.size + 1, 1, none⟩ = false := frozen_row e1 1
    have ho0 : w1.cell? ⟨w.heap.size + 1, 0, none⟩ = some (.int .i64 1) := hcr 0
    have ho1 : w1.cell? ⟨w.heap.size + 1, 1, none⟩ = some (.int .i64 0) := hcr 1
    have ho2 : w1.cell? ⟨w.heap.size + 1, 2, none⟩ = some (.string ⟨#[]⟩) := hcr 2
    have ho3 : w1.cell? ⟨w.heap.size + 1, 3, none⟩ = some (.slice none 0 0) := hcr 3
    have ho4 : w1.cell? ⟨w.heap.size + 1, 4, none⟩ = some (.slice none 0 0) := hcr 4
    clear hcr
    have i0 : w1.cell? ⟨w.heap.size, 0, none⟩ = some (.int .i64 0) := cell_row e0 0
    have i1 : w1.cell? ⟨w.heap.size, 1, none⟩ = some (.int .i64 0) := cell_row e0 1
    have i2 : w1.cell? ⟨w.heap.size, 2, none⟩ = some (.string ⟨#[]⟩) := cell_row e0 2
    have i3 : w1.cell? ⟨w.heap.size, 3, none⟩ = some (.slice none 0 0) := cell_row e0 3
    have i4 : w1.cell? ⟨w.heap.size, 4, none⟩ = some (.slice none 0 0) := cell_row e0 4
    have fz := frozen_row e0
    go_wp2
    have e5 : ((((((w1.setCell ⟨w.heap.size + 1, 1, none⟩ (.int .i64 r.int.1)).setCell ⟨w.heap.size, 0, none⟩ (.int .i64 1)).setCell ⟨w.heap.size, 1, none⟩ (.int .i64 r.int.1)).setCell ⟨w.heap.size, 2, none⟩ (.string ⟨#[]⟩)).setCell ⟨w.heap.size, 3, none⟩ (.slice none 0 0)).setCell ⟨w.heap.size, 4, none⟩ (.slice none 0 0)).heap[w.heap.size]? = some (.cells #[.int .i64 1, .int .i64 r.int.1, .string ⟨#[]⟩, .slice none 0 0, .slice none 0 0] 45 (0, 0)) := by
      rw [set_row (set_row (set_row (set_row (set_row (set_row_other e0 (by simp) _) 0 _) 1 _) 2 _) 3 _) 4 _]; rfl
    have e6 : RdAt ((((((w1.setCell ⟨w.heap.size + 1, 1, none⟩ (.int .i64 r.int.1)).setCell ⟨w.heap.size, 0, none⟩ (.int .i64 1)).setCell ⟨w.heap.size, 1, none⟩ (.int .i64 r.int.1)).setCell ⟨w.heap.size, 2, none⟩ (.string ⟨#[]⟩)).setCell ⟨w.heap.size, 3, none⟩ (.slice none 0 0)).setCell ⟨w.heap.size, 4, none⟩ (.slice none 0 0)) p 57 r.int.2 :=
      set_row_other (set_row_other (set_row_other (set_row_other (set_row_other (set_row_other hr (by simp; omega) _) (by simp; omega) _) (by simp; omega) _) (by simp; omega) _) (by simp; omega) _) (by simp; omega) _
    have e7 := ((((((Chg.refl [w.heap.size, w.heap.size + 1] w1).setCell (p := ⟨w.heap.size + 1, 1, none⟩) (by simp) (.int .i64 r.int.1)).setCell (p := ⟨w.heap.size, 0, none⟩) (by simp) (.int .i64 1)).setCell (p := ⟨w.heap.size, 1, none⟩) (by simp) (.int .i64 r.int.1)).setCell (p := ⟨w.heap.size, 2, none⟩) (by simp) (.string ⟨#[]⟩)).setCell (p := ⟨w.heap.size, 3, none⟩) (by simp) (.slice none 0 0)).setCell (p := ⟨w.heap.size, 4, none⟩) (by simp) (.slice none 0 0)
    have e8 : Chg [p] w ((((((w1.setCell ⟨w.heap.size + 1, 1, none⟩ (.int .i64 r.int.1)).setCell ⟨w.heap.size, 0, none⟩ (.int .i64 1)).setCell ⟨w.heap.size, 1, none⟩ (.int .i64 r.int.1)).setCell ⟨w.heap.size, 2, none⟩ (.string ⟨#[]⟩)).setCell ⟨w.heap.size, 3, none⟩ (.slice none 0 0)).setCell ⟨w.heap.size, 4, none⟩ (.slice none 0 0)) :=
      ((Chg.of_below hbW [p]).trans hch).step e7 (by intro b hb; simp at hb; right; omega)
    refine bodyPost_ret (results_cell_row rfl _ _ w.heap.size 45 _ (0, 0) _ rfl e5 Try.underlying45 rfl info45) rfl ?_
    refine ⟨?_, e6, e8⟩
    exact ⟨⟨none, 0, none, 0⟩, rfl, ⟨row_nil _ _, row_nil _ _⟩, (by intro a ha; cases ha), (by intro a ha; cases ha)⟩
  · go_enter Try.func44, Try.ntmps44
    go_wp2_with fail
    obtain ⟨W, hW⟩ : ∃ W, W = (w.alloc (.cells #[.int .i64 0, .int .i64 0, .string ⟨#[]⟩, .slice none 0 0, .slice none 0 0] 45)).alloc (.cells #[.int .i64 2, .int .i64 0, .string ⟨#[]⟩, .slice none 0 0, .slice none 0 0] 45) := ⟨_, rfl⟩
    have hbW : Below w.heap.size w W := by rw [hW]; exact ((Below.refl _ _).alloc (Nat.le_refl _) _).alloc (by simp) _
    have g0 : W.heap[w.heap.size]? = some (.cells #[.int .i64 0, .int .i64 0, .string ⟨#[]⟩, .slice none 0 0, .slice none 0 0] 45 (0, 0)) := by rw [hW, Below.heap_alloc _ _ _ (by simp)]; exact heap_alloc_new w _
    have g1 : W.heap[w.heap.size + 1]? = some (.cells #[.int .i64 2, .int .i64 0, .string ⟨#[]⟩, .slice none 0 0, .slice none 0 0] 45 (0, 0)) := by
      have := heap_alloc_new (w.alloc (.cells #[.int .i64 0, .int .i64 0, .string ⟨#[]⟩, .slice none 0 0, .slice none 0 0] 45)) (.cells #[.int .i64 2, .int .i64 0, .string ⟨#[]⟩, .slice none 0 0, .slice none 0 0] 45)
      rw [show (w.alloc (.cells #[.int .i64 0, .int .i64 0, .string ⟨#[]⟩, .slice none 0 0, .slice none 0 0] 45)).heap.size = w.heap.size + 1 by simp] at this
      rw [hW]; exact this
    have hWs := Lib.hid (show W.heap.size = w.heap.size + 2 by rw [hW]; simp)
    rw [← hW]
    clear hW
    have c := text_rd p r W (h.below hbW) hl
    refine (Calls.mono c ?_)
    rintro e w1 ⟨rfl, hr, hch⟩
    have e0 := hch.heap_some (by simp; omega) g0
    have e1 := hch.heap_some (by simp; omega) g1
    have hcr := cell_row e1
    have hf1 : w1.frozen? ⟨w.heap.size + 1, 2, none⟩ = false := frozen_row e1 2
    have ho0 : w1.cell? ⟨w.heap.size + 1, 0, none⟩ = some (.int .i64 2) := hcr 0
    have ho1 : w1.cell? ⟨w.heap.size + 1, 1, none⟩ = some (.int .i64 0) := hcr 1
    have ho2 : w1.cell? ⟨w.heap.size + 1, 2, none⟩ = some (.string ⟨#[]⟩) := hcr 2
    have ho3 : w1.cell? ⟨w.heap.size + 1, 3, none⟩ = some (.slice none 0 0) := hcr 3
    have ho4 : w1.cell? ⟨w.heap.size + 1, 4, none⟩ = some (.slice none 0 0) := hcr 4
    clear hcr
    have i0 : w1.cell? ⟨w.heap.size, 0, none⟩ = some (.int .i64 0) := cell_row e0 0
    have i1 : w1.cell? ⟨w.heap.size, 1, none⟩ = some (.int .i64 0) := cell_row e0 1
    have i2 : w1.cell? ⟨w.heap.size, 2, none⟩ = some (.string ⟨#[]⟩) := cell_row e0 2
    have i3 : w1.cell? ⟨w.heap.size, 3, none⟩ = some (.slice none 0 0) := cell_row e0 3
    have i4 : w1.cell? ⟨w.heap.size, 4, none⟩ = some (.slice none 0 0) := cell_row e0 4
    have fz := frozen_row e0
    go_wp2
    have e5 : ((((((w1.setCell ⟨w.heap.size + 1, 2, none⟩ (.string (bs r.text.1))).setCell ⟨w.heap.size, 0, none⟩ (.int .i64 2)).setCell ⟨w.heap.size, 1, none⟩ (.int .i64 0)).setCell ⟨w.heap.size, 2, none⟩ (.string (bs r.text.1))).setCell ⟨w.heap.size, 3, none⟩ (.slice none 0 0)).setCell ⟨w.heap.size, 4, none⟩ (.slice none 0 0)).heap[w.heap.size]? = some (.cells #[.int .i64 2, .int .i64 0, .string (bs r.text.1), .slice none 0 0, .slice none 0 0] 45 (0, 0)) := by
      rw [set_row (set_row (set_row (set_row (set_row (set_row_other e0 (by simp) _) 0 _) 1 _) 2 _) 3 _) 4 _]; rfl
    have e6 : RdAt ((((((w1.setCell ⟨w.heap.size + 1, 2, none⟩ (.string (bs r.text.1))).setCell ⟨w.heap.size, 0, none⟩ (.int .i64 2)).setCell ⟨w.heap.size, 1, none⟩ (.int .i64 0)).setCell ⟨w.heap.size, 2, none⟩ (.string (bs r.text.1))).setCell ⟨w.heap.size, 3, none⟩ (.slice none 0 0)).setCell ⟨w.heap.size, 4, none⟩ (.slice none 0 0)) p 57 r.text.2 :=
      set_row_other (set_row_other (set_row_other (set_row_other (set_row_other (set_row_other hr (by simp; omega) _) (by simp; omega) _) (by simp; omega) _) (by simp; omega) _) (by simp; omega) _) (by simp; omega) _
    have e7 := ((((((Chg.refl [w.heap.size, w.heap.size + 1] w1).setCell (p := ⟨w.heap.size + 1, 2, none⟩) (by simp) (.string (bs r.text.1))).setCell (p := ⟨w.heap.size, 0, none⟩) (by simp) (.int .i64 2)).setCell (p := ⟨w.heap.size, 1, none⟩) (by simp) (.int .i64 0)).setCell (p := ⟨w.heap.size, 2, none⟩) (by simp) (.string (bs r.text.1))).setCell (p := ⟨w.heap.size, 3, none⟩) (by simp) (.slice none 0 0)).setCell (p := ⟨w.heap.size, 4, none⟩) (by simp) (.slice none 0 0)
    have e8 : Chg [p] w ((((((w1.setCell ⟨w.heap.size + 1, 2, none⟩ (.string (bs r.text.1))).setCell ⟨w.heap.size, 0, none⟩ (.int .i64 2)).setCell ⟨w.heap.size, 1, none⟩ (.int .i64 0)).setCell ⟨w.heap.size, 2, none⟩ (.string (bs r.text.1))).setCell ⟨w.heap.size, 3, none⟩ (.slice none 0 0)).setCell ⟨w.heap.size, 4, none⟩ (.slice none 0 0)) :=
      ((Chg.of_below hbW [p]).trans hch).step e7 (by intro b hb; simp at hb; right; omega)
    refine bodyPost_ret (results_cell_row rfl _ _ w.heap.size 45 _ (0, 0) _ rfl e5 Try.underlying45 rfl info45) rfl ?_
    refine ⟨?_, e6, e8⟩
    exact ⟨⟨none, 0, none, 0⟩, rfl, ⟨row_nil _ _, row_nil _ _⟩, (by intro a ha; cases ha), (by intro a ha; cases ha)⟩
  · go_enter Try.func44, Try.ntmps44
    go_wp2_with fail
    obtain ⟨W, hW⟩ : ∃ W, W = (w.alloc (.cells #[.int .i64 0, .int .i64 0, .string ⟨#[]⟩, .slice none 0 0, .slice none 0 0] 45)).alloc (.cells #[.int .i64 3, .int .i64 0, .string ⟨#[]⟩, .slice none 0 0, .slice none 0 0] 45) := ⟨_, rfl⟩
    have hbW : Below w.heap.size w W := by rw [hW]; exact ((Below.refl _ _).alloc (Nat.le_refl _) _).alloc (by simp) _
    have g0 : W.heap[w.heap.size]? = some (.cells #[.int .i64 0, .int .i64 0, .string ⟨#[]⟩, .slice none 0 0, .slice none 0 0] 45 (0, 0)) := by rw [hW, Below.heap_alloc _ _ _ (by simp)]; exact heap_alloc_new w _
    have g1 : W.heap[w.heap.size + 1]? = some (.cells #[.int .i64 3, .int .i64 0, .string ⟨#[]⟩, .slice none 0 0, .slice none 0 0] 45 (0, 0)) := by
      have := heap_alloc_new (w.alloc (.cells #[.int .i64 0, .int .i64 0, .string ⟨#[]⟩, .slice none 0 0, .slice none 0 0] 45)) (.cells #[.int .i64 3, .int .i64 0, .string ⟨#[]⟩, .slice none 0 0, .slice none 0 0] 45)
      rw [show (w.alloc (.cells #[.int .i64 0, .int .i64 0, .string ⟨#[]⟩, .slice none 0 0, .slice none 0 0] 45)).heap.size = w.heap.size + 1 by simp] at this
      rw [hW]; exact this
    have hWs := Lib.hid (show W.heap.size = w.heap.size + 2 by rw [hW]; simp)
    rw [← hW]
    clear hW
    have c := list_rd p r W (h.below hbW) hl
    refine (Calls.mono c ?_)
    rintro e w1 ⟨A, C, rfl, hfr, hrow, hr, hch⟩
    have e0 := hch.heap_some (by simp; omega) g0
    have e1 := hch.heap_some (by simp; omega) g1
    have hcr := cell_row e1
    have hf1 : w1.frozen? ⟨w.heap.size + 1, 3, none⟩ = false := frozen_row e1 3
    have ho0 : w1.cell? ⟨w.heap.size + 1, 0, none⟩ = some (.int .i64 3) := hcr 0
    have ho1 : w1.cell? ⟨w.heap.size + 1, 1, none⟩ = some (.int .i64 0) := hcr 1
    have ho2 : w1.cell? ⟨w.heap.size + 1, 2, none⟩ = some (.string ⟨#[]⟩) := hcr 2
    have ho3 : w1.cell? ⟨w.heap.size + 1, 3, none⟩ = some (.slice none 0 0) := hcr 3
    have ho4 : w1.cell? ⟨w.heap.size + 1, 4, none⟩ = some (.slice none 0 0) := hcr 4
    clear hcr
    have i0 : w1.cell? ⟨w.heap.size, 0, none⟩ = some (.int .i64 0) := cell_row e0 0
    have i1 : w1.cell? ⟨w.heap.size, 1, none⟩ = some (.int .i64 0) := cell_row e0 1
    have i2 : w1.cell? ⟨w.heap.size, 2, none⟩ = some (.string ⟨#[]⟩) := cell_row e0 2
    have i3 : w1.cell? ⟨w.heap.size, 3, none⟩ = some (.slice none 0 0) := cell_row e0 3
    have i4 : w1.cell? ⟨w.heap.size, 4, none⟩ = some (.slice none 0 0) := cell_row e0 4
    have fz := frozen_row e0
    go_wp2
    have e5 : ((((((w1.setCell ⟨w.heap.size + 1, 3, none⟩ (.slice A (strs r.list.1).length C)).setCell ⟨w.heap.size, 0, none⟩ (.int .i64 3)).setCell ⟨w.heap.size, 1, none⟩ (.int .i64 0)).setCell ⟨w.heap.size, 2, none⟩ (.string ⟨#[]⟩)).setCell ⟨w.heap.size, 3, none⟩ (.slice A (strs r.list.1).length C)).setCell ⟨w.heap.size, 4, none⟩ (.slice none 0 0)).heap[w.heap.size]? = some (.cells #[.int .i64 3, .int .i64 0, .string ⟨#[]⟩, .slice A (strs r.list.1).length C, .slice none 0 0] 45 (0, 0)) := by
      rw [set_row (set_row (set_row (set_row (set_row (set_row_other e0 (by simp) _) 0 _) 1 _) 2 _) 3 _) 4 _]; rfl
    have e6 : RdAt ((((((w1.setCell ⟨w.heap.size + 1, 3, none⟩ (.slice A (strs r.list.1).length C)).setCell ⟨w.heap.size, 0, none⟩ (.int .i64 3)).setCell ⟨w.heap.size, 1, none⟩ (.int .i64 0)).setCell ⟨w.heap.size, 2, none⟩ (.string ⟨#[]⟩)).setCell ⟨w.heap.size, 3, none⟩ (.slice A (strs r.list.1).length C)).setCell ⟨w.heap.size, 4, none⟩ (.slice none 0 0)) p 57 r.list.2 :=
      set_row_other (set_row_other (set_row_other (set_row_other (set_row_other (set_row_other hr (by simp; omega) _) (by simp; omega) _) (by simp; omega) _) (by simp; omega) _) (by simp; omega) _) (by simp; omega) _
    have e7 := ((((((Chg.refl [w.heap.size, w.heap.size + 1] w1).setCell (p := ⟨w.heap.size + 1, 3, none⟩) (by simp) (.slice A (strs r.list.1).length C)).setCell (p := ⟨w.heap.size, 0, none⟩) (by simp) (.int .i64 3)).setCell (p := ⟨w.heap.size, 1, none⟩) (by simp) (.int .i64 0)).setCell (p := ⟨w.heap.size, 2, none⟩) (by simp) (.string ⟨#[]⟩)).setCell (p := ⟨w.heap.size, 3, none⟩) (by simp) (.slice A (strs r.list.1).length C)).setCell (p := ⟨w.heap.size, 4, none⟩) (by simp) (.slice none 0 0)
    have e8 : Chg [p] w ((((((w1.setCell ⟨w.heap.size + 1, 3, none⟩ (.slice A (strs r.list.1).length C)).setCell ⟨w.heap.size, 0, none⟩ (.int .i64 3)).setCell ⟨w.heap.size, 1, none⟩ (.int .i64 0)).setCell ⟨w.heap.size, 2, none⟩ (.string ⟨#[]⟩)).setCell ⟨w.heap.size, 3, none⟩ (.slice A (strs r.list.1).length C)).setCell ⟨w.heap.size, 4, none⟩ (.slice none 0 0)) :=
      ((Chg.of_below hbW [p]).trans hch).step e7 (by intro b hb; simp at hb; right; omega)
    have hrowF := hrow.chg e7 (by intro a ha hm; have := hfr a ha; have := hWs.out; simp at hm; omega)
    have HL := Lib.hid (show (strs r.list.1).length = r.list.1.length from strs_length _)
    refine bodyPost_ret (results_cell_row rfl _ _ w.heap.size 45 _ (0, 0) _ rfl e5 Try.underlying45 rfl info45) rfl ?_
    refine ⟨?_, e6, e8⟩
    exact ⟨⟨A, C, none, 0⟩, by rw [HL.out]; rfl, ⟨hrowF, row_nil _ _⟩, (fun a ha => Nat.le_trans hbW.size (hfr a ha)), (by intro a ha; cases ha)⟩
  · go_enter Try.func44, Try.ntmps44
    go_wp2_with fail
    obtain ⟨W, hW⟩ : ∃ W, W = (w.alloc (.cells #[.int .i64 0, .int .i64 0, .string ⟨#[]⟩, .slice none 0 0, .slice none 0 0] 45)).alloc (.cells #[.int .i64 4, .int .i64 0, .string ⟨#[]⟩, .slice none 0 0, .slice none 0 0] 45) := ⟨_, rfl⟩
    have hbW : Below w.heap.size w W := by rw [hW]; exact ((Below.refl _ _).alloc (Nat.le_refl _) _).alloc (by simp) _
    have g0 : W.heap[w.heap.size]? = some (.cells #[.int .i64 0, .int .i64 0, .string ⟨#[]⟩, .slice none 0 0, .slice none 0 0] 45 (0, 0)) := by rw [hW, Below.heap_alloc _ _ _ (by simp)]; exact heap_alloc_new w _
    have g1 : W.heap[w.heap.size + 1]? = some (.cells #[.int .i64 4, .int .i64 0, .string ⟨#[]⟩, .slice none 0 0, .slice none 0 0] 45 (0, 0)) := by
      have := heap_alloc_new (w.alloc (.cells #[.int .i64 0, .int .i64 0, .string ⟨#[]⟩, .slice none 0 0, .slice none 0 0] 45)) (.cells #[.int .i64 4, .int .i64 0, .string ⟨#[]⟩, .slice none 0 0, .slice none 0 0] 45)
      rw [show (w.alloc (.cells #[.int .i64 0, .int .i64 0, .string ⟨#[]⟩, .slice none 0 0, .slice none 0 0] 45)).heap.size = w.heap.size + 1 by simp] at this
      rw [hW]; exact this
    have hWs := Lib.hid (show W.heap.size = w.heap.size + 2 by rw [hW]; simp)
    rw [← hW]
    clear hW
    have c := nums_rd p r W (h.below hbW) hl
    refine (Calls.mono c ?_)
    rintro e w1 ⟨A, C, rfl, hfr, hrow, hr, hch⟩
    have e0 := hch.heap_some (by simp; omega) g0
    have e1 := hch.heap_some (by simp; omega) g1
    have hcr := cell_row e1
    have hf1 : w1.frozen? ⟨w.heap.size + 1, 4, none⟩ = false := frozen_row e1 4
    have ho0 : w1.cell? ⟨w.heap.size + 1, 0, none⟩ = some (.int .i64 4) := hcr 0
    have ho1 : w1.cell? ⟨w.heap.size + 1, 1, none⟩ = some (.int .i64 0) := hcr 1
    have ho2 : w1.cell? ⟨w.heap.size + 1, 2, none⟩ = some (.string ⟨#[]⟩) := hcr 2
    have ho3 : w1.cell? ⟨w.heap.size + 1, 3, none⟩ = some (.slice none 0 0) := hcr 3
    have ho4 : w1.cell? ⟨w.heap.size + 1, 4, none⟩ = some (.slice none 0 0) := hcr 4
    clear hcr
    have i0 : w1.cell? ⟨w.heap.size, 0, none⟩ = some (.int .i64 0) := cell_row e0 0
    have i1 : w1.cell? ⟨w.heap.size, 1, none⟩ = some (.int .i64 0) := cell_row e0 1
    have i2 : w1.cell? ⟨w.heap.size, 2, none⟩ = some (.string ⟨#[]⟩) := cell_row e0 2
    have i3 : w1.cell? ⟨w.heap.size, 3, none⟩ = some (.slice none 0 0) := cell_row e0 3
    have i4 : w1.cell? ⟨w.heap.size, 4, none⟩ = some (.slice none 0 0) := cell_row e0 4
    have fz := frozen_row e0
    go_wp2
    have e5 : ((((((w1.setCell ⟨w.heap.size + 1, 4, none⟩ (.slice A (ints r.nums.1).length C)).setCell ⟨w.heap.size, 0, none⟩ (.int .i64 4)).setCell ⟨w.heap.size, 1, none⟩ (.int .i64 0)).setCell ⟨w.heap.size, 2, none⟩ (.string ⟨#[]⟩)).setCell ⟨w.heap.size, 3, none⟩ (.slice none 0 0)).setCell ⟨w.heap.size, 4, none⟩ (.slice A (ints r.nums.1).length C)).heap[w.heap.size]? = some (.cells #[.int .i64 4, .int .i64 0, .string ⟨#[]⟩, .slice none 0 0, .slice A (ints r.nums.1).length C] 45 (0, 0)) := by
      rw [set_row (set_row (set_row (set_row (set_row (set_row_other e0 (by simp) _) 0 _) 1 _) 2 _) 3 _) 4 _]; rfl
    have e6 : RdAt ((((((w1.setCell ⟨w.heap.size + 1, 4, none⟩ (.slice A (ints r.nums.1).length C)).setCell ⟨w.heap.size, 0, none⟩ (.int .i64 4)).setCell ⟨w.heap.size, 1, none⟩ (.int .i64 0)).setCell ⟨w.heap.size, 2, none⟩ (.string ⟨#[]⟩)).setCell ⟨w.heap.size, 3, none⟩ (.slice none 0 0)).setCell ⟨w.heap.size, 4, none⟩ (.slice A (ints r.nums.1).length C)) p 57 r.nums.2 :=
      set_row_other (set_row_other (set_row_other (set_row_other (set_row_other (set_row_other hr (by simp; omega) _) (by simp; omega) _) (by simp; omega) _) (by simp; omega) _) (by simp; omega) _) (by simp; omega) _
    have e7 := ((((((Chg.refl [w.heap.size, w.heap.size + 1] w1).setCell (p := ⟨w.heap.size + 1, 4, none⟩) (by simp) (.slice A (ints r.nums.1).length C)).setCell (p := ⟨w.heap.size, 0, none⟩) (by simp) (.int .i64 4)).setCell (p := ⟨w.heap.size, 1, none⟩) (by simp) (.int .i64 0)).setCell (p := ⟨w.heap.size, 2, none⟩) (by simp) (.string ⟨#[]⟩)).setCell (p := ⟨w.heap.size, 3, none⟩) (by simp) (.slice none 0 0)).setCell (p := ⟨w.heap.size, 4, none⟩) (by simp) (.slice A (ints r.nums.1).length C)
    have e8 : Chg [p] w ((((((w1.setCell ⟨w.heap.size + 1, 4, none⟩ (.slice A (ints r.nums.1).length C)).setCell ⟨w.heap.size, 0, none⟩ (.int .i64 4)).setCell ⟨w.heap.size, 1, none⟩ (.int .i64 0)).setCell ⟨w.heap.size, 2, none⟩ (.string ⟨#[]⟩)).setCell ⟨w.heap.size, 3, none⟩ (.slice none 0 0)).setCell ⟨w.heap.size, 4, none⟩ (.slice A (ints r.nums.1).length C)) :=
      ((Chg.of_below hbW [p]).trans hch).step e7 (by intro b hb; simp at hb; right; omega)
    have hrowF := hrow.chg e7 (by intro a ha hm; have := hfr a ha; have := hWs.out; simp at hm; omega)
    have HL := Lib.hid (show (ints r.nums.1).length = r.nums.1.length from ints_length _)
    refine bodyPost_ret (results_cell_row rfl _ _ w.heap.size 45 _ (0, 0) _ rfl e5 Try.underlying45 rfl info45) rfl ?_
    refine ⟨?_, e6, e8⟩
    exact ⟨⟨none, 0, A, C⟩, by rw [HL.out]; rfl, ⟨row_nil _ _, hrowF⟩, (by intro a ha; cases ha), (fun a ha => Nat.le_trans hbW.size (hfr a ha))⟩
end Go.Proofs.Ytckgnmloemnkcaa
