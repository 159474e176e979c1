/- The law's values: kind, valid, write, read, same, walked. -/
import Derived.Test.YtckgnmloemnkcaaSmall
namespace Go.Proofs.Ytckgnmloemnkcaa
open Go.ChangeShapes Go.WideShapes Go.ChangeAt Go.RowKit Go.Lib
set_option linter.unusedVariables false

structure V where
  k : Int
  n : Int
  s : List UInt8
  l : List (List UInt8)
  m : List Int
/-- where its slices lie -/
structure VP where
  A : Option Addr
  C : Nat
  B : Option Addr
  D : Nat
structure VAt (w : World) (v : V) (q : VP) : Prop where
  l : RowAt w q.A (strs v.l)
  m : RowAt w q.B (ints v.m)
structure V.wf (v : V) : Prop where
  k0 : -9223372036854775808 ≤ v.k
  k1 : v.k ≤ 9223372036854775807
  n0 : -9223372036854775808 ≤ v.n
  n1 : v.n ≤ 9223372036854775807
  m : ∀ x, x ∈ v.m → -9223372036854775808 ≤ x ∧ x ≤ 9223372036854775807
theorem VAt.below {w w' : World} {v : V} {q : VP} (h : VAt w v q) (hb : Below w.heap.size w w') : VAt w' v q := ⟨h.l.below hb, h.m.below hb⟩
def V.kind (v : V) : Int := v.k % 5
def V.write (v : V) : List UInt8 := if v.kind = 0 then numI v.n else if v.kind = 1 then intI v.n else if v.kind = 2 then textL v.s else if v.kind = 3 then listL v.l else numsL v.m
/-- the value is small -/
def V.small (v : V) : Prop := v.m.length ≤ 100 ∧ v.s.length ≤ 1000 ∧ lightB v.l = true
def V.valid (v : V) : Prop := v.small ∧ (∀ x, x ∈ v.m → intI x ≠ []) ∧ ¬ (v.kind = 0 ∧ v.n < 0) ∧ ¬ (v.kind = 1 ∧ intI v.n = [])
def V.same (a b : V) : Prop := (a.kind = 0 → a.n = b.n) ∧ (a.kind = 1 → a.n = b.n) ∧ (a.kind = 2 → a.s = b.s) ∧ (a.kind = 3 → a.l = b.l) ∧ (a.kind = 4 → a.m = b.m)

theorem tmod5 (k : Int) : (wrap64 (k.tmod 5 + 5)).tmod 5 = k % 5 := by
  by_cases h : 0 ≤ k
  · rw [Int.tmod_eq_emod_of_nonneg h]
    have hw : wrap64 (k % 5 + 5) = k % 5 + 5 := by unfold wrap64; omega
    rw [hw, Int.tmod_eq_emod_of_nonneg (by omega)]
    omega
  · obtain ⟨j, rfl⟩ : ∃ j : Nat, k = -(j : Int) := ⟨(-k).toNat, by omega⟩
    have e : (-(j : Int)).tmod 5 = -((j : Int) % 5) := by rw [Int.neg_tmod, Int.tmod_eq_emod_of_nonneg (by omega)]
    have hw : wrap64 (-((j : Int) % 5) + 5) = -((j : Int) % 5) + 5 := by unfold wrap64; omega
    rw [e, hw, Int.tmod_eq_emod_of_nonneg (by omega)]
    omega
theorem kind_any (k : Int) (x1 x2 x3 x4 : Value) (w : World) :
    Calls Try.prog 45 #[.agg #[.int .i64 k, x1, x2, x3, x4]] w (fun e w' => e = .returned (.int .i64 (k % 5)) ∧ Below w.heap.size w w') := by
  have e1 := Lib.hid (tmod5 k)
  go_enter Try.func45, Try.ntmps45
  go_wp2
  go_ret
  refine ⟨?_, (Below.refl _ _).alloc (Nat.le_refl _) _⟩
  rw [← e1.out]; rfl
theorem new_cell (w : World) (cs : Array Value) (t j : Nat) : (w.alloc (.cells cs t)).cell? ⟨w.heap.size, j, none⟩ = cs[j]? := cell_of_row _ _ _ _ _ (0, 0) (heap_alloc_new w _)
/-- not too great to be written -/
structure V.mid (v : V) : Prop where
  m : v.m.length ≤ 10000
  s : v.s.length ≤ 10000
  l : v.l.length ≤ 10000
  ls : ∀ s, s ∈ v.l → s.length ≤ 10000
theorem V.small.mid {v : V} (h : v.small) : v.mid := by
  obtain ⟨h1, h2, h3⟩ := h
  have h4 : v.l.length ≤ 100 ∧ ∀ s, s ∈ v.l → s.length ≤ 1000 := by unfold lightB at h3; simpa using h3
  exact ⟨by omega, by omega, by omega, fun s hs => by have := h4.2 s hs; omega⟩
theorem V.mid.len {v : V} (h : v.mid) : v.write.length ≤ 201000000 := by
  unfold V.write
  split
  · have := numI_length v.n; omega
  · split
    · have := intI_length v.n; omega
    · split
      · have := textL_length v.s; have := h.s; omega
      · split
        · unfold listL
          have h1 := flatMap_take_le textL 20000 v.l v.l.length (fun x hx => by have h1 := textL_length x; have h2 := h.ls x hx; omega)
          rw [List.take_length] at h1
          have h2 := numF_length 10 v.l.length
          have h3 := h.l
          simp only [List.length_append, numL]
          omega
        · unfold numsL
          have h1 := flatMap_take_le intI 20000 v.m v.m.length (fun x hx => by have h1 := intI_length x; omega)
          rw [List.take_length] at h1
          have h2 := numF_length 10 v.m.length
          have h3 := h.m
          simp only [List.length_append, numL]
          omega
theorem write_any (v : V) (q : VP) (w : World) (hv : VAt w v q) (hw : v.wf) (hs : v.mid) :
    Calls Try.prog 43 #[.agg #[.int .i64 v.k, .int .i64 v.n, .string (bs v.s), .slice q.A v.l.length q.C, .slice q.B v.m.length q.D]] w (StrPost w v.write) := by
  have hll := hs.ls
  have hlen := hs.l
  have hm100 := hs.m
  have hs1 := hs.s
  have ck := kind_any v.k (.int .i64 v.n) (.string (bs v.s)) (.slice q.A v.l.length q.C) (.slice q.B v.m.length q.D)
  have HW : Hid (v.write = if v.k % 5 = 0 then numI v.n else if v.k % 5 = 1 then intI v.n else if v.k % 5 = 2 then textL v.s else if v.k % 5 = 3 then listL v.l else numsL v.m) := rfl
  have hd : v.k % 5 = 0 ∨ v.k % 5 = 1 ∨ v.k % 5 = 2 ∨ v.k % 5 = 3 ∨ v.k % 5 = 4 := by omega
  have hL := Lib.hid (fun W hb => list_any v.l q.A q.C W (hv.l.below hb) (by omega) (fun x hx => by have := hll x hx; omega))
  have hM := Lib.hid (fun W hb => nums_any v.m q.B q.D W (hv.m.below hb) (by omega) hw.m)
  have n0 := hw.n0
  have n1 := hw.n1
  clear hv hw hs hll
  obtain ⟨kk, hk⟩ : ∃ kk, kk = v.k % 5 := ⟨_, rfl⟩
  rw [← hk] at ck HW hd
  obtain ⟨k, n, s, l, m⟩ := v
  obtain ⟨A, C, B, D⟩ := q
  simp only at *
  clear hk
  have hb0 : Below w.heap.size w (w.alloc (.cells #[.int .i64 k, .int .i64 n, .string (bs s), .slice A l.length C, .slice B m.length D] 45)) := (Below.refl _ _).alloc (Nat.le_refl _) _
  rcases hd with rfl | rfl | rfl | rfl | rfl
  · go_enter Try.func43, Try.ntmps43
    go_wp2_with (first | (go_at_call 45; refine (ck _).mono ?_; rintro e w1 ⟨rfl, hb1⟩; have f0 := (hb1.cell (p := ⟨w.heap.size, 0, none⟩) (by simp)).trans (new_cell w #[.int .i64 k, .int .i64 n, .string (bs s), .slice A l.length C, .slice B m.length D] 45 0); have f1 := (hb1.cell (p := ⟨w.heap.size, 1, none⟩) (by simp)).trans (new_cell w #[.int .i64 k, .int .i64 n, .string (bs s), .slice A l.length C, .slice B m.length D] 45 1); have f2 := (hb1.cell (p := ⟨w.heap.size, 2, none⟩) (by simp)).trans (new_cell w #[.int .i64 k, .int .i64 n, .string (bs s), .slice A l.length C, .slice B m.length D] 45 2); have f3 := (hb1.cell (p := ⟨w.heap.size, 3, none⟩) (by simp)).trans (new_cell w #[.int .i64 k, .int .i64 n, .string (bs s), .slice A l.length C, .slice B m.length D] 45 3); have f4 := (hb1.cell (p := ⟨w.heap.size, 4, none⟩) (by simp)).trans (new_cell w #[.int .i64 k, .int .i64 n, .string (bs s), .slice A l.length C, .slice B m.length D] 45 4); have hb2 : Below w.heap.size w w1 := hb0.trans (hb1.mono (by simp)); clear hb1 hb0) | (go_at_call 12; refine (num_any n _ n1).mono ?_; rintro e w2 ⟨rfl, hb3⟩))
    go_ret
    exact ⟨by rw [HW.out]; rfl, hb2.trans (hb3.mono hb2.size)⟩
  · go_enter Try.func43, Try.ntmps43
    go_wp2_with (first | (go_at_call 45; refine (ck _).mono ?_; rintro e w1 ⟨rfl, hb1⟩; have f0 := (hb1.cell (p := ⟨w.heap.size, 0, none⟩) (by simp)).trans (new_cell w #[.int .i64 k, .int .i64 n, .string (bs s), .slice A l.length C, .slice B m.length D] 45 0); have f1 := (hb1.cell (p := ⟨w.heap.size, 1, none⟩) (by simp)).trans (new_cell w #[.int .i64 k, .int .i64 n, .string (bs s), .slice A l.length C, .slice B m.length D] 45 1); have f2 := (hb1.cell (p := ⟨w.heap.size, 2, none⟩) (by simp)).trans (new_cell w #[.int .i64 k, .int .i64 n, .string (bs s), .slice A l.length C, .slice B m.length D] 45 2); have f3 := (hb1.cell (p := ⟨w.heap.size, 3, none⟩) (by simp)).trans (new_cell w #[.int .i64 k, .int .i64 n, .string (bs s), .slice A l.length C, .slice B m.length D] 45 3); have f4 := (hb1.cell (p := ⟨w.heap.size, 4, none⟩) (by simp)).trans (new_cell w #[.int .i64 k, .int .i64 n, .string (bs s), .slice A l.length C, .slice B m.length D] 45 4); have hb2 : Below w.heap.size w w1 := hb0.trans (hb1.mono (by simp)); clear hb1 hb0) | (go_at_call 14; refine (int_any n _ n0 n1).mono ?_; rintro e w2 ⟨rfl, hb3⟩))
    go_ret
    exact ⟨by rw [HW.out]; rfl, hb2.trans (hb3.mono hb2.size)⟩
  · go_enter Try.func43, Try.ntmps43
    go_wp2_with (first | (go_at_call 45; refine (ck _).mono ?_; rintro e w1 ⟨rfl, hb1⟩; have f0 := (hb1.cell (p := ⟨w.heap.size, 0, none⟩) (by simp)).trans (new_cell w #[.int .i64 k, .int .i64 n, .string (bs s), .slice A l.length C, .slice B m.length D] 45 0); have f1 := (hb1.cell (p := ⟨w.heap.size, 1, none⟩) (by simp)).trans (new_cell w #[.int .i64 k, .int .i64 n, .string (bs s), .slice A l.length C, .slice B m.length D] 45 1); have f2 := (hb1.cell (p := ⟨w.heap.size, 2, none⟩) (by simp)).trans (new_cell w #[.int .i64 k, .int .i64 n, .string (bs s), .slice A l.length C, .slice B m.length D] 45 2); have f3 := (hb1.cell (p := ⟨w.heap.size, 3, none⟩) (by simp)).trans (new_cell w #[.int .i64 k, .int .i64 n, .string (bs s), .slice A l.length C, .slice B m.length D] 45 3); have f4 := (hb1.cell (p := ⟨w.heap.size, 4, none⟩) (by simp)).trans (new_cell w #[.int .i64 k, .int .i64 n, .string (bs s), .slice A l.length C, .slice B m.length D] 45 4); have hb2 : Below w.heap.size w w1 := hb0.trans (hb1.mono (by simp)); clear hb1 hb0) | (go_at_call 16; refine (text_any s _ (by omega)).mono ?_; rintro e w2 ⟨rfl, hb3⟩))
    go_ret
    exact ⟨by rw [HW.out]; rfl, hb2.trans (hb3.mono hb2.size)⟩
  · go_enter Try.func43, Try.ntmps43
    go_wp2_with (first | (go_at_call 45; refine (ck _).mono ?_; rintro e w1 ⟨rfl, hb1⟩; have f0 := (hb1.cell (p := ⟨w.heap.size, 0, none⟩) (by simp)).trans (new_cell w #[.int .i64 k, .int .i64 n, .string (bs s), .slice A l.length C, .slice B m.length D] 45 0); have f1 := (hb1.cell (p := ⟨w.heap.size, 1, none⟩) (by simp)).trans (new_cell w #[.int .i64 k, .int .i64 n, .string (bs s), .slice A l.length C, .slice B m.length D] 45 1); have f2 := (hb1.cell (p := ⟨w.heap.size, 2, none⟩) (by simp)).trans (new_cell w #[.int .i64 k, .int .i64 n, .string (bs s), .slice A l.length C, .slice B m.length D] 45 2); have f3 := (hb1.cell (p := ⟨w.heap.size, 3, none⟩) (by simp)).trans (new_cell w #[.int .i64 k, .int .i64 n, .string (bs s), .slice A l.length C, .slice B m.length D] 45 3); have f4 := (hb1.cell (p := ⟨w.heap.size, 4, none⟩) (by simp)).trans (new_cell w #[.int .i64 k, .int .i64 n, .string (bs s), .slice A l.length C, .slice B m.length D] 45 4); have hb2 : Below w.heap.size w w1 := hb0.trans (hb1.mono (by simp)); clear hb1 hb0) | (go_at_call 18; refine (hL.out _ hb2).mono ?_; rintro e w2 ⟨rfl, hb3⟩))
    go_ret
    exact ⟨by rw [HW.out]; rfl, hb2.trans (hb3.mono hb2.size)⟩
  · go_enter Try.func43, Try.ntmps43
    go_wp2_with (first | (go_at_call 45; refine (ck _).mono ?_; rintro e w1 ⟨rfl, hb1⟩; have f0 := (hb1.cell (p := ⟨w.heap.size, 0, none⟩) (by simp)).trans (new_cell w #[.int .i64 k, .int .i64 n, .string (bs s), .slice A l.length C, .slice B m.length D] 45 0); have f1 := (hb1.cell (p := ⟨w.heap.size, 1, none⟩) (by simp)).trans (new_cell w #[.int .i64 k, .int .i64 n, .string (bs s), .slice A l.length C, .slice B m.length D] 45 1); have f2 := (hb1.cell (p := ⟨w.heap.size, 2, none⟩) (by simp)).trans (new_cell w #[.int .i64 k, .int .i64 n, .string (bs s), .slice A l.length C, .slice B m.length D] 45 2); have f3 := (hb1.cell (p := ⟨w.heap.size, 3, none⟩) (by simp)).trans (new_cell w #[.int .i64 k, .int .i64 n, .string (bs s), .slice A l.length C, .slice B m.length D] 45 3); have f4 := (hb1.cell (p := ⟨w.heap.size, 4, none⟩) (by simp)).trans (new_cell w #[.int .i64 k, .int .i64 n, .string (bs s), .slice A l.length C, .slice B m.length D] 45 4); have hb2 : Below w.heap.size w w1 := hb0.trans (hb1.mono (by simp)); clear hb1 hb0) | (go_at_call 20; refine (hM.out _ hb2).mono ?_; rintro e w2 ⟨rfl, hb3⟩))
    go_ret
    exact ⟨by rw [HW.out]; rfl, hb2.trans (hb3.mono hb2.size)⟩
theorem two_old (w : World) (cs ds : Array Value) (t j : Nat) : ((w.alloc (.cells cs t)).alloc (.cells ds t)).cell? ⟨w.heap.size, j, none⟩ = cs[j]? := by
  rw [World.cell?_of_block (w := w.alloc (.cells cs t)) (Below.heap_alloc _ _ _ (by simp))]
  exact new_cell w cs t j
theorem two_new (w : World) (cs ds : Array Value) (t j : Nat) : ((w.alloc (.cells cs t)).alloc (.cells ds t)).cell? ⟨w.heap.size + 1, j, none⟩ = ds[j]? := by
  have h := new_cell (w.alloc (.cells cs t)) ds t j
  rwa [show (w.alloc (.cells cs t)).heap.size = w.heap.size + 1 by simp] at h
open Classical in
noncomputable def V.sameB (a b : V) : Bool := decide (a.same b)
theorem same_any (v u : V) (q r : VP) (w : World) (hv : VAt w v q) (hu : VAt w u r) (hvs : v.small) (hus : u.m.length ≤ 1000000000 ∧ u.l.length ≤ 1000000000) :
    Calls Try.prog 46 #[.agg #[.int .i64 v.k, .int .i64 v.n, .string (bs v.s), .slice q.A v.l.length q.C, .slice q.B v.m.length q.D], .agg #[.int .i64 u.k, .int .i64 u.n, .string (bs u.s), .slice r.A u.l.length r.C, .slice r.B u.m.length r.D]] w (BoolPost w (v.sameB u)) := by
  have hll : v.l.length ≤ 100 ∧ ∀ s, s ∈ v.l → s.length ≤ 1000 := by have := hvs.2.2; unfold lightB at this; simpa using this
  have hm100 := hvs.1
  have hs1 := hvs.2.1
  have ck := kind_any v.k (.int .i64 v.n) (.string (bs v.s)) (.slice q.A v.l.length q.C) (.slice q.B v.m.length q.D)
  have HS : Hid (v.sameB u = if v.k % 5 = 0 then decide (v.n = u.n) else if v.k % 5 = 1 then decide (v.n = u.n) else if v.k % 5 = 2 then decide (v.s = u.s) else if v.k % 5 = 3 then decide (v.l = u.l) else decide (v.m = u.m)) := by
    unfold Hid V.sameB V.same V.kind
    have hd : v.k % 5 = 0 ∨ v.k % 5 = 1 ∨ v.k % 5 = 2 ∨ v.k % 5 = 3 ∨ v.k % 5 = 4 := by omega
    rcases hd with h | h | h | h | h <;> simp [h]
  have hd : v.k % 5 = 0 ∨ v.k % 5 = 1 ∨ v.k % 5 = 2 ∨ v.k % 5 = 3 ∨ v.k % 5 = 4 := by omega
  have hL := Lib.hid (fun W hb => sameTexts_any v.l u.l q.A r.A q.C r.C W (hv.l.below hb) (hu.l.below hb) (by omega) hus.2)
  have hM := Lib.hid (fun W hb => sameNums_any v.m u.m q.B r.B q.D r.D W (hv.m.below hb) (hu.m.below hb) (by omega) hus.1)
  have t1 := bs_toList v.s
  have t2 := bs_toList u.s
  clear hv hu hvs hus hll
  obtain ⟨kk, hk⟩ : ∃ kk, kk = v.k % 5 := ⟨_, rfl⟩
  rw [← hk] at ck HS hd
  obtain ⟨k, n, s, l, m⟩ := v
  obtain ⟨A, C, B, D⟩ := q
  obtain ⟨k', n', s', l', m'⟩ := u
  obtain ⟨A', C', B', D'⟩ := r
  simp only at *
  clear hk
  have hb0 : Below w.heap.size w ((w.alloc (.cells #[.int .i64 k, .int .i64 n, .string (bs s), .slice A l.length C, .slice B m.length D] 45)).alloc (.cells #[.int .i64 k', .int .i64 n', .string (bs s'), .slice A' l'.length C', .slice B' m'.length D'] 45)) := ((Below.refl _ _).alloc (Nat.le_refl _) _).alloc (by simp) _
  rcases hd with rfl | rfl | rfl | rfl | rfl
  · go_enter Try.func46, Try.ntmps46
    go_wp2_with (first | (go_at_call 45; refine (ck _).mono ?_; rintro e w1 ⟨rfl, hb1⟩; have f0 := (hb1.cell (p := ⟨w.heap.size, 0, none⟩) (by simp; omega)).trans (two_old w #[.int .i64 k, .int .i64 n, .string (bs s), .slice A l.length C, .slice B m.length D] #[.int .i64 k', .int .i64 n', .string (bs s'), .slice A' l'.length C', .slice B' m'.length D'] 45 0); have f1 := (hb1.cell (p := ⟨w.heap.size, 1, none⟩) (by simp; omega)).trans (two_old w #[.int .i64 k, .int .i64 n, .string (bs s), .slice A l.length C, .slice B m.length D] #[.int .i64 k', .int .i64 n', .string (bs s'), .slice A' l'.length C', .slice B' m'.length D'] 45 1); have f2 := (hb1.cell (p := ⟨w.heap.size, 2, none⟩) (by simp; omega)).trans (two_old w #[.int .i64 k, .int .i64 n, .string (bs s), .slice A l.length C, .slice B m.length D] #[.int .i64 k', .int .i64 n', .string (bs s'), .slice A' l'.length C', .slice B' m'.length D'] 45 2); have f3 := (hb1.cell (p := ⟨w.heap.size, 3, none⟩) (by simp; omega)).trans (two_old w #[.int .i64 k, .int .i64 n, .string (bs s), .slice A l.length C, .slice B m.length D] #[.int .i64 k', .int .i64 n', .string (bs s'), .slice A' l'.length C', .slice B' m'.length D'] 45 3); have f4 := (hb1.cell (p := ⟨w.heap.size, 4, none⟩) (by simp; omega)).trans (two_old w #[.int .i64 k, .int .i64 n, .string (bs s), .slice A l.length C, .slice B m.length D] #[.int .i64 k', .int .i64 n', .string (bs s'), .slice A' l'.length C', .slice B' m'.length D'] 45 4); have g0 := (hb1.cell (p := ⟨w.heap.size + 1, 0, none⟩) (by simp)).trans (two_new w #[.int .i64 k, .int .i64 n, .string (bs s), .slice A l.length C, .slice B m.length D] #[.int .i64 k', .int .i64 n', .string (bs s'), .slice A' l'.length C', .slice B' m'.length D'] 45 0); have g1 := (hb1.cell (p := ⟨w.heap.size + 1, 1, none⟩) (by simp)).trans (two_new w #[.int .i64 k, .int .i64 n, .string (bs s), .slice A l.length C, .slice B m.length D] #[.int .i64 k', .int .i64 n', .string (bs s'), .slice A' l'.length C', .slice B' m'.length D'] 45 1); have g2 := (hb1.cell (p := ⟨w.heap.size + 1, 2, none⟩) (by simp)).trans (two_new w #[.int .i64 k, .int .i64 n, .string (bs s), .slice A l.length C, .slice B m.length D] #[.int .i64 k', .int .i64 n', .string (bs s'), .slice A' l'.length C', .slice B' m'.length D'] 45 2); have g3 := (hb1.cell (p := ⟨w.heap.size + 1, 3, none⟩) (by simp)).trans (two_new w #[.int .i64 k, .int .i64 n, .string (bs s), .slice A l.length C, .slice B m.length D] #[.int .i64 k', .int .i64 n', .string (bs s'), .slice A' l'.length C', .slice B' m'.length D'] 45 3); have g4 := (hb1.cell (p := ⟨w.heap.size + 1, 4, none⟩) (by simp)).trans (two_new w #[.int .i64 k, .int .i64 n, .string (bs s), .slice A l.length C, .slice B m.length D] #[.int .i64 k', .int .i64 n', .string (bs s'), .slice A' l'.length C', .slice B' m'.length D'] 45 4); have hb2 : Below w.heap.size w w1 := hb0.trans (hb1.mono (by simp; omega)); clear hb1 hb0))
    go_ret
    refine ⟨?_, hb2⟩
    rw [HS.out]; simp; first | rfl | (by_cases h : n = n' <;> simp [h])
  · go_enter Try.func46, Try.ntmps46
    go_wp2_with (first | (go_at_call 45; refine (ck _).mono ?_; rintro e w1 ⟨rfl, hb1⟩; have f0 := (hb1.cell (p := ⟨w.heap.size, 0, none⟩) (by simp; omega)).trans (two_old w #[.int .i64 k, .int .i64 n, .string (bs s), .slice A l.length C, .slice B m.length D] #[.int .i64 k', .int .i64 n', .string (bs s'), .slice A' l'.length C', .slice B' m'.length D'] 45 0); have f1 := (hb1.cell (p := ⟨w.heap.size, 1, none⟩) (by simp; omega)).trans (two_old w #[.int .i64 k, .int .i64 n, .string (bs s), .slice A l.length C, .slice B m.length D] #[.int .i64 k', .int .i64 n', .string (bs s'), .slice A' l'.length C', .slice B' m'.length D'] 45 1); have f2 := (hb1.cell (p := ⟨w.heap.size, 2, none⟩) (by simp; omega)).trans (two_old w #[.int .i64 k, .int .i64 n, .string (bs s), .slice A l.length C, .slice B m.length D] #[.int .i64 k', .int .i64 n', .string (bs s'), .slice A' l'.length C', .slice B' m'.length D'] 45 2); have f3 := (hb1.cell (p := ⟨w.heap.size, 3, none⟩) (by simp; omega)).trans (two_old w #[.int .i64 k, .int .i64 n, .string (bs s), .slice A l.length C, .slice B m.length D] #[.int .i64 k', .int .i64 n', .string (bs s'), .slice A' l'.length C', .slice B' m'.length D'] 45 3); have f4 := (hb1.cell (p := ⟨w.heap.size, 4, none⟩) (by simp; omega)).trans (two_old w #[.int .i64 k, .int .i64 n, .string (bs s), .slice A l.length C, .slice B m.length D] #[.int .i64 k', .int .i64 n', .string (bs s'), .slice A' l'.length C', .slice B' m'.length D'] 45 4); have g0 := (hb1.cell (p := ⟨w.heap.size + 1, 0, none⟩) (by simp)).trans (two_new w #[.int .i64 k, .int .i64 n, .string (bs s), .slice A l.length C, .slice B m.length D] #[.int .i64 k', .int .i64 n', .string (bs s'), .slice A' l'.length C', .slice B' m'.length D'] 45 0); have g1 := (hb1.cell (p := ⟨w.heap.size + 1, 1, none⟩) (by simp)).trans (two_new w #[.int .i64 k, .int .i64 n, .string (bs s), .slice A l.length C, .slice B m.length D] #[.int .i64 k', .int .i64 n', .string (bs s'), .slice A' l'.length C', .slice B' m'.length D'] 45 1); have g2 := (hb1.cell (p := ⟨w.heap.size + 1, 2, none⟩) (by simp)).trans (two_new w #[.int .i64 k, .int .i64 n, .string (bs s), .slice A l.length C, .slice B m.length D] #[.int .i64 k', .int .i64 n', .string (bs s'), .slice A' l'.length C', .slice B' m'.length D'] 45 2); have g3 := (hb1.cell (p := ⟨w.heap.size + 1, 3, none⟩) (by simp)).trans (two_new w #[.int .i64 k, .int .i64 n, .string (bs s), .slice A l.length C, .slice B m.length D] #[.int .i64 k', .int .i64 n', .string (bs s'), .slice A' l'.length C', .slice B' m'.length D'] 45 3); have g4 := (hb1.cell (p := ⟨w.heap.size + 1, 4, none⟩) (by simp)).trans (two_new w #[.int .i64 k, .int .i64 n, .string (bs s), .slice A l.length C, .slice B m.length D] #[.int .i64 k', .int .i64 n', .string (bs s'), .slice A' l'.length C', .slice B' m'.length D'] 45 4); have hb2 : Below w.heap.size w w1 := hb0.trans (hb1.mono (by simp; omega)); clear hb1 hb0))
    go_ret
    refine ⟨?_, hb2⟩
    rw [HS.out]; simp; first | rfl | (by_cases h : n = n' <;> simp [h])
  · go_enter Try.func46, Try.ntmps46
    go_wp2_with (first | (go_at_call 45; refine (ck _).mono ?_; rintro e w1 ⟨rfl, hb1⟩; have f0 := (hb1.cell (p := ⟨w.heap.size, 0, none⟩) (by simp; omega)).trans (two_old w #[.int .i64 k, .int .i64 n, .string (bs s), .slice A l.length C, .slice B m.length D] #[.int .i64 k', .int .i64 n', .string (bs s'), .slice A' l'.length C', .slice B' m'.length D'] 45 0); have f1 := (hb1.cell (p := ⟨w.heap.size, 1, none⟩) (by simp; omega)).trans (two_old w #[.int .i64 k, .int .i64 n, .string (bs s), .slice A l.length C, .slice B m.length D] #[.int .i64 k', .int .i64 n', .string (bs s'), .slice A' l'.length C', .slice B' m'.length D'] 45 1); have f2 := (hb1.cell (p := ⟨w.heap.size, 2, none⟩) (by simp; omega)).trans (two_old w #[.int .i64 k, .int .i64 n, .string (bs s), .slice A l.length C, .slice B m.length D] #[.int .i64 k', .int .i64 n', .string (bs s'), .slice A' l'.length C', .slice B' m'.length D'] 45 2); have f3 := (hb1.cell (p := ⟨w.heap.size, 3, none⟩) (by simp; omega)).trans (two_old w #[.int .i64 k, .int .i64 n, .string (bs s), .slice A l.length C, .slice B m.length D] #[.int .i64 k', .int .i64 n', .string (bs s'), .slice A' l'.length C', .slice B' m'.length D'] 45 3); have f4 := (hb1.cell (p := ⟨w.heap.size, 4, none⟩) (by simp; omega)).trans (two_old w #[.int .i64 k, .int .i64 n, .string (bs s), .slice A l.length C, .slice B m.length D] #[.int .i64 k', .int .i64 n', .string (bs s'), .slice A' l'.length C', .slice B' m'.length D'] 45 4); have g0 := (hb1.cell (p := ⟨w.heap.size + 1, 0, none⟩) (by simp)).trans (two_new w #[.int .i64 k, .int .i64 n, .string (bs s), .slice A l.length C, .slice B m.length D] #[.int .i64 k', .int .i64 n', .string (bs s'), .slice A' l'.length C', .slice B' m'.length D'] 45 0); have g1 := (hb1.cell (p := ⟨w.heap.size + 1, 1, none⟩) (by simp)).trans (two_new w #[.int .i64 k, .int .i64 n, .string (bs s), .slice A l.length C, .slice B m.length D] #[.int .i64 k', .int .i64 n', .string (bs s'), .slice A' l'.length C', .slice B' m'.length D'] 45 1); have g2 := (hb1.cell (p := ⟨w.heap.size + 1, 2, none⟩) (by simp)).trans (two_new w #[.int .i64 k, .int .i64 n, .string (bs s), .slice A l.length C, .slice B m.length D] #[.int .i64 k', .int .i64 n', .string (bs s'), .slice A' l'.length C', .slice B' m'.length D'] 45 2); have g3 := (hb1.cell (p := ⟨w.heap.size + 1, 3, none⟩) (by simp)).trans (two_new w #[.int .i64 k, .int .i64 n, .string (bs s), .slice A l.length C, .slice B m.length D] #[.int .i64 k', .int .i64 n', .string (bs s'), .slice A' l'.length C', .slice B' m'.length D'] 45 3); have g4 := (hb1.cell (p := ⟨w.heap.size + 1, 4, none⟩) (by simp)).trans (two_new w #[.int .i64 k, .int .i64 n, .string (bs s), .slice A l.length C, .slice B m.length D] #[.int .i64 k', .int .i64 n', .string (bs s'), .slice A' l'.length C', .slice B' m'.length D'] 45 4); have hb2 : Below w.heap.size w w1 := hb0.trans (hb1.mono (by simp; omega)); clear hb1 hb0))
    go_ret
    refine ⟨?_, hb2⟩
    rw [HS.out]; simp; first | rfl | (by_cases h : s = s' <;> simp [h])
  · go_enter Try.func46, Try.ntmps46
    go_wp2_with (first | (go_at_call 45; refine (ck _).mono ?_; rintro e w1 ⟨rfl, hb1⟩; have f0 := (hb1.cell (p := ⟨w.heap.size, 0, none⟩) (by simp; omega)).trans (two_old w #[.int .i64 k, .int .i64 n, .string (bs s), .slice A l.length C, .slice B m.length D] #[.int .i64 k', .int .i64 n', .string (bs s'), .slice A' l'.length C', .slice B' m'.length D'] 45 0); have f1 := (hb1.cell (p := ⟨w.heap.size, 1, none⟩) (by simp; omega)).trans (two_old w #[.int .i64 k, .int .i64 n, .string (bs s), .slice A l.length C, .slice B m.length D] #[.int .i64 k', .int .i64 n', .string (bs s'), .slice A' l'.length C', .slice B' m'.length D'] 45 1); have f2 := (hb1.cell (p := ⟨w.heap.size, 2, none⟩) (by simp; omega)).trans (two_old w #[.int .i64 k, .int .i64 n, .string (bs s), .slice A l.length C, .slice B m.length D] #[.int .i64 k', .int .i64 n', .string (bs s'), .slice A' l'.length C', .slice B' m'.length D'] 45 2); have f3 := (hb1.cell (p := ⟨w.heap.size, 3, none⟩) (by simp; omega)).trans (two_old w #[.int .i64 k, .int .i64 n, .string (bs s), .slice A l.length C, .slice B m.length D] #[.int .i64 k', .int .i64 n', .string (bs s'), .slice A' l'.length C', .slice B' m'.length D'] 45 3); have f4 := (hb1.cell (p := ⟨w.heap.size, 4, none⟩) (by simp; omega)).trans (two_old w #[.int .i64 k, .int .i64 n, .string (bs s), .slice A l.length C, .slice B m.length D] #[.int .i64 k', .int .i64 n', .string (bs s'), .slice A' l'.length C', .slice B' m'.length D'] 45 4); have g0 := (hb1.cell (p := ⟨w.heap.size + 1, 0, none⟩) (by simp)).trans (two_new w #[.int .i64 k, .int .i64 n, .string (bs s), .slice A l.length C, .slice B m.length D] #[.int .i64 k', .int .i64 n', .string (bs s'), .slice A' l'.length C', .slice B' m'.length D'] 45 0); have g1 := (hb1.cell (p := ⟨w.heap.size + 1, 1, none⟩) (by simp)).trans (two_new w #[.int .i64 k, .int .i64 n, .string (bs s), .slice A l.length C, .slice B m.length D] #[.int .i64 k', .int .i64 n', .string (bs s'), .slice A' l'.length C', .slice B' m'.length D'] 45 1); have g2 := (hb1.cell (p := ⟨w.heap.size + 1, 2, none⟩) (by simp)).trans (two_new w #[.int .i64 k, .int .i64 n, .string (bs s), .slice A l.length C, .slice B m.length D] #[.int .i64 k', .int .i64 n', .string (bs s'), .slice A' l'.length C', .slice B' m'.length D'] 45 2); have g3 := (hb1.cell (p := ⟨w.heap.size + 1, 3, none⟩) (by simp)).trans (two_new w #[.int .i64 k, .int .i64 n, .string (bs s), .slice A l.length C, .slice B m.length D] #[.int .i64 k', .int .i64 n', .string (bs s'), .slice A' l'.length C', .slice B' m'.length D'] 45 3); have g4 := (hb1.cell (p := ⟨w.heap.size + 1, 4, none⟩) (by simp)).trans (two_new w #[.int .i64 k, .int .i64 n, .string (bs s), .slice A l.length C, .slice B m.length D] #[.int .i64 k', .int .i64 n', .string (bs s'), .slice A' l'.length C', .slice B' m'.length D'] 45 4); have hb2 : Below w.heap.size w w1 := hb0.trans (hb1.mono (by simp; omega)); clear hb1 hb0) | (go_at_call 32; refine (hL.out _ hb2).mono ?_; rintro e w2 ⟨rfl, hb3⟩))
    go_ret
    refine ⟨?_, hb2.trans (hb3.mono hb2.size)⟩
    rw [HS.out]; rfl
  · go_enter Try.func46, Try.ntmps46
    go_wp2_with (first | (go_at_call 45; refine (ck _).mono ?_; rintro e w1 ⟨rfl, hb1⟩; have f0 := (hb1.cell (p := ⟨w.heap.size, 0, none⟩) (by simp; omega)).trans (two_old w #[.int .i64 k, .int .i64 n, .string (bs s), .slice A l.length C, .slice B m.length D] #[.int .i64 k', .int .i64 n', .string (bs s'), .slice A' l'.length C', .slice B' m'.length D'] 45 0); have f1 := (hb1.cell (p := ⟨w.heap.size, 1, none⟩) (by simp; omega)).trans (two_old w #[.int .i64 k, .int .i64 n, .string (bs s), .slice A l.length C, .slice B m.length D] #[.int .i64 k', .int .i64 n', .string (bs s'), .slice A' l'.length C', .slice B' m'.length D'] 45 1); have f2 := (hb1.cell (p := ⟨w.heap.size, 2, none⟩) (by simp; omega)).trans (two_old w #[.int .i64 k, .int .i64 n, .string (bs s), .slice A l.length C, .slice B m.length D] #[.int .i64 k', .int .i64 n', .string (bs s'), .slice A' l'.length C', .slice B' m'.length D'] 45 2); have f3 := (hb1.cell (p := ⟨w.heap.size, 3, none⟩) (by simp; omega)).trans (two_old w #[.int .i64 k, .int .i64 n, .string (bs s), .slice A l.length C, .slice B m.length D] #[.int .i64 k', .int .i64 n', .string (bs s'), .slice A' l'.length C', .slice B' m'.length D'] 45 3); have f4 := (hb1.cell (p := ⟨w.heap.size, 4, none⟩) (by simp; omega)).trans (two_old w #[.int .i64 k, .int .i64 n, .string (bs s), .slice A l.length C, .slice B m.length D] #[.int .i64 k', .int .i64 n', .string (bs s'), .slice A' l'.length C', .slice B' m'.length D'] 45 4); have g0 := (hb1.cell (p := ⟨w.heap.size + 1, 0, none⟩) (by simp)).trans (two_new w #[.int .i64 k, .int .i64 n, .string (bs s), .slice A l.length C, .slice B m.length D] #[.int .i64 k', .int .i64 n', .string (bs s'), .slice A' l'.length C', .slice B' m'.length D'] 45 0); have g1 := (hb1.cell (p := ⟨w.heap.size + 1, 1, none⟩) (by simp)).trans (two_new w #[.int .i64 k, .int .i64 n, .string (bs s), .slice A l.length C, .slice B m.length D] #[.int .i64 k', .int .i64 n', .string (bs s'), .slice A' l'.length C', .slice B' m'.length D'] 45 1); have g2 := (hb1.cell (p := ⟨w.heap.size + 1, 2, none⟩) (by simp)).trans (two_new w #[.int .i64 k, .int .i64 n, .string (bs s), .slice A l.length C, .slice B m.length D] #[.int .i64 k', .int .i64 n', .string (bs s'), .slice A' l'.length C', .slice B' m'.length D'] 45 2); have g3 := (hb1.cell (p := ⟨w.heap.size + 1, 3, none⟩) (by simp)).trans (two_new w #[.int .i64 k, .int .i64 n, .string (bs s), .slice A l.length C, .slice B m.length D] #[.int .i64 k', .int .i64 n', .string (bs s'), .slice A' l'.length C', .slice B' m'.length D'] 45 3); have g4 := (hb1.cell (p := ⟨w.heap.size + 1, 4, none⟩) (by simp)).trans (two_new w #[.int .i64 k, .int .i64 n, .string (bs s), .slice A l.length C, .slice B m.length D] #[.int .i64 k', .int .i64 n', .string (bs s'), .slice A' l'.length C', .slice B' m'.length D'] 45 4); have hb2 : Below w.heap.size w w1 := hb0.trans (hb1.mono (by simp; omega)); clear hb1 hb0) | (go_at_call 35; refine (hM.out _ hb2).mono ?_; rintro e w2 ⟨rfl, hb3⟩))
    go_ret
    refine ⟨?_, hb2.trans (hb3.mono hb2.size)⟩
    rw [HS.out]; rfl
open Classical in
noncomputable def V.validB (v : V) : Bool := decide v.valid
set_option maxRecDepth 100000 in
set_option maxHeartbeats 800000 in
theorem valid_any (v : V) (q : VP) (w : World) (hv : VAt w v q) (hw : v.wf) :
    Calls Try.prog 42 #[.agg #[.int .i64 v.k, .int .i64 v.n, .string (bs v.s), .slice q.A v.l.length q.C, .slice q.B v.m.length q.D]] w (BoolPost w v.validB) := by
  have hss := bs_size v.s
  have hN : ∀ P : Prop, (v.valid → P) → ¬ P → Hid (v.validB = false) := by
    intro P h hn
    unfold Hid V.validB
    simp only [decide_eq_false_iff_not]
    exact fun h' => hn (h h')
  have cl := Lib.hid (fun W hb => light_any v.l q.A q.C W (hv.l.below hb))
  have hb0 : Below w.heap.size w (w.alloc (.cells #[.int .i64 v.k, .int .i64 v.n, .string (bs v.s), .slice q.A v.l.length q.C, .slice q.B v.m.length q.D] 45)) := (Below.refl _ _).alloc (Nat.le_refl _) _
  by_cases h100 : 100 < v.m.length
  · have HF := hN (v.m.length ≤ 100) (fun h => h.1.1) (by omega)
    have hq : decide (100 < (v.m.length : Int)) = true := decide_eq_true (by omega)
    clear hN cl
    obtain ⟨k, n, s, l, m⟩ := v
    obtain ⟨A, C, B, D⟩ := q
    go_enter Try.func42, Try.ntmps42
    go_wp2
    go_ret
    exact ⟨by rw [HF.out]; rfl, hb0⟩
  · have hq : decide (100 < (v.m.length : Int)) = false := decide_eq_false (by omega)
    by_cases hs1 : 1000 < v.s.length
    · have hq2 : decide (1000 < (v.s.length : Int)) = true := decide_eq_true (by omega)
      have HF := hN (v.s.length ≤ 1000) (fun h => h.1.2.1) (by omega)
      clear hN cl
      obtain ⟨k, n, s, l, m⟩ := v
      obtain ⟨A, C, B, D⟩ := q
      go_enter Try.func42, Try.ntmps42
      go_wp2
      go_ret
      exact ⟨by rw [HF.out]; rfl, hb0⟩
    · have hq2 : decide (1000 < (v.s.length : Int)) = false := decide_eq_false (by omega)
      by_cases hli : lightB v.l = false
      · have HF := hN (lightB v.l = true) (fun h => h.1.2.2) (by rw [hli]; simp)
        have cl' := cl.out _ hb0
        rw [hli] at cl'
        clear hN cl hli
        obtain ⟨k, n, s, l, m⟩ := v
        obtain ⟨A, C, B, D⟩ := q
        go_enter Try.func42, Try.ntmps42
        go_wp2_with (go_at_call 11; refine cl'.mono ?_; rintro e w2 ⟨rfl, rfl⟩)
        go_ret
        exact ⟨by rw [HF.out]; rfl, hb0⟩
      · have hlt : lightB v.l = true := by simpa using hli
        have cl' := cl.out _ hb0
        rw [hlt] at cl'
        have hsm : Hid v.small := ⟨by omega, by omega, hlt⟩
        clear cl hli hlt
        have hM := hv.m
        have n0 := hw.n0
        have n1 := hw.n1
        have hmw := hw.m
        have ck := kind_any v.k (.int .i64 v.n) (.string (bs v.s)) (.slice q.A v.l.length q.C) (.slice q.B v.m.length q.D)
        have HV : Hid (v.valid ↔ (v.small ∧ (∀ x, x ∈ v.m → intI x ≠ []) ∧ ¬ (v.k % 5 = 0 ∧ v.n < 0) ∧ ¬ (v.k % 5 = 1 ∧ intI v.n = []))) := Iff.rfl
        have hd : v.k % 5 = 0 ∨ v.k % 5 = 1 ∨ (¬ v.k % 5 = 0 ∧ ¬ v.k % 5 = 1) := by omega
        have HNN := Lib.hid hN
        clear hN hv hw
        obtain ⟨kk, hk⟩ : ∃ kk, kk = v.k % 5 := ⟨_, rfl⟩
        rw [← hk] at ck HV hd
        have HSAME : ∀ X : Prop, Hid ((X → v.valid) ∧ X → v.validB = true) := by
          intro X h
          unfold V.validB
          simpa using h.1 h.2
        obtain ⟨k, n, s, l, m⟩ := v
        obtain ⟨A, C, B, D⟩ := q
        simp only at *
        clear hk
        go_enter Try.func42, Try.ntmps42
        go_wp2_with (go_at_call 11; refine cl'.mono ?_; rintro e w2 ⟨rfl, rfl⟩)
        clear cl'
        go_loopw [3] (fun v0 wr => ∃ i : Nat, v0 = .int .i64 i ∧ i ≤ m.length ∧ Hid (∀ j : Nat, ∀ x, j < i → m[j]? = some x → intI x ≠ []) ∧ Below (w.alloc (.cells #[.int .i64 k, .int .i64 n, .string (bs s), .slice A l.length C, .slice B m.length D] 45)).heap.size (w.alloc (.cells #[.int .i64 k, .int .i64 n, .string (bs s), .slice A l.length C, .slice B m.length D] 45)) wr) (fun v0 _ => m.length - (intOf v0).toNat)
        case atStart => exact ⟨0, rfl, by omega, by intro j x hj; omega, Below.refl _ _⟩
        case round =>
          obtain ⟨i, rfl, hi, HJ, hbel⟩ := hrel
          have f0 := (hbel.cell (p := ⟨w.heap.size, 0, none⟩) (by simp)).trans (new_cell w #[.int .i64 k, .int .i64 n, .string (bs s), .slice A l.length C, .slice B m.length D] 45 0); have f1 := (hbel.cell (p := ⟨w.heap.size, 1, none⟩) (by simp)).trans (new_cell w #[.int .i64 k, .int .i64 n, .string (bs s), .slice A l.length C, .slice B m.length D] 45 1); have f2 := (hbel.cell (p := ⟨w.heap.size, 2, none⟩) (by simp)).trans (new_cell w #[.int .i64 k, .int .i64 n, .string (bs s), .slice A l.length C, .slice B m.length D] 45 2); have f3 := (hbel.cell (p := ⟨w.heap.size, 3, none⟩) (by simp)).trans (new_cell w #[.int .i64 k, .int .i64 n, .string (bs s), .slice A l.length C, .slice B m.length D] 45 3); have f4 := (hbel.cell (p := ⟨w.heap.size, 4, none⟩) (by simp)).trans (new_cell w #[.int .i64 k, .int .i64 n, .string (bs s), .slice A l.length C, .slice B m.length D] 45 4)
          have hbw : Below w.heap.size w wr := hb0.trans (hbel.mono (by simp))
          by_cases hlt : i < m.length
          · obtain ⟨x, hx⟩ : ∃ x, m[i]? = some x := ⟨_, List.getElem?_eq_getElem hlt⟩
            obtain ⟨bx, ox, rfl, hcx⟩ := (hM.below hbw).at (ints_get hx)
            have HX := Lib.hid hx
            clear hx
            have hxs := hmw x (List.mem_of_getElem? HX.out)
            have ci := int_any x wr hxs.1 hxs.2
            have ht := bs_toList (intI x)
            by_cases hx0 : intI x = []
            · have HF := HNN.out (intI x ≠ []) (fun h => h.2.1 x (List.mem_of_getElem? HX.out)) (by simpa using hx0)
              have he : (intI x).isEmpty = true := by simpa using hx0
              have hee : intI x = [] := hx0
              clear hx0
              rw [hee] at ht
              rw [hee] at ci
              go_wp2_with (go_at_call 14; refine ci.mono ?_; rintro e w3 ⟨rfl, hb3⟩)
              go_ret
              exact ⟨by rw [HF.out]; rfl, hbw.trans (hb3.mono hbw.size)⟩
            · have he : (intI x).isEmpty = false := by simpa using hx0
              have HX0 := Lib.hid hx0
              clear hx0
              go_wp2_with (go_at_call 14; refine ci.mono ?_; rintro e w3 ⟨rfl, hb3⟩)
              go_roundw
              case rel =>
                refine ⟨i + 1, by go_num, by omega, ?_, hbel.trans (hb3.mono hbel.size)⟩
                intro j y hj hjy
                rcases Nat.lt_or_eq_of_le (Nat.le_of_lt_succ hj) with h | h
                · exact HJ.out j y h hjy
                · subst h
                  rw [HX.out] at hjy
                  simp at hjy
                  subst hjy
                  exact HX0.out
              case measure => simp [intOf]; omega
          · have HALL : Hid (∀ x, x ∈ m → intI x ≠ []) := by
              intro x hx
              obtain ⟨j, hj, he⟩ := List.mem_iff_getElem.1 hx
              exact HJ.out j x (by omega) (by rw [List.getElem?_eq_getElem hj, he])
            have hbw' : Below w.heap.size w wr := hbw
            rcases hd with rfl | rfl | ⟨hk0, hk1⟩
            · by_cases hn : n < 0
              · have HF : Hid ((V.mk k n s l m).validB = false) := HNN.out (¬ (n < 0)) (fun h => by have := (HV.out.1 h).2.2.1; simpa using this) (by simpa using hn)
                go_wp2_with (go_at_call 45; refine (ck _).mono ?_; rintro e w4 ⟨rfl, hb4⟩; have g0 := ((hbel.trans (hb4.mono hbel.size)).cell (p := ⟨w.heap.size, 0, none⟩) (by simp)).trans (new_cell w #[.int .i64 k, .int .i64 n, .string (bs s), .slice A l.length C, .slice B m.length D] 45 0); have g1 := ((hbel.trans (hb4.mono hbel.size)).cell (p := ⟨w.heap.size, 1, none⟩) (by simp)).trans (new_cell w #[.int .i64 k, .int .i64 n, .string (bs s), .slice A l.length C, .slice B m.length D] 45 1); have g2 := ((hbel.trans (hb4.mono hbel.size)).cell (p := ⟨w.heap.size, 2, none⟩) (by simp)).trans (new_cell w #[.int .i64 k, .int .i64 n, .string (bs s), .slice A l.length C, .slice B m.length D] 45 2); have g3 := ((hbel.trans (hb4.mono hbel.size)).cell (p := ⟨w.heap.size, 3, none⟩) (by simp)).trans (new_cell w #[.int .i64 k, .int .i64 n, .string (bs s), .slice A l.length C, .slice B m.length D] 45 3); have g4 := ((hbel.trans (hb4.mono hbel.size)).cell (p := ⟨w.heap.size, 4, none⟩) (by simp)).trans (new_cell w #[.int .i64 k, .int .i64 n, .string (bs s), .slice A l.length C, .slice B m.length D] 45 4))
                go_ret
                exact ⟨by rw [HF.out]; rfl, hbw.trans (hb4.mono hbw.size)⟩
              · have HT : Hid ((V.mk k n s l m).validB = true) := (HSAME True).out ⟨fun _ => HV.out.2 ⟨hsm.out, HALL.out, by simpa using hn, by simp⟩, trivial⟩
                have hn' : decide (n < 0) = false := by simpa using hn
                go_wp2_with fail
                refine (ck _).mono ?_
                rintro e w4 ⟨rfl, hb4⟩
                have g0 := ((hbel.trans (hb4.mono hbel.size)).cell (p := ⟨w.heap.size, 0, none⟩) (by simp)).trans (new_cell w #[.int .i64 k, .int .i64 n, .string (bs s), .slice A l.length C, .slice B m.length D] 45 0); have g1 := ((hbel.trans (hb4.mono hbel.size)).cell (p := ⟨w.heap.size, 1, none⟩) (by simp)).trans (new_cell w #[.int .i64 k, .int .i64 n, .string (bs s), .slice A l.length C, .slice B m.length D] 45 1); have g2 := ((hbel.trans (hb4.mono hbel.size)).cell (p := ⟨w.heap.size, 2, none⟩) (by simp)).trans (new_cell w #[.int .i64 k, .int .i64 n, .string (bs s), .slice A l.length C, .slice B m.length D] 45 2); have g3 := ((hbel.trans (hb4.mono hbel.size)).cell (p := ⟨w.heap.size, 3, none⟩) (by simp)).trans (new_cell w #[.int .i64 k, .int .i64 n, .string (bs s), .slice A l.length C, .slice B m.length D] 45 3); have g4 := ((hbel.trans (hb4.mono hbel.size)).cell (p := ⟨w.heap.size, 4, none⟩) (by simp)).trans (new_cell w #[.int .i64 k, .int .i64 n, .string (bs s), .slice A l.length C, .slice B m.length D] 45 4)
                have hw4 := hbw.trans (hb4.mono hbw.size)
                go_wp2_with fail
                refine (ck _).mono ?_
                rintro e w5 ⟨rfl, hb5⟩
                go_wp2
                go_ret
                exact ⟨by rw [HT.out]; rfl, hw4.trans (hb5.mono hw4.size)⟩
            · have ht := bs_toList (intI n)
              go_wp2_with fail
              refine (ck _).mono ?_
              rintro e w4 ⟨rfl, hb4⟩
              have hbel4 := hbel.trans (hb4.mono hbel.size)
              have g0 := (hbel4.cell (p := ⟨w.heap.size, 0, none⟩) (by simp)).trans (new_cell w #[.int .i64 k, .int .i64 n, .string (bs s), .slice A l.length C, .slice B m.length D] 45 0); have g1 := (hbel4.cell (p := ⟨w.heap.size, 1, none⟩) (by simp)).trans (new_cell w #[.int .i64 k, .int .i64 n, .string (bs s), .slice A l.length C, .slice B m.length D] 45 1); have g2 := (hbel4.cell (p := ⟨w.heap.size, 2, none⟩) (by simp)).trans (new_cell w #[.int .i64 k, .int .i64 n, .string (bs s), .slice A l.length C, .slice B m.length D] 45 2); have g3 := (hbel4.cell (p := ⟨w.heap.size, 3, none⟩) (by simp)).trans (new_cell w #[.int .i64 k, .int .i64 n, .string (bs s), .slice A l.length C, .slice B m.length D] 45 3); have g4 := (hbel4.cell (p := ⟨w.heap.size, 4, none⟩) (by simp)).trans (new_cell w #[.int .i64 k, .int .i64 n, .string (bs s), .slice A l.length C, .slice B m.length D] 45 4)
              have hw4 := hbw.trans (hb4.mono hbw.size)
              go_wp2_with fail
              refine (ck _).mono ?_
              rintro e w5 ⟨rfl, hb5⟩
              have hbel5 := hbel4.trans (hb5.mono hbel4.size)
              have e0 := (hbel5.cell (p := ⟨w.heap.size, 0, none⟩) (by simp)).trans (new_cell w #[.int .i64 k, .int .i64 n, .string (bs s), .slice A l.length C, .slice B m.length D] 45 0); have e1 := (hbel5.cell (p := ⟨w.heap.size, 1, none⟩) (by simp)).trans (new_cell w #[.int .i64 k, .int .i64 n, .string (bs s), .slice A l.length C, .slice B m.length D] 45 1); have e2 := (hbel5.cell (p := ⟨w.heap.size, 2, none⟩) (by simp)).trans (new_cell w #[.int .i64 k, .int .i64 n, .string (bs s), .slice A l.length C, .slice B m.length D] 45 2); have e3 := (hbel5.cell (p := ⟨w.heap.size, 3, none⟩) (by simp)).trans (new_cell w #[.int .i64 k, .int .i64 n, .string (bs s), .slice A l.length C, .slice B m.length D] 45 3); have e4 := (hbel5.cell (p := ⟨w.heap.size, 4, none⟩) (by simp)).trans (new_cell w #[.int .i64 k, .int .i64 n, .string (bs s), .slice A l.length C, .slice B m.length D] 45 4)
              have hw5 := hw4.trans (hb5.mono hw4.size)
              go_wp2_with fail
              refine (int_any n _ n0 n1).mono ?_
              rintro e w6 ⟨rfl, hb6⟩
              have hw6 := hw5.trans (hb6.mono hw5.size)
              by_cases hx0 : intI n = []
              · have HF : Hid ((V.mk k n s l m).validB = false) := HNN.out (intI n ≠ []) (fun h => by have := (HV.out.1 h).2.2.2; simpa using this) (by simpa using hx0)
                have he : (intI n).isEmpty = true := by simpa using hx0
                clear hx0
                go_wp2
                go_ret
                exact ⟨by rw [HF.out]; rfl, hw6⟩
              · have HT : Hid ((V.mk k n s l m).validB = true) := (HSAME True).out ⟨fun _ => HV.out.2 ⟨hsm.out, HALL.out, by simp, by simpa using hx0⟩, trivial⟩
                have he : (intI n).isEmpty = false := by simpa using hx0
                clear hx0
                go_wp2
                go_ret
                exact ⟨by rw [HT.out]; rfl, hw6⟩
            · have HT : Hid ((V.mk k n s l m).validB = true) := (HSAME True).out ⟨fun _ => HV.out.2 ⟨hsm.out, HALL.out, by simp [hk0], by simp [hk1]⟩, trivial⟩
              have hk0' : (kk == 0) = false := by simpa using hk0
              have hk1' : (kk == 1) = false := by simpa using hk1
              clear hk0 hk1
              go_wp2_with fail
              refine (ck _).mono ?_
              rintro e w4 ⟨rfl, hb4⟩
              have hbel4 := hbel.trans (hb4.mono hbel.size)
              have g0 := (hbel4.cell (p := ⟨w.heap.size, 0, none⟩) (by simp)).trans (new_cell w #[.int .i64 k, .int .i64 n, .string (bs s), .slice A l.length C, .slice B m.length D] 45 0); have g1 := (hbel4.cell (p := ⟨w.heap.size, 1, none⟩) (by simp)).trans (new_cell w #[.int .i64 k, .int .i64 n, .string (bs s), .slice A l.length C, .slice B m.length D] 45 1); have g2 := (hbel4.cell (p := ⟨w.heap.size, 2, none⟩) (by simp)).trans (new_cell w #[.int .i64 k, .int .i64 n, .string (bs s), .slice A l.length C, .slice B m.length D] 45 2); have g3 := (hbel4.cell (p := ⟨w.heap.size, 3, none⟩) (by simp)).trans (new_cell w #[.int .i64 k, .int .i64 n, .string (bs s), .slice A l.length C, .slice B m.length D] 45 3); have g4 := (hbel4.cell (p := ⟨w.heap.size, 4, none⟩) (by simp)).trans (new_cell w #[.int .i64 k, .int .i64 n, .string (bs s), .slice A l.length C, .slice B m.length D] 45 4)
              have hw4 := hbw.trans (hb4.mono hbw.size)
              go_wp2_with fail
              refine (ck _).mono ?_
              rintro e w5 ⟨rfl, hb5⟩
              have hw5 := hw4.trans (hb5.mono hw4.size)
              go_wp2
              go_ret
              exact ⟨by rw [HT.out]; rfl, hw5⟩
end Go.Proofs.Ytckgnmloemnkcaa
