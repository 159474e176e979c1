/- small, walked: it answers true. -/
import Derived.Test.YtckgnmloemnkcaaSame
namespace Go.Proofs.Ytckgnmloemnkcaa
open Go.ChangeShapes Go.WideShapes Go.ChangeAt Go.RowKit Go.Lib
set_option linter.unusedVariables false

theorem Chg.rd {w w' : World} {p q t : Nat} {r : Rd} (h : Chg [p] w w') (hq : RdAt w q t r) (hne : q ≠ p) : RdAt w' q t r := h.heap_some (by simpa using hne) hq
theorem RowAt.chg {S : List Nat} {w w' : World} {A : Option Addr} {xs : List Value} (h : RowAt w A xs) (hb : Chg S w w') (hn : ∀ a, A = some a → a.block ∉ S) : RowAt w' A xs := by
  intro hp
  obtain ⟨b, o, hA, hc⟩ := h hp
  have := hn _ hA
  exact ⟨b, o, hA, fun i x hx => hb.cell_some this (hc i x hx)⟩
theorem row_new (w : World) (vs : List Value) (t : TypeId) : RowAt (w.alloc (.cells vs.toArray t)) (some ⟨w.heap.size, 0, none⟩) vs := by
  intro _
  refine ⟨_, _, rfl, fun i x hx => ?_⟩
  rw [Nat.zero_add, cell_of_row _ _ _ _ _ (0, 0) (heap_alloc_new w _)]
  simpa using hx
set_option maxRecDepth 100000 in
set_option maxHeartbeats 800000 in
theorem small_any (w : World) : Calls Try.prog 10 #[] w (BoolPost w true) := by
  have k1 := fun W => num_any 300 W (by decide)
  have k2 := fun W => text_any [97, 98] W (by decide)
  have e1 : numI 300 = [172, 2] := rfl
  have e2 : textL [97, 98] = [2, 97, 98] := rfl
  have e3 : listL [[], [99]] = [2, 0, 1, 99] := rfl
  have e4 : numsL [7, -2] = [2, 14, 3] := rfl
  unfold NumPost at k1
  unfold StrPost at k2
  rw [e1] at k1
  rw [e2] at k2
  clear e1 e2
  have a1 : bs [172, 2] ++ bs [2, 97, 98] = bs [172, 2, 2, 97, 98] := rfl
  have a2 : bs [172, 2, 2, 97, 98] ++ bs [2, 0, 1, 99] = bs [172, 2, 2, 97, 98, 2, 0, 1, 99] := rfl
  have a3 : bs [172, 2, 2, 97, 98, 2, 0, 1, 99] ++ bs [2, 14, 3] = bs [172, 2, 2, 97, 98, 2, 0, 1, 99, 2, 14, 3] := rfl
  have z1 : (bs [172, 2]).size = 2 := rfl
  have z2 : (bs [2, 97, 98]).size = 3 := rfl
  have z3 : (bs [172, 2, 2, 97, 98]).size = 5 := rfl
  have z4 : (bs [2, 0, 1, 99]).size = 4 := rfl
  have z5 : (bs [172, 2, 2, 97, 98, 2, 0, 1, 99]).size = 9 := rfl
  have z6 : (bs [2, 14, 3]).size = 3 := rfl
  go_enter Try.func10, Try.ntmps10
  go_wp2_with fail
  refine (k1 _).mono ?_
  rintro e w1 ⟨rfl, hb1⟩
  go_wp2_with fail
  refine (k2 _).mono ?_
  rintro e w2 ⟨rfl, hb2⟩
  go_wp2_with fail
  have c3 := list_any [[], [99]] (some ⟨w2.heap.size, 0, none⟩) 2 _ (row_new w2 (strs [[], [99]]) 9) (by decide) (by decide)
  unfold StrPost at c3
  rw [e3] at c3
  refine (Calls.mono c3 ?_)
  rintro e w3 ⟨rfl, hb3⟩
  have hw3 : Below w.heap.size w w3 := ((hb1.trans (hb2.mono hb1.size)).alloc (Nat.le_trans hb1.size hb2.size) _).trans (hb3.mono (by have := hb1.size; have := hb2.size; simp; omega))
  clear c3 e3 hb1 hb2 hb3
  go_wp2_with fail
  have c4 := nums_any [7, -2] (some ⟨w3.heap.size, 0, none⟩) 2 _ (row_new w3 (ints [7, -2]) 3) (by decide) (by decide)
  unfold StrPost at c4
  rw [e4] at c4
  refine (Calls.mono c4 ?_)
  rintro e w4 ⟨rfl, hb4⟩
  have hw4 : Below w.heap.size w w4 := (hw3.alloc hw3.size _).trans (hb4.mono (by have := hw3.size; simp; omega))
  clear c4 e4 hb4 hw3
  go_wp2_with fail
  refine (open_rd _ _).mono ?_
  rintro e w5 ⟨rfl, hr5, hb5⟩
  have hw5 : Below w.heap.size w w5 := hw4.trans (hb5.mono hw4.size)
  have hp4 : w.heap.size ≤ w4.heap.size := hw4.size
  obtain ⟨p, hp⟩ : ∃ p, p = w4.heap.size := ⟨_, rfl⟩
  rw [← hp] at hr5 hp4 ⊢
  clear hw4 hb5 hp
  go_wp2_with fail
  refine (open_rd [128, 0] _).mono ?_
  rintro e w6 ⟨rfl, hr6, hb6⟩
  have hw6 : Below w.heap.size w w6 := hw5.trans (hb6.mono hw5.size)
  have hp5 : w.heap.size ≤ w5.heap.size := hw5.size
  have hr6p := hr5.below hb6
  have hne := hr5.lt
  obtain ⟨q, hq⟩ : ∃ q, q = w5.heap.size := ⟨_, rfl⟩
  rw [← hq] at hr6 hp5 hne ⊢
  clear hw5 hb6 hq hr5
  have x1 : (Rd.mk [172, 2, 2, 97, 98, 2, 0, 1, 99, 2, 14, 3] false).num = (300, ⟨[2, 97, 98, 2, 0, 1, 99, 2, 14, 3], false⟩) := rfl
  have x2 : (Rd.mk [2, 97, 98, 2, 0, 1, 99, 2, 14, 3] false).text = ([97, 98], ⟨[2, 0, 1, 99, 2, 14, 3], false⟩) := rfl
  have x3 : (Rd.mk [2, 0, 1, 99, 2, 14, 3] false).list = ([[], [99]], ⟨[2, 14, 3], false⟩) := rfl
  have x4 : (Rd.mk [2, 14, 3] false).nums = ([7, -2], ⟨[], false⟩) := rfl
  have x5 : (Rd.mk [128, 0] false).num = (0, Rd.fail) := rfl
  go_wp2_with fail
  have c7 := num_rd p _ w6 hr6p (by decide)
  rw [x1] at c7
  refine (Calls.mono c7 ?_)
  rintro e w7 ⟨rfl, hr7p, hc7⟩
  have hr7 := hc7.rd hr6 (by omega)
  go_wp2_with fail
  have c8 := text_rd p _ w7 hr7p (by decide)
  rw [x2] at c8
  refine (Calls.mono c8 ?_)
  rintro e w8 ⟨rfl, hr8p, hc8⟩
  have hr8 := hc8.rd hr7 (by omega)
  go_wp2_with fail
  have c9 := list_rd p _ w8 hr8p (by decide)
  rw [x3] at c9
  refine (Calls.mono c9 ?_)
  rintro e w9 ⟨A9, C9, rfl, hf9, hl9, hr9p, hc9⟩
  have hr9 := hc9.rd hr8 (by omega)
  go_wp2_with fail
  refine (done_rd p _ w9 hr9p).mono ?_
  rintro e w10 ⟨rfl, rfl⟩
  go_wp2_with fail
  have c11 := nums_rd p _ w10 hr9p (by decide)
  rw [x4] at c11
  refine (Calls.mono c11 ?_)
  rintro e w11 ⟨A11, C11, rfl, hf11, hl11, hr11p, hc11⟩
  have hr11 := hc11.rd hr9 (by omega)
  go_wp2_with fail
  have c12 := num_rd q _ w11 hr11 (by decide)
  rw [x5] at c12
  refine (Calls.mono c12 ?_)
  rintro e w12 ⟨rfl, hr12, hc12⟩
  have hr12p := hc12.rd hr11p (by omega)
  have hch : Chg [p, q] w6 w12 := by
    have h1 : Chg [p] w6 w11 := ((hc7.trans hc8).trans hc9).trans hc11
    exact (h1.mono (by simp)).step hc12 (by simp)
  have hw12 : Below w.heap.size w w12 := by
    exact ((Chg.of_below hw6 []).step hch (by intro b hb; simp at hb; omega)).below
  have hl12 : RowAt w12 A9 (strs [[], [99]]) := (hl9.chg hc11 (fun a ha hm => by have := hf9 a ha; have := hr8p.lt; simp at hm; omega)).chg hc12 (fun a ha hm => by have := hf9 a ha; have := hr8.lt; simp at hm; omega)
  have hl12' : RowAt w12 A11 (ints [7, -2]) := hl11.chg hc12 (fun a ha hm => by have := hf11 a ha; have := hr9.lt; simp at hm; omega)
  have t1 : (bs [172, 2, 2, 97, 98, 2, 0, 1, 99, 2, 14, 3]).toList = [172, 2, 2, 97, 98, 2, 0, 1, 99, 2, 14, 3] := bs_toList _
  have t2 : (bs [97, 98]).toList = [97, 98] := bs_toList _
  have d1 : (Rd.mk [2, 14, 3] false).done = false := rfl
  have d2 : (Rd.mk [] false).done = true := rfl
  have d3 : Rd.fail.done = false := rfl
  have d4 : Rd.fail.rest = [] := rfl
  have l1 : (strs [[], [99]]).length = 2 := rfl
  have l2 : (ints [7, -2]).length = 2 := rfl
  clear x1 x2 x3 x4 x5 c7 c8 c9 c11 c12 hr7p hc7 hr7 hr8p hc8 hr8 hf9 hl9 hr9p hc9 hf11 hl11 hr9 hr11p hc11 hr11 hc12 hch hw6 hr6p hr6 z1 z2 z3 z4 z5 z6 a1 a2 a3 k1 k2
  go_wp2_with fail
  have q1 : decide (([[], [99]] : List (List UInt8)) = [[], [99]]) = true := rfl
  have hal := (Below.refl w12.heap.size w12).alloc (Nat.le_refl _) (Obj.cells (strs [[], [99]]).toArray 9)
  have c13 := sameTexts_any [[], [99]] [[], [99]] A9 (some ⟨w12.heap.size, 0, none⟩) C9 2 _ (hl12.below hal) (row_new w12 (strs [[], [99]]) 9) (by decide) (by decide)
  rw [q1] at c13
  refine (Calls.mono c13 ?_)
  rintro e w13 ⟨rfl, hb13⟩
  have hb := hal.trans (hb13.mono (by simp))
  have hw13 : Below w.heap.size w w13 := hw12.trans (hb.mono hw12.size)
  have hl13 := hl12'.below hb
  have hr13 := hr12.below hb
  have hr13p := hr12p.below hb
  clear q1 c13 hb13 hal hb hl12 hl12' hr12 hr12p hw12
  go_wp2_with fail
  have hal := (Below.refl w13.heap.size w13).alloc (Nat.le_refl _) (Obj.cells (ints [7, -2]).toArray 3)
  have c14 := sameNums_any [7, -2] [7, -2] A11 (some ⟨w13.heap.size, 0, none⟩) C11 2 _ (hl13.below hal) (row_new w13 (ints [7, -2]) 3) (by decide) (by decide)
  have q2 : decide (([7, -2] : List Int) = [7, -2]) = true := rfl
  rw [q2] at c14
  refine (Calls.mono c14 ?_)
  rintro e w14 ⟨rfl, hb14⟩
  have hb := hal.trans (hb14.mono (by simp))
  have hw14 : Below w.heap.size w w14 := hw13.trans (hb.mono hw13.size)
  have hr14 := hr13.below hb
  have hr14p := hr13p.below hb
  clear q2 c14 hb14 hal hb hl13 hr13 hr13p hw13
  go_wp2_with fail
  refine (done_rd p _ w14 hr14p).mono ?_
  rintro e w15 ⟨rfl, rfl⟩
  go_wp2_with fail
  refine (done_rd q _ w15 hr14).mono ?_
  rintro e w16 ⟨rfl, rfl⟩
  go_wp2_with fail
  refine (left_any q _ w16 hr14).mono ?_
  rintro e w17 ⟨rfl, rfl⟩
  have y1 := num_any (-1) w17 (by decide)
  have y2 : numI (-1) = [] := rfl
  have t3 : (bs []).toList = [] := bs_toList _
  unfold NumPost at y1
  rw [y2] at y1
  go_wp2_with fail
  refine (Calls.mono y1 ?_)
  rintro e w18 ⟨rfl, hb18⟩
  have hw18 : Below w.heap.size w w18 := hw14.trans (hb18.mono hw14.size)
  go_wp2
  go_ret
  exact ⟨rfl, hw18⟩
end Go.Proofs.Ytckgnmloemnkcaa
