/- The weights of a text of eight pieces, walked. -/
import Derived.Test.YtjcaaiikccnpeaaDoorParseW
import Derived.Deep.RegionHeld3
namespace Go.Proofs.YtjcaaiikccnpeaaDoor
open Go.ChangeShapes Go.WideShapes Go.ChangeAt Go.RowKit Go.Lib
set_option linter.unusedVariables false

theorem bs_lit (a b : List UInt8) (h : a ≠ b) : ((bs a).toList == (bs b).toList) = false := by
  rw [bs_toList, bs_toList]
  exact beq_eq_false_iff_ne.2 h
theorem bs_lit2 {a b : List UInt8} (h : a ≠ b) : ((bs a).toList == b) = false := by
  rw [bs_toList]
  exact beq_eq_false_iff_ne.2 h
theorem fieldW_no {k t n : List UInt8} (h : parseI t 0 1125899906842624 = none) : fieldW k t n = none := by
  unfold fieldW; split
  · exact h
  · rfl
theorem fieldW_nm {k t n : List UInt8} (h : k ≠ n) : fieldW k t n = none := if_neg h
theorem fieldW_yes {k t n : List UInt8} {x : Int} (h : k = n) (hp : parseI t 0 1125899906842624 = some x) : fieldW k t n = some x := by
  unfold fieldW; rw [if_pos h, hp]
theorem pick_no {x y z t : Option Int} (h : x = none ∨ y = none ∨ z = none ∨ t = none) : pickW x y z t = none := by
  unfold pickW
  split
  · rcases h with h | h | h | h <;> cases h
  · rfl
theorem spL_le : ∀ (s x : List UInt8), x ∈ spL s → x.length ≤ s.length
  | [], x, h => by simp [spL] at h; simp [h]
  | c :: r, x, h => by
    rw [spL] at h
    rw [List.length_cons]
    split at h
    · rcases List.mem_cons.1 h with rfl | h
      · simp
      · have := spL_le r x h; omega
    · split at h
      · rename_i he
        rcases List.mem_cons.1 h with rfl | h
        · simp
        · cases h
      · rename_i y z he
        rcases List.mem_cons.1 h with rfl | h
        · have := spL_le r y (by rw [he]; simp)
          rw [List.length_cons]; omega
        · have := spL_le r x (by rw [he]; simp [h])
          omega
set_option maxRecDepth 100000 in
set_option maxHeartbeats 2000000 in
theorem parseW_eight (s k0 t0 k1 t1 k2 t2 k3 t3 : List UInt8) (m : Int) (w : World) (hs : s.length < 4294967281) (h0 : 0 < w.heap.size) (hm : w.cell? ⟨0, 0, none⟩ = some (.int .i64 m)) (hL : Laid w) (hl : spL s = [k0, t0, k1, t1, k2, t2, k3, t3])
    (u0 : t0.length ≤ 281474976710656) (u1 : t1.length ≤ 281474976710656) (u2 : t2.length ≤ 281474976710656) (u3 : t3.length ≤ 281474976710656) :
    Calls Tryd.prog 9 #[.string (bs s)] w (WPost w (pickW (fieldW k0 t0 likeN) (fieldW k1 t1 boostN) (fieldW k2 t2 replyN) (fieldW k3 t3 ageN))) := by
  obtain ⟨R, hRR⟩ : ∃ R, R = pickW (fieldW k0 t0 likeN) (fieldW k1 t1 boostN) (fieldW k2 t2 replyN) (fieldW k3 t3 ageN) := ⟨_, rfl⟩
  rw [← hRR]
  have HR := Lib.hid hRR
  clear hRR
  have c0 := fun (W : World) (h : W.cell? ⟨0, 0, none⟩ = some (.int .i64 m)) => split_any s m W ⟨by omega, hs⟩ h
  rw [hl] at c0
  simp only [List.map_cons, List.map_nil, List.length_cons, List.length_nil, Nat.zero_add, Nat.reduceAdd] at c0
  have z8 : (w.alloc (.cells #[.int .i64 0, .int .i64 0, .int .i64 0, .int .i64 0] 23)).heap[w.heap.size]? = some (.cells #[.int .i64 0, .int .i64 0, .int .i64 0, .int .i64 0] 23 (0, 0)) := heap_alloc_new _ _
  have z9 : (w.alloc (.cells #[.int .i64 0, .int .i64 0, .int .i64 0, .int .i64 0] 23)).heap.size = w.heap.size + 1 := by simp
  have Z8 := Lib.hid z8
  have Z9 := Lib.hid z9
  clear z8 z9 hl
  have c1 := fun (W : World) (h : Laid W) => parse_any t0 0 1125899906842624 W u0 h
  have c2 := fun (W : World) (h : Laid W) => parse_any t1 0 1125899906842624 W u1 h
  have c3 := fun (W : World) (h : Laid W) => parse_any t2 0 1125899906842624 W u2 h
  have c4 := fun (W : World) (h : Laid W) => parse_any t3 0 1125899906842624 W u3 h
  go_enter Tryd.func9, Tryd.ntmps9
  go_wp2_with fail
  refine (c0 _ (by rw [World.cell?_alloc_lt _ _ _ h0]; exact hm)).mono ?_
  rintro e w1 ⟨rfl, rfl⟩
  clear c0 hm
  go_wp2_with fail
  obtain ⟨W3, hW3⟩ : ∃ W3, W3 = (World.alloc (World.alloc (w.alloc (.cells #[.int .i64 0, .int .i64 0, .int .i64 0, .int .i64 0] 23)) (.cells #[.string (bs k0), .string (bs t0), .string (bs k1), .string (bs t1), .string (bs k2), .string (bs t2), .string (bs k3), .string (bs t3)] 9)) (.cells #[.int .i64 0, .int .i64 0, .int .i64 0, .int .i64 0] 47)) := ⟨_, rfl⟩
  have s1 : ((w.alloc (.cells #[.int .i64 0, .int .i64 0, .int .i64 0, .int .i64 0] 23))).heap.size = w.heap.size + 1 := by simp
  have s2 : (World.alloc (w.alloc (.cells #[.int .i64 0, .int .i64 0, .int .i64 0, .int .i64 0] 23)) (.cells #[.string (bs k0), .string (bs t0), .string (bs k1), .string (bs t1), .string (bs k2), .string (bs t2), .string (bs k3), .string (bs t3)] 9)).heap.size = w.heap.size + 2 := by simp
  have g0 : W3.heap[w.heap.size]? = some (.cells #[.int .i64 0, .int .i64 0, .int .i64 0, .int .i64 0] 23 (0, 0)) := by
    rw [hW3, Below.heap_alloc _ _ _ (by rw [s2]; omega), Below.heap_alloc _ _ _ (by rw [s1]; omega)]; exact Z8.out
  have g1 : W3.heap[w.heap.size + 1]? = some (.cells #[.string (bs k0), .string (bs t0), .string (bs k1), .string (bs t1), .string (bs k2), .string (bs t2), .string (bs k3), .string (bs t3)] 9 (0, 0)) := by
    rw [hW3, Below.heap_alloc _ _ _ (by rw [s2]; omega), ← s1]; exact heap_alloc_new _ _
  have g2 : W3.heap[w.heap.size + 2]? = some (.cells #[.int .i64 0, .int .i64 0, .int .i64 0, .int .i64 0] 47 (0, 0)) := by
    rw [hW3, ← s2]; exact heap_alloc_new _ _
  have gB : Below w.heap.size w W3 := by
    rw [hW3]
    exact (((Below.refl _ _).alloc (Nat.le_refl _) _).alloc (by rw [s1]; omega) _).alloc (by rw [s2]; omega) _
  have gS : W3.heap.size = w.heap.size + 3 := by rw [hW3]; simp
  have GS := Lib.hid gS
  have G0 := Lib.hid g0
  have G1 := Lib.hid g1
  have G2 := Lib.hid g2
  have GB := Lib.hid gB
  clear s1 s2 g0 g1 g2 gB gS Z8 Z9
  rw [← hW3]
  clear hW3
  go_loopw [17] (fun v wr => ∃ k : Nat, ∃ n0 n1 n2 n3 : Int, k ≤ 4 ∧ v = .int .i64 k ∧ Below (w.heap.size + 2) W3 wr ∧ wr.heap[w.heap.size + 2]? = some (.cells #[.int .i64 n0, .int .i64 n1, .int .i64 n2, .int .i64 n3] 47 (0, 0)) ∧ Hid ((1 ≤ k → fieldW k0 t0 likeN = some n0) ∧ (2 ≤ k → fieldW k1 t1 boostN = some n1) ∧ (3 ≤ k → fieldW k2 t2 replyN = some n2) ∧ (4 ≤ k → fieldW k3 t3 ageN = some n3))) (fun v _ => 4 - (intOf v).toNat)
  case atStart => exact ⟨0, 0, 0, 0, 0, by omega, rfl, Below.refl _ _, G2.out, by omega, by omega, by omega, by omega⟩
  case round =>
    obtain ⟨k, n0, n1, n2, n3, hk, rfl, hb, hA, hz⟩ := hrel
    have hbw : Below w.heap.size w wr := GB.out.trans (hb.mono (by omega))
    have hG0 : wr.heap[w.heap.size]? = _ := (hb.block _ (by omega)).trans G0.out
    have hG1 : wr.heap[w.heap.size + 1]? = _ := (hb.block _ (by omega)).trans G1.out
    have hp := fun j => cell_of_row wr _ j _ _ _ hG1
    have HB := Lib.hid hb
    have HBW := Lib.hid hbw
    have HG0 := Lib.hid hG0
    have HA := Lib.hid hA
    clear hb hbw hG0 hG1 hA
    rcases (show k = 0 ∨ k = 1 ∨ k = 2 ∨ k = 3 ∨ k = 4 by omega) with rfl | rfl | rfl | rfl | rfl
    · have ix : ∀ W : World, (Instr.index 48 (.agg #[.string ⟨#[108, 105, 107, 101]⟩, .string ⟨#[98, 111, 111, 115, 116]⟩, .string ⟨#[114, 101, 112, 108, 121]⟩, .string ⟨#[97, 103, 101]⟩]) (.int .i64 0)).run Tryd.prog W = .ok (.string ⟨#[108, 105, 107, 101]⟩) W := fun _ => by kernel_rfl
      have q1 : wr.cell? ⟨w.heap.size + 1, 1, none⟩ = some (.string (bs t0)) := (hp 1).trans rfl
      clear hp
      cases hP : parseI t0 0 1125899906842624 with
      | none =>
        have hRn : Hid (R = none) := by rw [Hid, HR.out]; exact pick_no (.inl (fieldW_no hP))
        rw [hP] at c1
        simp only [Option.getD_none, Option.isSome_none] at c1
        go_wp2_with fail
        refine (c1 _ (hL.below HBW.out)).mono ?_
        rintro e w1 ⟨rfl, hbx⟩
        have hA2 : w1.heap[w.heap.size]? = _ := (hbx.block _ (by have := HB.out.size; rw [GS.out] at this; omega)).trans HG0.out
        have hb1 : Below w.heap.size w w1 := HBW.out.trans (hbx.mono HBW.out.size)
        have B := Lib.hid hb1
        clear hb1 hbx
        have q0 : w1.cell? ⟨w.heap.size, 0, none⟩ = some (.int .i64 0) := by rw [cell_of_row _ _ _ _ _ _ hA2]; rfl
        have q1' : w1.cell? ⟨w.heap.size, 1, none⟩ = some (.int .i64 0) := by rw [cell_of_row _ _ _ _ _ _ hA2]; rfl
        have q2 : w1.cell? ⟨w.heap.size, 2, none⟩ = some (.int .i64 0) := by rw [cell_of_row _ _ _ _ _ _ hA2]; rfl
        have q3 : w1.cell? ⟨w.heap.size, 3, none⟩ = some (.int .i64 0) := by rw [cell_of_row _ _ _ _ _ _ hA2]; rfl
        have f0 := frozen_of_row _ _ 0 _ _ hA2
        have f1 := frozen_of_row _ _ 1 _ _ hA2
        have f2 := frozen_of_row _ _ 2 _ _ hA2
        have f3 := frozen_of_row _ _ 3 _ _ hA2
        have G := Lib.hid hA2
        clear hA2
        go_wp2_with fail
        refine bodyPost_ret (results_cell1 rfl _ _ w.heap.size 23 #[.int .i64 0, .int .i64 0, .int .i64 0, .int .i64 0] (0, 0) _ rfl (blk4 _ _ _ _ G.out) Tryd.underlying23 rfl infoW) rfl ?_
        exact ⟨by rw [hRn.out]; rfl, set4_below _ _ _ _ B.out (Nat.le_refl _)⟩
      | some x =>
        rw [hP] at c1
        simp only [Option.getD_some, Option.isSome_some] at c1
        go_wp2_with fail
        refine (c1 _ (hL.below HBW.out)).mono ?_
        rintro e w1 ⟨rfl, hbx⟩
        have hsz := HB.out.size
        rw [GS.out] at hsz
        have hP1 : w1.heap[w.heap.size + 1]? = _ := (hbx.block _ (by omega)).trans ((HB.out.block _ (by omega)).trans G1.out)
        have hA1 : w1.heap[w.heap.size + 2]? = _ := (hbx.block _ (by omega)).trans HA.out
        by_cases hk : k0 = likeN
        · have qk : w1.cell? ⟨w.heap.size + 1, 0, none⟩ = some (.string ⟨#[108, 105, 107, 101]⟩) := by rw [cell_of_row _ _ 0 _ _ _ hP1, hk]; rfl
          have qa : w1.cell? ⟨w.heap.size + 2, 0, none⟩ = some (.int .i64 n0) := by rw [cell_of_row _ _ 0 _ _ _ hA1]; rfl
          have fa := frozen_of_row _ _ 0 _ _ hA1
          have hA9 := Lib.hid (heap_setCell_same _ _ 0 _ _ (.int .i64 x) hA1)
          have hB9 := Lib.hid ((HB.out.trans (hbx.mono (by omega))).setCell (p := ⟨w.heap.size + 2, 0, none⟩) (Nat.le_refl _) (.int .i64 x))
          have hz9 : Hid ((1 ≤ 1 → fieldW k0 t0 likeN = some x) ∧ (2 ≤ 1 → fieldW k1 t1 boostN = some n1) ∧ (3 ≤ 1 → fieldW k2 t2 replyN = some n2) ∧ (4 ≤ 1 → fieldW k3 t3 ageN = some n3)) := ⟨fun _ => fieldW_yes hk hP, by omega, by omega, by omega⟩
          clear hP1 hA1 hbx hz hk hP
          go_wp2_with fail
          go_roundw
          case rel => exact ⟨1, x, n1, n2, n3, by omega, rfl, hB9.out, hA9.out, hz9⟩
          case measure => simp [intOf]
        · have hRn : Hid (R = none) := by rw [Hid, HR.out]; exact pick_no (.inl (fieldW_nm hk))
          have qk : w1.cell? ⟨w.heap.size + 1, 0, none⟩ = some (.string (bs k0)) := by rw [cell_of_row _ _ 0 _ _ _ hP1]; rfl
          have tk : ((bs k0).toList == [108, 105, 107, 101]) = false := bs_lit2 hk
          have hA2 : w1.heap[w.heap.size]? = _ := (hbx.block _ (by omega)).trans HG0.out
          have hb1 : Below w.heap.size w w1 := HBW.out.trans (hbx.mono HBW.out.size)
          have B := Lib.hid hb1
          clear hb1 hbx hP1 hA1 hz hk hP
          have q0 : w1.cell? ⟨w.heap.size, 0, none⟩ = some (.int .i64 0) := by rw [cell_of_row _ _ _ _ _ _ hA2]; rfl
          have q1' : w1.cell? ⟨w.heap.size, 1, none⟩ = some (.int .i64 0) := by rw [cell_of_row _ _ _ _ _ _ hA2]; rfl
          have q2 : w1.cell? ⟨w.heap.size, 2, none⟩ = some (.int .i64 0) := by rw [cell_of_row _ _ _ _ _ _ hA2]; rfl
          have q3 : w1.cell? ⟨w.heap.size, 3, none⟩ = some (.int .i64 0) := by rw [cell_of_row _ _ _ _ _ _ hA2]; rfl
          have f0 := frozen_of_row _ _ 0 _ _ hA2
          have f1 := frozen_of_row _ _ 1 _ _ hA2
          have f2 := frozen_of_row _ _ 2 _ _ hA2
          have f3 := frozen_of_row _ _ 3 _ _ hA2
          have G := Lib.hid hA2
          clear hA2
          go_wp2_with fail
          refine bodyPost_ret (results_cell1 rfl _ _ w.heap.size 23 #[.int .i64 0, .int .i64 0, .int .i64 0, .int .i64 0] (0, 0) _ rfl (blk4 _ _ _ _ G.out) Tryd.underlying23 rfl infoW) rfl ?_
          exact ⟨by rw [hRn.out]; rfl, set4_below _ _ _ _ B.out (Nat.le_refl _)⟩
    · have ix : ∀ W : World, (Instr.index 48 (.agg #[.string ⟨#[108, 105, 107, 101]⟩, .string ⟨#[98, 111, 111, 115, 116]⟩, .string ⟨#[114, 101, 112, 108, 121]⟩, .string ⟨#[97, 103, 101]⟩]) (.int .i64 1)).run Tryd.prog W = .ok (.string ⟨#[98, 111, 111, 115, 116]⟩) W := fun _ => by kernel_rfl
      have q1 : wr.cell? ⟨w.heap.size + 1, 3, none⟩ = some (.string (bs t1)) := (hp 3).trans rfl
      clear hp
      cases hP : parseI t1 0 1125899906842624 with
      | none =>
        have hRn : Hid (R = none) := by rw [Hid, HR.out]; exact pick_no (.inr (.inl (fieldW_no hP)))
        rw [hP] at c2
        simp only [Option.getD_none, Option.isSome_none] at c2
        go_wp2_with fail
        refine (c2 _ (hL.below HBW.out)).mono ?_
        rintro e w1 ⟨rfl, hbx⟩
        have hA2 : w1.heap[w.heap.size]? = _ := (hbx.block _ (by have := HB.out.size; rw [GS.out] at this; omega)).trans HG0.out
        have hb1 : Below w.heap.size w w1 := HBW.out.trans (hbx.mono HBW.out.size)
        have B := Lib.hid hb1
        clear hb1 hbx
        have q0 : w1.cell? ⟨w.heap.size, 0, none⟩ = some (.int .i64 0) := by rw [cell_of_row _ _ _ _ _ _ hA2]; rfl
        have q1' : w1.cell? ⟨w.heap.size, 1, none⟩ = some (.int .i64 0) := by rw [cell_of_row _ _ _ _ _ _ hA2]; rfl
        have q2 : w1.cell? ⟨w.heap.size, 2, none⟩ = some (.int .i64 0) := by rw [cell_of_row _ _ _ _ _ _ hA2]; rfl
        have q3 : w1.cell? ⟨w.heap.size, 3, none⟩ = some (.int .i64 0) := by rw [cell_of_row _ _ _ _ _ _ hA2]; rfl
        have f0 := frozen_of_row _ _ 0 _ _ hA2
        have f1 := frozen_of_row _ _ 1 _ _ hA2
        have f2 := frozen_of_row _ _ 2 _ _ hA2
        have f3 := frozen_of_row _ _ 3 _ _ hA2
        have G := Lib.hid hA2
        clear hA2
        go_wp2_with fail
        refine bodyPost_ret (results_cell1 rfl _ _ w.heap.size 23 #[.int .i64 0, .int .i64 0, .int .i64 0, .int .i64 0] (0, 0) _ rfl (blk4 _ _ _ _ G.out) Tryd.underlying23 rfl infoW) rfl ?_
        exact ⟨by rw [hRn.out]; rfl, set4_below _ _ _ _ B.out (Nat.le_refl _)⟩
      | some x =>
        rw [hP] at c2
        simp only [Option.getD_some, Option.isSome_some] at c2
        go_wp2_with fail
        refine (c2 _ (hL.below HBW.out)).mono ?_
        rintro e w1 ⟨rfl, hbx⟩
        have hsz := HB.out.size
        rw [GS.out] at hsz
        have hP1 : w1.heap[w.heap.size + 1]? = _ := (hbx.block _ (by omega)).trans ((HB.out.block _ (by omega)).trans G1.out)
        have hA1 : w1.heap[w.heap.size + 2]? = _ := (hbx.block _ (by omega)).trans HA.out
        by_cases hk : k1 = boostN
        · have qk : w1.cell? ⟨w.heap.size + 1, 2, none⟩ = some (.string ⟨#[98, 111, 111, 115, 116]⟩) := by rw [cell_of_row _ _ 2 _ _ _ hP1, hk]; rfl
          have qa : w1.cell? ⟨w.heap.size + 2, 1, none⟩ = some (.int .i64 n1) := by rw [cell_of_row _ _ 1 _ _ _ hA1]; rfl
          have fa := frozen_of_row _ _ 1 _ _ hA1
          have hA9 := Lib.hid (heap_setCell_same _ _ 1 _ _ (.int .i64 x) hA1)
          have hB9 := Lib.hid ((HB.out.trans (hbx.mono (by omega))).setCell (p := ⟨w.heap.size + 2, 1, none⟩) (Nat.le_refl _) (.int .i64 x))
          have hz9 : Hid ((1 ≤ 2 → fieldW k0 t0 likeN = some n0) ∧ (2 ≤ 2 → fieldW k1 t1 boostN = some x) ∧ (3 ≤ 2 → fieldW k2 t2 replyN = some n2) ∧ (4 ≤ 2 → fieldW k3 t3 ageN = some n3)) := ⟨fun _ => hz.out.1 (by omega), fun _ => fieldW_yes hk hP, by omega, by omega⟩
          clear hP1 hA1 hbx hz hk hP
          go_wp2_with fail
          go_roundw
          case rel => exact ⟨2, n0, x, n2, n3, by omega, rfl, hB9.out, hA9.out, hz9⟩
          case measure => simp [intOf]
        · have hRn : Hid (R = none) := by rw [Hid, HR.out]; exact pick_no (.inr (.inl (fieldW_nm hk)))
          have qk : w1.cell? ⟨w.heap.size + 1, 2, none⟩ = some (.string (bs k1)) := by rw [cell_of_row _ _ 2 _ _ _ hP1]; rfl
          have tk : ((bs k1).toList == [98, 111, 111, 115, 116]) = false := bs_lit2 hk
          have hA2 : w1.heap[w.heap.size]? = _ := (hbx.block _ (by omega)).trans HG0.out
          have hb1 : Below w.heap.size w w1 := HBW.out.trans (hbx.mono HBW.out.size)
          have B := Lib.hid hb1
          clear hb1 hbx hP1 hA1 hz hk hP
          have q0 : w1.cell? ⟨w.heap.size, 0, none⟩ = some (.int .i64 0) := by rw [cell_of_row _ _ _ _ _ _ hA2]; rfl
          have q1' : w1.cell? ⟨w.heap.size, 1, none⟩ = some (.int .i64 0) := by rw [cell_of_row _ _ _ _ _ _ hA2]; rfl
          have q2 : w1.cell? ⟨w.heap.size, 2, none⟩ = some (.int .i64 0) := by rw [cell_of_row _ _ _ _ _ _ hA2]; rfl
          have q3 : w1.cell? ⟨w.heap.size, 3, none⟩ = some (.int .i64 0) := by rw [cell_of_row _ _ _ _ _ _ hA2]; rfl
          have f0 := frozen_of_row _ _ 0 _ _ hA2
          have f1 := frozen_of_row _ _ 1 _ _ hA2
          have f2 := frozen_of_row _ _ 2 _ _ hA2
          have f3 := frozen_of_row _ _ 3 _ _ hA2
          have G := Lib.hid hA2
          clear hA2
          go_wp2_with fail
          refine bodyPost_ret (results_cell1 rfl _ _ w.heap.size 23 #[.int .i64 0, .int .i64 0, .int .i64 0, .int .i64 0] (0, 0) _ rfl (blk4 _ _ _ _ G.out) Tryd.underlying23 rfl infoW) rfl ?_
          exact ⟨by rw [hRn.out]; rfl, set4_below _ _ _ _ B.out (Nat.le_refl _)⟩
    · have ix : ∀ W : World, (Instr.index 48 (.agg #[.string ⟨#[108, 105, 107, 101]⟩, .string ⟨#[98, 111, 111, 115, 116]⟩, .string ⟨#[114, 101, 112, 108, 121]⟩, .string ⟨#[97, 103, 101]⟩]) (.int .i64 2)).run Tryd.prog W = .ok (.string ⟨#[114, 101, 112, 108, 121]⟩) W := fun _ => by kernel_rfl
      have q1 : wr.cell? ⟨w.heap.size + 1, 5, none⟩ = some (.string (bs t2)) := (hp 5).trans rfl
      clear hp
      cases hP : parseI t2 0 1125899906842624 with
      | none =>
        have hRn : Hid (R = none) := by rw [Hid, HR.out]; exact pick_no (.inr (.inr (.inl (fieldW_no hP))))
        rw [hP] at c3
        simp only [Option.getD_none, Option.isSome_none] at c3
        go_wp2_with fail
        refine (c3 _ (hL.below HBW.out)).mono ?_
        rintro e w1 ⟨rfl, hbx⟩
        have hA2 : w1.heap[w.heap.size]? = _ := (hbx.block _ (by have := HB.out.size; rw [GS.out] at this; omega)).trans HG0.out
        have hb1 : Below w.heap.size w w1 := HBW.out.trans (hbx.mono HBW.out.size)
        have B := Lib.hid hb1
        clear hb1 hbx
        have q0 : w1.cell? ⟨w.heap.size, 0, none⟩ = some (.int .i64 0) := by rw [cell_of_row _ _ _ _ _ _ hA2]; rfl
        have q1' : w1.cell? ⟨w.heap.size, 1, none⟩ = some (.int .i64 0) := by rw [cell_of_row _ _ _ _ _ _ hA2]; rfl
        have q2 : w1.cell? ⟨w.heap.size, 2, none⟩ = some (.int .i64 0) := by rw [cell_of_row _ _ _ _ _ _ hA2]; rfl
        have q3 : w1.cell? ⟨w.heap.size, 3, none⟩ = some (.int .i64 0) := by rw [cell_of_row _ _ _ _ _ _ hA2]; rfl
        have f0 := frozen_of_row _ _ 0 _ _ hA2
        have f1 := frozen_of_row _ _ 1 _ _ hA2
        have f2 := frozen_of_row _ _ 2 _ _ hA2
        have f3 := frozen_of_row _ _ 3 _ _ hA2
        have G := Lib.hid hA2
        clear hA2
        go_wp2_with fail
        refine bodyPost_ret (results_cell1 rfl _ _ w.heap.size 23 #[.int .i64 0, .int .i64 0, .int .i64 0, .int .i64 0] (0, 0) _ rfl (blk4 _ _ _ _ G.out) Tryd.underlying23 rfl infoW) rfl ?_
        exact ⟨by rw [hRn.out]; rfl, set4_below _ _ _ _ B.out (Nat.le_refl _)⟩
      | some x =>
        rw [hP] at c3
        simp only [Option.getD_some, Option.isSome_some] at c3
        go_wp2_with fail
        refine (c3 _ (hL.below HBW.out)).mono ?_
        rintro e w1 ⟨rfl, hbx⟩
        have hsz := HB.out.size
        rw [GS.out] at hsz
        have hP1 : w1.heap[w.heap.size + 1]? = _ := (hbx.block _ (by omega)).trans ((HB.out.block _ (by omega)).trans G1.out)
        have hA1 : w1.heap[w.heap.size + 2]? = _ := (hbx.block _ (by omega)).trans HA.out
        by_cases hk : k2 = replyN
        · have qk : w1.cell? ⟨w.heap.size + 1, 4, none⟩ = some (.string ⟨#[114, 101, 112, 108, 121]⟩) := by rw [cell_of_row _ _ 4 _ _ _ hP1, hk]; rfl
          have qa : w1.cell? ⟨w.heap.size + 2, 2, none⟩ = some (.int .i64 n2) := by rw [cell_of_row _ _ 2 _ _ _ hA1]; rfl
          have fa := frozen_of_row _ _ 2 _ _ hA1
          have hA9 := Lib.hid (heap_setCell_same _ _ 2 _ _ (.int .i64 x) hA1)
          have hB9 := Lib.hid ((HB.out.trans (hbx.mono (by omega))).setCell (p := ⟨w.heap.size + 2, 2, none⟩) (Nat.le_refl _) (.int .i64 x))
          have hz9 : Hid ((1 ≤ 3 → fieldW k0 t0 likeN = some n0) ∧ (2 ≤ 3 → fieldW k1 t1 boostN = some n1) ∧ (3 ≤ 3 → fieldW k2 t2 replyN = some x) ∧ (4 ≤ 3 → fieldW k3 t3 ageN = some n3)) := ⟨fun _ => hz.out.1 (by omega), fun _ => hz.out.2.1 (by omega), fun _ => fieldW_yes hk hP, by omega⟩
          clear hP1 hA1 hbx hz hk hP
          go_wp2_with fail
          go_roundw
          case rel => exact ⟨3, n0, n1, x, n3, by omega, rfl, hB9.out, hA9.out, hz9⟩
          case measure => simp [intOf]
        · have hRn : Hid (R = none) := by rw [Hid, HR.out]; exact pick_no (.inr (.inr (.inl (fieldW_nm hk))))
          have qk : w1.cell? ⟨w.heap.size + 1, 4, none⟩ = some (.string (bs k2)) := by rw [cell_of_row _ _ 4 _ _ _ hP1]; rfl
          have tk : ((bs k2).toList == [114, 101, 112, 108, 121]) = false := bs_lit2 hk
          have hA2 : w1.heap[w.heap.size]? = _ := (hbx.block _ (by omega)).trans HG0.out
          have hb1 : Below w.heap.size w w1 := HBW.out.trans (hbx.mono HBW.out.size)
          have B := Lib.hid hb1
          clear hb1 hbx hP1 hA1 hz hk hP
          have q0 : w1.cell? ⟨w.heap.size, 0, none⟩ = some (.int .i64 0) := by rw [cell_of_row _ _ _ _ _ _ hA2]; rfl
          have q1' : w1.cell? ⟨w.heap.size, 1, none⟩ = some (.int .i64 0) := by rw [cell_of_row _ _ _ _ _ _ hA2]; rfl
          have q2 : w1.cell? ⟨w.heap.size, 2, none⟩ = some (.int .i64 0) := by rw [cell_of_row _ _ _ _ _ _ hA2]; rfl
          have q3 : w1.cell? ⟨w.heap.size, 3, none⟩ = some (.int .i64 0) := by rw [cell_of_row _ _ _ _ _ _ hA2]; rfl
          have f0 := frozen_of_row _ _ 0 _ _ hA2
          have f1 := frozen_of_row _ _ 1 _ _ hA2
          have f2 := frozen_of_row _ _ 2 _ _ hA2
          have f3 := frozen_of_row _ _ 3 _ _ hA2
          have G := Lib.hid hA2
          clear hA2
          go_wp2_with fail
          refine bodyPost_ret (results_cell1 rfl _ _ w.heap.size 23 #[.int .i64 0, .int .i64 0, .int .i64 0, .int .i64 0] (0, 0) _ rfl (blk4 _ _ _ _ G.out) Tryd.underlying23 rfl infoW) rfl ?_
          exact ⟨by rw [hRn.out]; rfl, set4_below _ _ _ _ B.out (Nat.le_refl _)⟩
    · have ix : ∀ W : World, (Instr.index 48 (.agg #[.string ⟨#[108, 105, 107, 101]⟩, .string ⟨#[98, 111, 111, 115, 116]⟩, .string ⟨#[114, 101, 112, 108, 121]⟩, .string ⟨#[97, 103, 101]⟩]) (.int .i64 3)).run Tryd.prog W = .ok (.string ⟨#[97, 103, 101]⟩) W := fun _ => by kernel_rfl
      have q1 : wr.cell? ⟨w.heap.size + 1, 7, none⟩ = some (.string (bs t3)) := (hp 7).trans rfl
      clear hp
      cases hP : parseI t3 0 1125899906842624 with
      | none =>
        have hRn : Hid (R = none) := by rw [Hid, HR.out]; exact pick_no (.inr (.inr (.inr (fieldW_no hP))))
        rw [hP] at c4
        simp only [Option.getD_none, Option.isSome_none] at c4
        go_wp2_with fail
        refine (c4 _ (hL.below HBW.out)).mono ?_
        rintro e w1 ⟨rfl, hbx⟩
        have hA2 : w1.heap[w.heap.size]? = _ := (hbx.block _ (by have := HB.out.size; rw [GS.out] at this; omega)).trans HG0.out
        have hb1 : Below w.heap.size w w1 := HBW.out.trans (hbx.mono HBW.out.size)
        have B := Lib.hid hb1
        clear hb1 hbx
        have q0 : w1.cell? ⟨w.heap.size, 0, none⟩ = some (.int .i64 0) := by rw [cell_of_row _ _ _ _ _ _ hA2]; rfl
        have q1' : w1.cell? ⟨w.heap.size, 1, none⟩ = some (.int .i64 0) := by rw [cell_of_row _ _ _ _ _ _ hA2]; rfl
        have q2 : w1.cell? ⟨w.heap.size, 2, none⟩ = some (.int .i64 0) := by rw [cell_of_row _ _ _ _ _ _ hA2]; rfl
        have q3 : w1.cell? ⟨w.heap.size, 3, none⟩ = some (.int .i64 0) := by rw [cell_of_row _ _ _ _ _ _ hA2]; rfl
        have f0 := frozen_of_row _ _ 0 _ _ hA2
        have f1 := frozen_of_row _ _ 1 _ _ hA2
        have f2 := frozen_of_row _ _ 2 _ _ hA2
        have f3 := frozen_of_row _ _ 3 _ _ hA2
        have G := Lib.hid hA2
        clear hA2
        go_wp2_with fail
        refine bodyPost_ret (results_cell1 rfl _ _ w.heap.size 23 #[.int .i64 0, .int .i64 0, .int .i64 0, .int .i64 0] (0, 0) _ rfl (blk4 _ _ _ _ G.out) Tryd.underlying23 rfl infoW) rfl ?_
        exact ⟨by rw [hRn.out]; rfl, set4_below _ _ _ _ B.out (Nat.le_refl _)⟩
      | some x =>
        rw [hP] at c4
        simp only [Option.getD_some, Option.isSome_some] at c4
        go_wp2_with fail
        refine (c4 _ (hL.below HBW.out)).mono ?_
        rintro e w1 ⟨rfl, hbx⟩
        have hsz := HB.out.size
        rw [GS.out] at hsz
        have hP1 : w1.heap[w.heap.size + 1]? = _ := (hbx.block _ (by omega)).trans ((HB.out.block _ (by omega)).trans G1.out)
        have hA1 : w1.heap[w.heap.size + 2]? = _ := (hbx.block _ (by omega)).trans HA.out
        by_cases hk : k3 = ageN
        · have qk : w1.cell? ⟨w.heap.size + 1, 6, none⟩ = some (.string ⟨#[97, 103, 101]⟩) := by rw [cell_of_row _ _ 6 _ _ _ hP1, hk]; rfl
          have qa : w1.cell? ⟨w.heap.size + 2, 3, none⟩ = some (.int .i64 n3) := by rw [cell_of_row _ _ 3 _ _ _ hA1]; rfl
          have fa := frozen_of_row _ _ 3 _ _ hA1
          have hA9 := Lib.hid (heap_setCell_same _ _ 3 _ _ (.int .i64 x) hA1)
          have hB9 := Lib.hid ((HB.out.trans (hbx.mono (by omega))).setCell (p := ⟨w.heap.size + 2, 3, none⟩) (Nat.le_refl _) (.int .i64 x))
          have hz9 : Hid ((1 ≤ 4 → fieldW k0 t0 likeN = some n0) ∧ (2 ≤ 4 → fieldW k1 t1 boostN = some n1) ∧ (3 ≤ 4 → fieldW k2 t2 replyN = some n2) ∧ (4 ≤ 4 → fieldW k3 t3 ageN = some x)) := ⟨fun _ => hz.out.1 (by omega), fun _ => hz.out.2.1 (by omega), fun _ => hz.out.2.2.1 (by omega), fun _ => fieldW_yes hk hP⟩
          clear hP1 hA1 hbx hz hk hP
          go_wp2_with fail
          go_roundw
          case rel => exact ⟨4, n0, n1, n2, x, by omega, rfl, hB9.out, hA9.out, hz9⟩
          case measure => simp [intOf]
        · have hRn : Hid (R = none) := by rw [Hid, HR.out]; exact pick_no (.inr (.inr (.inr (fieldW_nm hk))))
          have qk : w1.cell? ⟨w.heap.size + 1, 6, none⟩ = some (.string (bs k3)) := by rw [cell_of_row _ _ 6 _ _ _ hP1]; rfl
          have tk : ((bs k3).toList == [97, 103, 101]) = false := bs_lit2 hk
          have hA2 : w1.heap[w.heap.size]? = _ := (hbx.block _ (by omega)).trans HG0.out
          have hb1 : Below w.heap.size w w1 := HBW.out.trans (hbx.mono HBW.out.size)
          have B := Lib.hid hb1
          clear hb1 hbx hP1 hA1 hz hk hP
          have q0 : w1.cell? ⟨w.heap.size, 0, none⟩ = some (.int .i64 0) := by rw [cell_of_row _ _ _ _ _ _ hA2]; rfl
          have q1' : w1.cell? ⟨w.heap.size, 1, none⟩ = some (.int .i64 0) := by rw [cell_of_row _ _ _ _ _ _ hA2]; rfl
          have q2 : w1.cell? ⟨w.heap.size, 2, none⟩ = some (.int .i64 0) := by rw [cell_of_row _ _ _ _ _ _ hA2]; rfl
          have q3 : w1.cell? ⟨w.heap.size, 3, none⟩ = some (.int .i64 0) := by rw [cell_of_row _ _ _ _ _ _ hA2]; rfl
          have f0 := frozen_of_row _ _ 0 _ _ hA2
          have f1 := frozen_of_row _ _ 1 _ _ hA2
          have f2 := frozen_of_row _ _ 2 _ _ hA2
          have f3 := frozen_of_row _ _ 3 _ _ hA2
          have G := Lib.hid hA2
          clear hA2
          go_wp2_with fail
          refine bodyPost_ret (results_cell1 rfl _ _ w.heap.size 23 #[.int .i64 0, .int .i64 0, .int .i64 0, .int .i64 0] (0, 0) _ rfl (blk4 _ _ _ _ G.out) Tryd.underlying23 rfl infoW) rfl ?_
          exact ⟨by rw [hRn.out]; rfl, set4_below _ _ _ _ B.out (Nat.le_refl _)⟩
    · have hRs : Hid (R = some ⟨n0, n1, n2, n3⟩) := by rw [Hid, HR.out, hz.out.1 (by omega), hz.out.2.1 (by omega), hz.out.2.2.1 (by omega), hz.out.2.2.2 (by omega)]; rfl
      have hA1 := HA.out
      have hA2 := HG0.out
      have qa : wr.cell? ⟨w.heap.size + 2, 0, none⟩ = some (.int .i64 n0) := by rw [cell_of_row _ _ 0 _ _ _ hA1]; rfl
      have qb : wr.cell? ⟨w.heap.size + 2, 1, none⟩ = some (.int .i64 n1) := by rw [cell_of_row _ _ 1 _ _ _ hA1]; rfl
      have qc : wr.cell? ⟨w.heap.size + 2, 2, none⟩ = some (.int .i64 n2) := by rw [cell_of_row _ _ 2 _ _ _ hA1]; rfl
      have qd : wr.cell? ⟨w.heap.size + 2, 3, none⟩ = some (.int .i64 n3) := by rw [cell_of_row _ _ 3 _ _ _ hA1]; rfl
      clear hA1 hp hz
      have q0 : wr.cell? ⟨w.heap.size, 0, none⟩ = some (.int .i64 0) := by rw [cell_of_row _ _ _ _ _ _ hA2]; rfl
      have q1' : wr.cell? ⟨w.heap.size, 1, none⟩ = some (.int .i64 0) := by rw [cell_of_row _ _ _ _ _ _ hA2]; rfl
      have q2 : wr.cell? ⟨w.heap.size, 2, none⟩ = some (.int .i64 0) := by rw [cell_of_row _ _ _ _ _ _ hA2]; rfl
      have q3 : wr.cell? ⟨w.heap.size, 3, none⟩ = some (.int .i64 0) := by rw [cell_of_row _ _ _ _ _ _ hA2]; rfl
      have f0 := frozen_of_row _ _ 0 _ _ hA2
      have f1 := frozen_of_row _ _ 1 _ _ hA2
      have f2 := frozen_of_row _ _ 2 _ _ hA2
      have f3 := frozen_of_row _ _ 3 _ _ hA2
      have G := Lib.hid hA2
      clear hA2
      go_wp2_with fail
      refine bodyPost_ret (results_cell1 rfl _ _ w.heap.size 23 #[.int .i64 n0, .int .i64 n1, .int .i64 n2, .int .i64 n3] (0, 0) _ rfl (blk4 _ _ _ _ G.out) Tryd.underlying23 rfl infoW) rfl ?_
      exact ⟨by rw [hRs.out]; rfl, set4_below _ _ _ _ HBW.out (Nat.le_refl _)⟩
theorem parseW_any (s : List UInt8) (m : Int) (w : World) (hs : s.length ≤ 281474976710656) (hs' : s.length < 4294967281) (h0 : 0 < w.heap.size) (hm : w.cell? ⟨0, 0, none⟩ = some (.int .i64 m)) (hL : Laid w) :
    Calls Tryd.prog 9 #[.string (bs s)] w (WPost w (parseW s)) := by
  have hj := spL_le s
  unfold parseW
  by_cases h8 : (spL s).length = 8
  · generalize hS : spL s = L at *
    match L, h8 with
    | [k0, t0, k1, t1, k2, t2, k3, t3], _ =>
      exact parseW_eight s k0 t0 k1 t1 k2 t2 k3 t3 m w hs' h0 hm hL hS (Nat.le_trans (hj t0 (by simp)) hs) (Nat.le_trans (hj t1 (by simp)) hs) (Nat.le_trans (hj t2 (by simp)) hs) (Nat.le_trans (hj t3 (by simp)) hs)
  · rw [parseL_len h8]
    exact parseW_len s m w hs' h0 hm h8
end Go.Proofs.YtjcaaiikccnpeaaDoor
