/- IdentParts, walked: it answers true. -/
import Derived.Test.YtgmlhgojkmpkkaaDoorSmallI
import Derived.Test.YtgmlhgojkmpkkaaDoorSRow
import Derived.Deep.RegionHeld3
import Derived.Test.YtgmlhgojkmpkkaaDoorIApart
namespace Go.Proofs.YtgmlhgojkmpkkaaDoor
open Go.ChangeShapes Go.WideShapes Go.ChangeAt Go.RowKit Go.Lib
set_option linter.unusedVariables false

theorem below_alloc {w W : World} (h : Below w.heap.size w W) (o : Obj) : Below w.heap.size w (W.alloc o) := h.alloc h.size o
theorem below_on {w W W' : World} (h : Below w.heap.size w W) (h2 : Below w.heap.size W W') : Below w.heap.size w W' := h.trans h2
theorem beq_int (i k : Int) (m n : Nat) (h1 : i = m) (h2 : k = n) : (i == k) = decide (m = n) := by
  subst h1; subst h2
  rw [Bool.eq_iff_iff]
  simp
  omega
set_option maxRecDepth 100000 in
set_option maxHeartbeats 2000000 in
theorem iparts_long (l : List (List UInt8)) (A : Option Addr) (C : Nat) (i k : Int) (w : World) (hl : RowAt w A (strs l)) (hn : l.length ≤ 9223372036854775807) (hx : ∀ x, x ∈ l → x.length ≤ 9223372036854775807) (h : 100 < l.length) (hL : LaidA w) : Calls Tryd.prog 7 #[.slice A l.length C, .int .i64 i, .int .i64 k] w (BoolPost w true) := by
  have cs := fun W hW => small_any W hW
  have hb0 := Below.refl w.heap.size w
  have d1 : decide (100 < (l.length : Int)) = true := decide_eq_true (by omega)
  clear h hx
  go_enter Tryd.func7, Tryd.ntmps7
  go_wp2_with fail
  (with_reducible refine Calls.mono (cs _ (hL.below hb0)) ?_)
  rintro e w1 ⟨rfl, hbx⟩
  have hb1 := hb0.trans (hbx.mono hb0.size)
  clear hbx
  go_wp2
  go_ret
  exact ⟨rfl, hb1⟩
set_option maxRecDepth 100000 in
set_option maxHeartbeats 2000000 in
theorem iparts_no (l : List (List UInt8)) (A : Option Addr) (C : Nat) (i k : Int) (w : World) (hl : RowAt w A (strs l)) (hn : l.length ≤ 10000000) (hx : ∀ x, x ∈ l → x.length ≤ 9223372036854775807) (h : ¬ 100 < l.length) (hid : idsB l = false) (hL : LaidA w) : Calls Tryd.prog 7 #[.slice A l.length C, .int .i64 i, .int .i64 k] w (BoolPost w true) := by
  have cs := fun W hW => small_any W hW
  have ci := fun W (hW : RowAt W A (strs l)) => ids_all l A C W hW hn hx
  have hb0 := Below.refl w.heap.size w
  have d1 : decide (100 < (l.length : Int)) = false := decide_eq_false (by omega)
  rw [hid] at ci
  clear hx h hid
  go_enter Tryd.func7, Tryd.ntmps7
  go_wp2_with fail
  (with_reducible refine Calls.mono (cs _ (hL.below hb0)) ?_)
  rintro e w1 ⟨rfl, hbx⟩
  have hb1 := hb0.trans (hbx.mono hb0.size)
  clear hbx
  go_wp2_with fail
  (with_reducible refine Calls.mono (ci _ (hl.below hb1)) ?_)
  rintro e w2 ⟨rfl, hbx⟩
  have hb2 := hb1.trans (hbx.mono hb1.size)
  clear hbx
  go_wp2
  go_ret
  exact ⟨rfl, hb2⟩
set_option maxRecDepth 100000 in
set_option maxHeartbeats 2000000 in
theorem iparts_i0 (l : List (List UInt8)) (A : Option Addr) (C : Nat) (i k : Int) (w : World) (hl : RowAt w A (strs l)) (hn : l.length ≤ 10000000) (hx : ∀ x, x ∈ l → x.length ≤ 9223372036854775807) (h : ¬ 100 < l.length) (hid : idsB l = true) (g : i < 0) (hL : LaidA w) : Calls Tryd.prog 7 #[.slice A l.length C, .int .i64 i, .int .i64 k] w (BoolPost w true) := by
  have cs := fun W hW => small_any W hW
  have ci := fun W (hW : RowAt W A (strs l)) => ids_all l A C W hW hn hx
  have hb0 := Below.refl w.heap.size w
  have d1 : decide (100 < (l.length : Int)) = false := decide_eq_false (by omega)
  rw [hid] at ci
  have d2 : decide (i < 0) = true := decide_eq_true g
  clear hx h hid g
  go_enter Tryd.func7, Tryd.ntmps7
  go_wp2_with fail
  (with_reducible refine Calls.mono (cs _ (hL.below hb0)) ?_)
  rintro e w1 ⟨rfl, hbx⟩
  have hb1 := hb0.trans (hbx.mono hb0.size)
  clear hbx
  go_wp2_with fail
  (with_reducible refine Calls.mono (ci _ (hl.below hb1)) ?_)
  rintro e w2 ⟨rfl, hbx⟩
  have hb2 := hb1.trans (hbx.mono hb1.size)
  clear hbx
  go_wp2
  go_ret
  exact ⟨rfl, hb2⟩
set_option maxRecDepth 100000 in
set_option maxHeartbeats 2000000 in
theorem iparts_i1 (l : List (List UInt8)) (A : Option Addr) (C : Nat) (i k : Int) (w : World) (hl : RowAt w A (strs l)) (hn : l.length ≤ 10000000) (hx : ∀ x, x ∈ l → x.length ≤ 9223372036854775807) (h : ¬ 100 < l.length) (hid : idsB l = true) (g0 : 0 ≤ i) (g : (l.length : Int) ≤ i) (hL : LaidA w) : Calls Tryd.prog 7 #[.slice A l.length C, .int .i64 i, .int .i64 k] w (BoolPost w true) := by
  have cs := fun W hW => small_any W hW
  have ci := fun W (hW : RowAt W A (strs l)) => ids_all l A C W hW hn hx
  have hb0 := Below.refl w.heap.size w
  have d1 : decide (100 < (l.length : Int)) = false := decide_eq_false (by omega)
  rw [hid] at ci
  have d2 : decide (i < 0) = false := decide_eq_false (by omega)
  have d3 : decide ((l.length : Int) ≤ i) = true := decide_eq_true g
  clear hx h hid g0 g
  go_enter Tryd.func7, Tryd.ntmps7
  go_wp2_with fail
  (with_reducible refine Calls.mono (cs _ (hL.below hb0)) ?_)
  rintro e w1 ⟨rfl, hbx⟩
  have hb1 := hb0.trans (hbx.mono hb0.size)
  clear hbx
  go_wp2_with fail
  (with_reducible refine Calls.mono (ci _ (hl.below hb1)) ?_)
  rintro e w2 ⟨rfl, hbx⟩
  have hb2 := hb1.trans (hbx.mono hb1.size)
  clear hbx
  go_wp2
  go_ret
  exact ⟨rfl, hb2⟩
set_option maxRecDepth 100000 in
set_option maxHeartbeats 2000000 in
theorem iparts_k0 (l : List (List UInt8)) (A : Option Addr) (C : Nat) (i k : Int) (w : World) (hl : RowAt w A (strs l)) (hn : l.length ≤ 10000000) (hx : ∀ x, x ∈ l → x.length ≤ 9223372036854775807) (h : ¬ 100 < l.length) (hid : idsB l = true) (g0 : 0 ≤ i) (g1 : i < (l.length : Int)) (g : k < 0) (hL : LaidA w) : Calls Tryd.prog 7 #[.slice A l.length C, .int .i64 i, .int .i64 k] w (BoolPost w true) := by
  have cs := fun W hW => small_any W hW
  have ci := fun W (hW : RowAt W A (strs l)) => ids_all l A C W hW hn hx
  have hb0 := Below.refl w.heap.size w
  have d1 : decide (100 < (l.length : Int)) = false := decide_eq_false (by omega)
  rw [hid] at ci
  have d2 : decide (i < 0) = false := decide_eq_false (by omega)
  have d3 : decide ((l.length : Int) ≤ i) = false := decide_eq_false (by omega)
  have d4 : decide (k < 0) = true := decide_eq_true g
  clear hx h hid g0 g1 g
  go_enter Tryd.func7, Tryd.ntmps7
  go_wp2_with fail
  (with_reducible refine Calls.mono (cs _ (hL.below hb0)) ?_)
  rintro e w1 ⟨rfl, hbx⟩
  have hb1 := hb0.trans (hbx.mono hb0.size)
  clear hbx
  go_wp2_with fail
  (with_reducible refine Calls.mono (ci _ (hl.below hb1)) ?_)
  rintro e w2 ⟨rfl, hbx⟩
  have hb2 := hb1.trans (hbx.mono hb1.size)
  clear hbx
  go_wp2
  go_ret
  exact ⟨rfl, hb2⟩
set_option maxRecDepth 100000 in
set_option maxHeartbeats 2000000 in
theorem iparts_k1 (l : List (List UInt8)) (A : Option Addr) (C : Nat) (i k : Int) (w : World) (hl : RowAt w A (strs l)) (hn : l.length ≤ 10000000) (hx : ∀ x, x ∈ l → x.length ≤ 9223372036854775807) (h : ¬ 100 < l.length) (hid : idsB l = true) (g0 : 0 ≤ i) (g1 : i < (l.length : Int)) (g2 : 0 ≤ k) (g : (l.length : Int) ≤ k) (hL : LaidA w) : Calls Tryd.prog 7 #[.slice A l.length C, .int .i64 i, .int .i64 k] w (BoolPost w true) := by
  have cs := fun W hW => small_any W hW
  have ci := fun W (hW : RowAt W A (strs l)) => ids_all l A C W hW hn hx
  have hb0 := Below.refl w.heap.size w
  have d1 : decide (100 < (l.length : Int)) = false := decide_eq_false (by omega)
  rw [hid] at ci
  have d2 : decide (i < 0) = false := decide_eq_false (by omega)
  have d3 : decide ((l.length : Int) ≤ i) = false := decide_eq_false (by omega)
  have d4 : decide (k < 0) = false := decide_eq_false (by omega)
  have d5 : decide ((l.length : Int) ≤ k) = true := decide_eq_true g
  clear hx h hid g0 g1 g2 g
  go_enter Tryd.func7, Tryd.ntmps7
  go_wp2_with fail
  (with_reducible refine Calls.mono (cs _ (hL.below hb0)) ?_)
  rintro e w1 ⟨rfl, hbx⟩
  have hb1 := hb0.trans (hbx.mono hb0.size)
  clear hbx
  go_wp2_with fail
  (with_reducible refine Calls.mono (ci _ (hl.below hb1)) ?_)
  rintro e w2 ⟨rfl, hbx⟩
  have hb2 := hb1.trans (hbx.mono hb1.size)
  clear hbx
  go_wp2
  go_ret
  exact ⟨rfl, hb2⟩
set_option maxRecDepth 100000 in
set_option maxHeartbeats 2000000 in
theorem iparts_main (l : List (List UInt8)) (A : Option Addr) (C : Nat) (i k : Nat) (w : World) (hl : RowAt w A (strs l)) (hn : l.length ≤ 10000000) (hx : ∀ x, x ∈ l → x.length ≤ 9223372036854775807) (hC : l.length ≤ C) (h : ¬ 100 < l.length) (hid : idsB l = true) (g1 : i < l.length) (g2 : k < l.length) (hL : LaidA w) : Calls Tryd.prog 7 #[.slice A l.length C, .int .i64 i, .int .i64 k] w (BoolPost w true) := by
  have cs := fun W hW => small_any W hW
  have ci := fun W (hW : RowAt W A (strs l)) => ids_all l A C W hW hn hx
  have hb0 := Below.refl w.heap.size w
  have d1 : decide (100 < (l.length : Int)) = false := decide_eq_false (by omega)
  rw [hid] at ci
  have d2 : decide ((i : Int) < 0) = false := decide_eq_false (by omega)
  have d3 : decide (l.length ≤ i) = false := decide_eq_false (by omega)
  have d4 : decide ((k : Int) < 0) = false := decide_eq_false (by omega)
  have d5 : decide (l.length ≤ k) = false := decide_eq_false (by omega)
  obtain ⟨b, o, rfl, hc0⟩ := hl (by rw [strs_length]; omega)
  have HL := Lib.hid hl
  have hbw : b < w.heap.size := by
    have := hc0 i _ (strs_get (List.getElem?_eq_getElem g1))
    exact World.block_lt_of_cell? w _ this
  have hcell : Hid (∀ W, Below w.heap.size w W → ∀ j x, l[j]? = some x → W.cell? ⟨b, o + j, none⟩ = some (.string (bs x))) := fun W hW j x hj => (hW.cell (p := ⟨b, o + j, none⟩) hbw).trans (hc0 j _ (strs_get hj))
  have hsrcTo : Hid (∀ m, ∀ W, Below w.heap.size w W → ∀ j u, (strs (l.take m))[j]? = some u → W.cell? ((⟨b, o, none⟩ : Addr).add j) = some u) := by
    intro m W hW j u hu
    simp only [strs, List.getElem?_map, Option.map_eq_some_iff] at hu
    obtain ⟨y, hy, rfl⟩ := hu
    have hadd : (⟨b, o, none⟩ : Addr).add j = ⟨b, o + j, none⟩ := by unfold Addr.add; split <;> simp_all
    rw [hadd]
    refine hcell.out W hW j y ?_
    rw [List.getElem?_take] at hy
    split at hy
    · exact hy
    · cases hy
  have hsrcFrom : Hid (∀ m, m ≤ l.length → ∀ W, Below w.heap.size w W → ∀ j u, (strs (l.drop m))[j]? = some u → W.cell? ((if C = m then (⟨b, o, none⟩ : Addr) else ⟨b, o + m, none⟩).add j) = some u) := by
    intro m hm W hW j u hu
    have hj : j < (l.drop m).length := by
      have := (List.getElem?_eq_some_iff.1 hu).1
      rwa [strs_length] at this
    rw [List.length_drop] at hj
    rw [if_neg (by omega)]
    simp only [strs, List.getElem?_map, Option.map_eq_some_iff] at hu
    obtain ⟨y, hy, rfl⟩ := hu
    have hadd : (⟨b, o + m, none⟩ : Addr).add j = ⟨b, o + (m + j), none⟩ := by unfold Addr.add; split <;> simp_all [Nat.add_assoc]
    rw [hadd]
    refine hcell.out W hW (m + j) y ?_
    rw [List.getElem?_drop] at hy
    exact hy
  have s1 := fun W => sl_to b o l.length C i (i : Int) rfl (by omega) W
  have s2 := fun W => sl_from b o l.length C (i + 1) ((i : Int) + 1) (by omega) (by omega) W
  have s3 := fun W => sl_from b o l.length C i (i : Int) rfl (by omega) W
  have hA1 := hsrcTo.out i
  have hA2 := hsrcFrom.out (i + 1) (by omega)
  have hA3 := hsrcFrom.out i (by omega)
  have hA4 := hsrcTo.out l.length
  rw [List.take_length] at hA4
  generalize (if C = i + 1 then (⟨b, o, none⟩ : Addr) else ⟨b, o + (i + 1), none⟩) = P2 at *
  generalize (if C = i then (⟨b, o, none⟩ : Addr) else ⟨b, o + i, none⟩) = P3 at *
  have HA1 := Lib.hid hA1
  have HA2 := Lib.hid hA2
  have HA3 := Lib.hid hA3
  have HA4 := Lib.hid hA4
  obtain ⟨xi, hxi⟩ : ∃ x, l[i]? = some x := ⟨_, List.getElem?_eq_getElem g1⟩
  obtain ⟨xk, hxk⟩ : ∃ x, l[k]? = some x := ⟨_, List.getElem?_eq_getElem g2⟩
  have hli : (l.take i).length = i := by rw [List.length_take]; omega
  have hld : (l.drop (i + 1)).length = l.length - (i + 1) := List.length_drop
  have hld3 : (l.drop i).length = l.length - i := List.length_drop
  have HXI := Lib.hid hxi
  have HXK := Lib.hid hxk
  have HLI := Lib.hid hli
  have HLD := Lib.hid hld
  have HLD3 := Lib.hid hld3
  have HID := Lib.hid hid
  have hik := beq_int (i : Int) (k : Int) i k rfl rfl
  have wi : IntKind.i64.wrap ((i : Int) + 1) = (i : Int) + 1 := IntWalk.i64_in _ (by omega)
  have bi : (i : Int) < (l.length : Int) := by omega
  have bk : (k : Int) < (l.length : Int) := by omega
  have HX := Lib.hid hx
  have HCC := Lib.hid (show l.length ≤ 100 by omega)
  have l100 : l.length ≤ 100 := by omega
  clear hl hc0 hsrcTo hsrcFrom hA1 hA2 hA3 hA4 hxi hxk hli hld hld3 hid hx h
  go_enter Tryd.func7, Tryd.ntmps7
  go_wp2_with fail
  (with_reducible refine Calls.mono (cs _ hL) ?_)
  rintro e w1 ⟨rfl, hbx⟩
  have hb1 := hbx
  clear hbx
  go_wp2_with fail
  (with_reducible refine Calls.mono (ci _ (HL.out.below hb1)) ?_)
  rintro e w2 ⟨rfl, hbx⟩
  have hb2 := hb1.trans (hbx.mono hb1.size)
  clear hbx
  clear ci cs hb1
  go_wp2
  go_region_held3 (fun w' => Below w.heap.size w w') (first | exact hw4 | exact hw3 | exact hb2.drew | exact hb2 | exact below_alloc hb2 _ | exact (below_alloc hb2 _).drew)
    (first
     | (refine step_append_s _ (by rfl) (.tmp 41) (.tmp 44) (by rfl) w.heap.size (some ⟨w2.heap.size, 0, none⟩) 0 [] (l.take i) (by rfl) (SRow.fresh w2 w.heap.size hb2.size).drew ⟨b, o, none⟩ i C (by rfl) HLI.out (HA1.out _ (below_alloc hb2 _).drew) (by simp; omega) (below_alloc hb2 _).drew.size ?_; intro a3 c3 w3 o3 ho3 hown3 hb3 hgr3; clear hgr3; have hw3 : Below w.heap.size w w3 := below_on (below_alloc hb2 _).drew hb3; have hl3 : o3.length ≤ 100 := (by rw [ho3.out]; simp; omega))
     | (refine step_append_s _ (by rfl) (.tmp 45) (.tmp 49) (by rfl) w.heap.size a3 c3 o3 (l.drop (i + 1)) (by rfl) hown3 P2 (l.length - (i + 1)) (C - (i + 1)) (by rfl) HLD.out (HA2.out _ hw3) (by omega) hw3.size ?_; intro a4 c4 w4 o4 ho4 hown4 hb4 hgr4; clear hgr4; have hw4 : Below w.heap.size w w4 := below_on hw3 hb4; have HL4 := Lib.hid (show o4 = l.take i ++ l.drop (i + 1) by rw [ho4.out, ho3.out]; simp)))
  clear hown3 hb3 hb4 ho3 ho4 hl3 hw3
  have hkS : Hid (∀ W, Below w.heap.size w W → Below w.heap.size w W ∧ W.cell? ⟨b, o + i, none⟩ = some (.string (bs xi))) := fun W hW => ⟨hW, hcell.out W hW i xi HXI.out⟩
  go_wp2
  have hz1 : (w4.alloc (.cells #[] 9)).heap.size = w4.heap.size + 1 := by simp
  have hz2 : (w4.alloc (.cells #[.string (bs xi)] 9)).heap.size = w4.heap.size + 1 := by simp
  have HZ1 := Lib.hid hz1
  have HZ2 := Lib.hid hz2
  clear hz1 hz2
  go_region_held3 (fun w' => Below w.heap.size w w' ∧ w'.cell? ⟨b, o + i, none⟩ = some (.string (bs xi))) ((refine hkS.out _ (below_next hw4 ?_); repeat (first | exact hv7 | exact hv5 | exact Below.refl _ _ | apply Below.drew | apply below_alloc)))
    (first
     | (refine step_append_s _ (by rfl) (.tmp 51) (.tmp 54) (by rfl) w4.heap.size (some ⟨w4.heap.size, 0, none⟩) 0 [] (l.take i) (by rfl) (SRow.fresh w4 _ (Nat.le_refl _)).drew ⟨b, o, none⟩ i C (by rfl) HLI.out (HA1.out _ (below_alloc hw4 _).drew) (by simp; omega) (by simp) ?_; intro a5 c5 w5 o5 ho5 hown5 hb5 hgr5; clear hgr5; have hv5 : Below w4.heap.size w4 w5 := (below_alloc (Below.refl _ _) _).drew.trans hb5)
     | (refine step_append_s _ (by rfl) (.tmp 51) (.tmp 54) (by rfl) w4.heap.size (some ⟨w4.heap.size, 0, none⟩) 0 [] (l.take i) (by rfl) ((SRow.fresh w4 _ (Nat.le_refl _)).alloc _).drew ⟨b, o, none⟩ i C (by rfl) HLI.out (HA1.out _ (below_alloc (below_alloc hw4 _) _).drew) (by simp; omega) (by simp; omega) ?_; intro a5 c5 w5 o5 ho5 hown5 hb5 hgr5; have hX5 := new_kept hgr5 (by omega) (new_drew (new_str (w4.alloc (.cells #[] 9)) (w4.heap.size + 1) HZ1.out xi)); clear hgr5; have hv5 : Below w4.heap.size w4 w5 := (below_alloc (below_alloc (Below.refl _ _) _) _).drew.trans hb5)
     | (refine step_append_s _ (by rfl) (.tmp 51) (.tmp 54) (by rfl) w4.heap.size (some ⟨w4.heap.size + 1, 0, none⟩) 0 [] (l.take i) (by rfl) (SRow.fresh_at (w4.alloc (.cells #[.string (bs xi)] 9)) _ _ HZ2.out (by omega)).drew ⟨b, o, none⟩ i C (by rfl) HLI.out (HA1.out _ (below_alloc (below_alloc hw4 _) _).drew) (by simp; omega) (by simp; omega) ?_; intro a5 c5 w5 o5 ho5 hown5 hb5 hgr5; have hX5 := new_kept hgr5 (by omega) (new_drew (new_alloc (new_str w4 w4.heap.size rfl xi) _)); clear hgr5; have hv5 : Below w4.heap.size w4 w5 := (below_alloc (below_alloc (Below.refl _ _) _) _).drew.trans hb5)
     | (refine step_append_s _ (by rfl) (.tmp 55) (.tmp 60) (by rfl) w4.heap.size a5 c5 o5 [xi] (by rfl) (hown5.alloc _) ⟨w5.heap.size, 0, none⟩ 1 1 (by rfl) rfl (new_str w5 _ rfl xi) (by rw [ho5.out]; simp; omega) (by have := hv5.size; simp; omega) ?_; intro a7 c7 w7 o7 ho7 hown7 hb7 hgr7; clear hgr7; have hv7 : Below w4.heap.size w4 w7 := (below_alloc hv5 _).trans hb7)
     | (refine step_append_s _ (by rfl) (.tmp 55) (.tmp 60) (by rfl) w4.heap.size a5 c5 o5 [xi] (by rfl) hown5 _ 1 1 (by rfl) rfl hX5 (by rw [ho5.out]; simp; omega) hv5.size ?_; intro a7 c7 w7 o7 ho7 hown7 hb7 hgr7; clear hgr7; have hv7 : Below w4.heap.size w4 w7 := hv5.trans hb7))
  all_goals
    have ho7' : Hid (o7 = l.take i ++ [xi]) := by rw [Hid, ho7.out, ho5.out]; simp
    have hl7 : o7.length ≤ 101 := by rw [ho7'.out]; simp; omega
    have hw7 := below_next hw4 hv7
    clear ho7 ho5 hb5 hb7 hown5 hv5
    go_wp2_with (at_builtin; refine wpList_append_s _ rfl _ _ rfl w4.heap.size a7 c7 o7 (l.drop i) rfl hown7 P3 (l.length - i) (C - i) rfl HLD3.out (HA3.out _ hw7) (by omega) hv7.size ?_)
    intro a8 c8 w8 o8 ho8 hown8 hb8 hgr8
    clear hgr8
    have hv8 : Below w4.heap.size w4 w8 := hv7.trans hb8
    have hw8 := below_next hw4 hv8
    have hm4 := hown4.below hv8
    have ho8' : Hid (o8 = (l.take i ++ [xi]) ++ l.drop i) := by rw [Hid, ho8.out, ho7'.out]
    clear ho8 ho7' hb8 hv7 hw7 hown7 hown4 hl7
    go_wp2_with (at_builtin; refine wpList_append_s _ rfl _ _ rfl w8.heap.size (some ⟨w8.heap.size, 0, none⟩) 0 [] l rfl (SRow.fresh w8 _ (Nat.le_refl _)) ⟨b, o, none⟩ l.length C rfl rfl (HA4.out _ (below_alloc hw8 _)) (by simp; omega) (by simp) ?_)
    intro a9 c9 w9 o9 ho9 hown9 hb9 hgr9
    clear hgr9
    have hv9 : Below w8.heap.size w8 w9 := (below_alloc (Below.refl _ _) _).trans hb9
    have e9 : o9 = l := ho9.out
    rw [e9] at hown9 ⊢
    obtain ⟨g9, rfl, hg9, _, hc9, hcell9⟩ := hown9.at (by omega)
    have r1 : w9.cell? ⟨b, o + k, none⟩ = some (.string (bs xk)) := hcell.out w9 (below_next hw8 hv9) k xk HXK.out
    have r2 : w9.cell? ⟨g9, i, none⟩ = some (.string (bs xi)) := hcell9 i xi HXI.out
    have r3 : w9.frozen? ⟨g9, i, none⟩ = false := hown9.free i
    have hset := hown9.set (k := i) g1 xk
    have hv10 : Below w8.heap.size w8 (w9.setCell ⟨g9, i, none⟩ (.string (bs xk))) := hv9.setCell hg9 _
    have r4 : (w9.setCell ⟨g9, i, none⟩ (.string (bs xk))).cell? ⟨b, o + i, none⟩ = some (.string (bs xi)) := hcell.out _ (below_next hw8 hv10) i xi HXI.out
    have hk2 : k < (l.set i xk).length := by rw [List.length_set]; exact g2
    have r5 : ∃ y, (w9.setCell ⟨g9, i, none⟩ (.string (bs xk))).cell? ⟨g9, k, none⟩ = some (.string (bs y)) := by
      obtain ⟨g', hg', _, _, _, hcc⟩ := hset.at (by rw [List.length_set]; omega)
      simp only [Option.some.injEq, Addr.mk.injEq] at hg'
      obtain ⟨rfl, _⟩ := hg'
      exact ⟨_, hcc k _ (List.getElem?_eq_getElem hk2)⟩
    obtain ⟨y, r5⟩ := r5
    have r6 : (w9.setCell ⟨g9, i, none⟩ (.string (bs xk))).frozen? ⟨g9, k, none⟩ = false := hset.free k
    have hset2 := hset.set (k := k) hk2 xi
    have hv11 : Below w8.heap.size w8 ((w9.setCell ⟨g9, i, none⟩ (.string (bs xk))).setCell ⟨g9, k, none⟩ (.string (bs xi))) := hv10.setCell hg9 _
    have hr4 := (hm4.below hv11).row
    have hr8 := (hown8.below hv11).row
    have hr9 := hset2.row
    have hw11 := below_next hw8 hv11
    have hmem4 : ∀ x, x ∈ o4 → x ∈ l := fun x hx => by
      rw [HL4.out] at hx
      rcases List.mem_append.1 hx with h | h
      · exact List.mem_of_mem_take h
      · exact List.mem_of_mem_drop h
    have hmxi : xi ∈ l := List.mem_of_getElem? HXI.out
    have hmxk : xk ∈ l := List.mem_of_getElem? HXK.out
    have hmem8 : ∀ x, x ∈ o8 → x ∈ l := fun x hx => by
      rw [ho8'.out] at hx
      rcases List.mem_append.1 hx with h | h
      · rcases List.mem_append.1 h with h | h
        · exact List.mem_of_mem_take h
        · rw [List.mem_singleton.1 h]; exact hmxi
      · exact List.mem_of_mem_drop h
    have hmem9 : ∀ x, x ∈ (l.set i xk).set k xi → x ∈ l := fun x hx => by
      rcases List.mem_or_eq_of_mem_set hx with h | h
      · rcases List.mem_or_eq_of_mem_set h with h | h
        · exact h
        · rw [h]; exact hmxk
      · rw [h]; exact hmxi
    have hlen4 : o4.length ≤ 10000000 := by rw [HL4.out]; simp; omega
    have hlen8 : o8.length ≤ 10000000 := by rw [ho8'.out]; simp; omega
    have hxi' : l[i]'g1 = xi := by have := HXI.out; rw [List.getElem?_eq_getElem g1] at this; exact Option.some.inj this
    have hxk' : l[k]'g2 = xk := by have := HXK.out; rw [List.getElem?_eq_getElem g2] at this; exact Option.some.inj this
    have cL : ∀ W, RowAt W a4 (strs o4) → Calls Tryd.prog 20 #[.slice a4 o4.length c4] W (BoolPost W true) := fun W hW => by
      have := ids_all o4 a4 c4 W hW hlen4 (fun x hx => HX.out x (hmem4 x hx))
      rw [HL4.out, ids_less HID.out i] at this
      rw [HL4.out]
      exact this
    have cM : ∀ W, RowAt W a8 (strs o8) → Calls Tryd.prog 20 #[.slice a8 o8.length c8] W (BoolPost W false) := fun W hW => by
      have := ids_all o8 a8 c8 W hW hlen8 (fun x hx => HX.out x (hmem8 x hx))
      have hm := ids_more (l := l) g1
      rw [hxi'] at hm
      rw [ho8'.out, hm] at this
      rw [ho8'.out]
      exact this
    have cO : ∀ W, RowAt W (some ⟨g9, 0, none⟩) (strs ((l.set i xk).set k xi)) → Calls Tryd.prog 20 #[.slice (some ⟨g9, 0, none⟩) l.length c9] W (BoolPost W (decide (i = k))) := fun W hW => by
      have := ids_all ((l.set i xk).set k xi) (some ⟨g9, 0, none⟩) c9 W hW (by rw [List.length_set, List.length_set]; omega) (fun x hx => HX.out x (hmem9 x hx))
      have hm := ids_swap HID.out g1 g2
      rw [hxi', hxk'] at hm
      rw [hm, List.length_set, List.length_set] at this
      exact this
    have HR4 := Lib.hid hr4
    have HR8 := Lib.hid hr8
    have HR9 := Lib.hid hr9
    have HW11 := Lib.hid hw11
    have tq : (decide (i = k) == decide (i = k)) = true := by simp
    generalize decide (i = k) = q at *
    clear e9 ho9 hset hset2 hv10 hv11 hr4 hr8 hr9 hw11 hmem4 hmem8 hmem9 hmxi hmxk hlen4 hlen8 hxi' hxk' hcell9 hc9 hk2 hm4 hown8 hown9 hb9 hv9 hw8 hv8 hw4
    go_wp2_with fail
    (with_reducible refine Calls.mono (cL _ HR4.out) ?_)
    rintro e w12 ⟨rfl, hbx⟩
    have hr8' := HR8.out.below hbx
    have hr9' := HR9.out.below hbx
    have hw12 := below_next HW11.out hbx
    clear hbx
    go_wp2_with fail
    (with_reducible refine Calls.mono (cM _ hr8') ?_)
    rintro e w13 ⟨rfl, hbx⟩
    have hr9'' := hr9'.below hbx
    have hw13 := below_next hw12 hbx
    clear hbx hr8' hr9'
    go_wp2_with fail
    (with_reducible refine Calls.mono (cO _ hr9'') ?_)
    rintro e w14 ⟨rfl, hbx⟩
    have hw14 := below_next hw13 hbx
    clear hbx hr9''
    go_wp2
    go_ret
    exact ⟨rfl, hw14⟩
theorem iparts_any (l : List (List UInt8)) (A : Option Addr) (C : Nat) (i k : Int) (w : World) (hl : RowAt w A (strs l)) (hn : l.length ≤ 9223372036854775807) (hx : ∀ x, x ∈ l → x.length ≤ 9223372036854775807) (hC : l.length ≤ C) (hL : LaidA w) : Calls Tryd.prog 7 #[.slice A l.length C, .int .i64 i, .int .i64 k] w (BoolPost w true) := by
  by_cases h : 100 < l.length
  · exact iparts_long l A C i k w hl hn hx h hL
  have hn' : l.length ≤ 10000000 := by omega
  cases hid : idsB l with
  | false => exact iparts_no l A C i k w hl hn' hx h hid hL
  | true =>
    by_cases g0 : i < 0
    · exact iparts_i0 l A C i k w hl hn' hx h hid g0 hL
    by_cases g1 : (l.length : Int) ≤ i
    · exact iparts_i1 l A C i k w hl hn' hx h hid (by omega) g1 hL
    by_cases g2 : k < 0
    · exact iparts_k0 l A C i k w hl hn' hx h hid (by omega) (by omega) g2 hL
    by_cases g3 : (l.length : Int) ≤ k
    · exact iparts_k1 l A C i k w hl hn' hx h hid (by omega) (by omega) (by omega) g3 hL
    obtain ⟨m, rfl⟩ : ∃ m : Nat, i = m := ⟨i.toNat, by omega⟩
    obtain ⟨n, rfl⟩ : ∃ n : Nat, k = n := ⟨k.toNat, by omega⟩
    exact iparts_main l A C m n w hl hn' hx hC h hid (by omega) (by omega) hL
end Go.Proofs.YtgmlhgojkmpkkaaDoor
