/- small, walked: it answers true. -/
import Derived.Test.YtgmlhgojkmpkkaaDoorLaidI
import Derived.Test.YtgmlhgojkmpkkaaDoorRIds
namespace Go.Proofs.YtgmlhgojkmpkkaaDoor
open Go.ChangeShapes Go.WideShapes Go.ChangeAt Go.RowKit Go.Lib
set_option linter.unusedVariables false

theorem itoa_small {m : Nat} (h : m < 10) : itoa (m : Int) = [UInt8.ofNat (48 + m)] := by rw [itoa_nonneg, decDigits, dif_pos h]
theorem ann_name : nameB [97, 110, 110] = true := by decide
theorem handle_ann : handleL [97, 110, 110] 3 = [97, 110, 110, 64, 51] := by
  rw [handle_yes ann_name (by decide) (by decide), show (3 : Int) = ((3 : Nat) : Int) from rfl, itoa_small (by decide)]
  rfl
theorem parse_ann : parseH [97, 110, 110, 64, 51] = some ([97, 110, 110], 3) := by rw [← handle_ann]; exact parse_handle ann_name (by decide) (by decide)
theorem parse_03 : parseI [48, 51] 0 19 = none := by
  have h1 : Lib.atoiAll [48, 51] = .ok 3 := by rfl
  unfold parseI
  rw [h1]
  simp only
  rw [if_neg]
  rintro ⟨h, _⟩
  have h7 := itoa_small (m := 3) (by decide)
  rw [show ((3 : Nat) : Int) = 3 from rfl] at h7
  rw [h7] at h
  simp at h
theorem parse_ann03 : parseH [97, 110, 110, 64, 48, 51] = none := by
  have e : Lib.cut ([97, 110, 110] ++ 64 :: [48, 51]) [64] = ([97, 110, 110], [48, 51], true) := cut_at _ (by decide)
  have e2 : ([97, 110, 110, 64, 48, 51] : List UInt8) = [97, 110, 110] ++ 64 :: [48, 51] := rfl
  unfold parseH
  rw [e2, e]
  simp only
  rw [parse_03]
  simp
theorem ids_two : idsB [[48, 48, 48, 48, 48, 48, 48, 48, 48, 48, 48, 48, 48, 48, 48, 48], [48, 48, 48, 48, 48, 48, 48, 48, 48, 48, 48, 48, 48, 48, 48, 102]] = true := by decide
theorem ofL_length (p : Int) : (ofL p).length = 16 := by
  unfold ofL
  rw [List.length_take, hexL_length, shaL_length]
  rfl
theorem strs_new (w : World) (l : List (List UInt8)) (cs : Array Value) (t : TypeId) (h : cs = (strs l).toArray) : RowAt (w.alloc (.cells cs t)) (some ⟨w.heap.size, 0, none⟩) (strs l) := by
  subst h
  intro _
  refine ⟨w.heap.size, 0, rfl, fun i x hx => ?_⟩
  rw [Nat.zero_add, cell_of_row _ _ i _ _ _ (heap_alloc_new w _)]
  simpa using hx
set_option maxRecDepth 100000 in
set_option maxHeartbeats 2000000 in
theorem small_any (w : World) (hL : LaidA w) : Calls Tryd.prog 9 #[] w (BoolPost w true) := by
  have c1 : ∀ W, LaidA W → Calls Tryd.prog 10 #[.string { data := #[97, 110, 110, 64, 51] }] W (fun e w' => e = .returned (.tuple #[.string { data := #[97, 110, 110] }, .int .i64 3, .bool true]) ∧ Below W.heap.size W w') := fun W hW => by
    have := parse_h [97, 110, 110, 64, 51] W (by decide) hW.i
    rw [parse_ann] at this
    exact this
  have c2 : ∀ W, LaidA W → Calls Tryd.prog 10 #[.string { data := #[97, 110, 110, 64, 48, 51] }] W (fun e w' => e = .returned (.tuple #[.string { data := #[] }, .int .i64 0, .bool false]) ∧ Below W.heap.size W w') := fun W hW => by
    have := parse_h [97, 110, 110, 64, 48, 51] W (by decide) hW.i
    rw [parse_ann03] at this
    exact this
  have c3 : ∀ W, Calls Tryd.prog 14 #[.string { data := #[48, 48, 49, 49, 50, 50, 51, 51, 97, 97, 98, 98, 99, 99, 100, 100] }] W (BoolPost W true) := fun W => right_any [48, 48, 49, 49, 50, 50, 51, 51, 97, 97, 98, 98, 99, 99, 100, 100] W (by decide)
  have c4 : ∀ W, Calls Tryd.prog 14 #[.string { data := #[48, 48, 49, 49, 50, 50, 51, 51, 65, 65, 66, 66, 67, 67, 68, 68] }] W (BoolPost W false) := fun W => right_any [48, 48, 49, 49, 50, 50, 51, 51, 65, 65, 66, 66, 67, 67, 68, 68] W (by decide)
  have c5 : ∀ W, Calls Tryd.prog 16 #[.string { data := #[97, 95, 49] }] W (BoolPost W true) := fun W => name_any [97, 95, 49] W (by decide)
  have c6 : ∀ W, Calls Tryd.prog 16 #[.string { data := #[49, 97] }] W (BoolPost W false) := fun W => name_any [49, 97] W (by decide)
  have c7 : ∀ W, LaidA W → Calls Tryd.prog 18 #[.string { data := #[97, 110, 110] }, .int .i64 3] W (fun e w' => e = .returned (.string { data := #[97, 110, 110, 64, 51] }) ∧ Below W.heap.size W w') := fun W hW => by
    have := handle_any [97, 110, 110] 3 W (by decide) ⟨by decide, by decide⟩ hW.i.base
    rw [handle_ann] at this
    exact this
  have c8 : ∀ W a, RowAt W a (strs [[48, 48, 48, 48, 48, 48, 48, 48, 48, 48, 48, 48, 48, 48, 48, 48], [48, 48, 48, 48, 48, 48, 48, 48, 48, 48, 48, 48, 48, 48, 48, 102]]) → Calls Tryd.prog 20 #[.slice a 2 2] W (BoolPost W true) := fun W a hr => by
    have := ids_any [[48, 48, 48, 48, 48, 48, 48, 48, 48, 48, 48, 48, 48, 48, 48, 48], [48, 48, 48, 48, 48, 48, 48, 48, 48, 48, 48, 48, 48, 48, 48, 102]] a 2 W hr (by decide) (by intro x hx; simp at hx; rcases hx with rfl | rfl <;> decide)
    rw [ids_two] at this
    exact this
  have c9 := fun W (hW : LaidA W) => of_any 37 ⟨by decide, by decide⟩ W hW.s
  have hol := ofL_length 37
  have hos := bs_size (ofL 37)
  rw [hol] at hos
  have t1 : ({ data := #[97, 110, 110, 64, 51] } : ByteArray).toList = [97, 110, 110, 64, 51] := bs_toList _
  have t2 : ({ data := #[97, 110, 110] } : ByteArray).toList = [97, 110, 110] := bs_toList _
  have hnew := fun W => strs_new W [[48, 48, 48, 48, 48, 48, 48, 48, 48, 48, 48, 48, 48, 48, 48, 48], [48, 48, 48, 48, 48, 48, 48, 48, 48, 48, 48, 48, 48, 48, 48, 102]] #[.string { data := #[48, 48, 48, 48, 48, 48, 48, 48, 48, 48, 48, 48, 48, 48, 48, 48] }, .string { data := #[48, 48, 48, 48, 48, 48, 48, 48, 48, 48, 48, 48, 48, 48, 48, 102] }] 9 rfl
  have HNEW := Lib.hid hnew
  clear hnew hol
  generalize ofL 37 = o37 at *
  have hb0 := Below.refl w.heap.size w
  go_enter Tryd.func9, Tryd.ntmps9
  go_wp2_with fail
  (with_reducible refine Calls.mono (c1 _ (hL.below hb0)) ?_)
  rintro e w1 ⟨rfl, hbx⟩
  have hb1 := hb0.trans (hbx.mono hb0.size)
  clear hbx c1
  go_wp2_with fail
  (with_reducible refine Calls.mono (c2 _ (hL.below hb1)) ?_)
  rintro e w2 ⟨rfl, hbx⟩
  have hb2 := hb1.trans (hbx.mono hb1.size)
  clear hbx c2
  go_wp2_with fail
  (with_reducible refine Calls.mono (c3 _) ?_)
  rintro e w3 ⟨rfl, hbx⟩
  have hb3 := hb2.trans (hbx.mono hb2.size)
  clear hbx c3
  go_wp2_with fail
  (with_reducible refine Calls.mono (c4 _) ?_)
  rintro e w4 ⟨rfl, hbx⟩
  have hb4 := hb3.trans (hbx.mono hb3.size)
  clear hbx c4
  go_wp2_with fail
  (with_reducible refine Calls.mono (c5 _) ?_)
  rintro e w5 ⟨rfl, hbx⟩
  have hb5 := hb4.trans (hbx.mono hb4.size)
  clear hbx c5
  go_wp2_with fail
  (with_reducible refine Calls.mono (c6 _) ?_)
  rintro e w6 ⟨rfl, hbx⟩
  have hb6 := hb5.trans (hbx.mono hb5.size)
  clear hbx c6
  go_wp2_with fail
  (with_reducible refine Calls.mono (c7 _ (hL.below hb6)) ?_)
  rintro e w7 ⟨rfl, hbx⟩
  have hb7 := hb6.trans (hbx.mono hb6.size)
  clear hbx c7
  go_wp2_with fail
  have hr8 := HNEW.out w7
  (with_reducible refine Calls.mono (c8 _ _ hr8) ?_)
  rintro e w8 ⟨rfl, hbx⟩
  have hb8 := (hb7.alloc hb7.size _).trans (hbx.mono (by have := hb7.size; simp; omega))
  clear hbx c8 hr8
  go_wp2_with fail
  (with_reducible refine Calls.mono (c9 _ (hL.below hb8)) ?_)
  rintro e w9 ⟨rfl, hbx⟩
  have hb9 := hb8.trans (hbx.mono hb8.size)
  clear hbx c9
  go_wp2
  go_ret
  exact ⟨rfl, hb9⟩
end Go.Proofs.YtgmlhgojkmpkkaaDoor
