/- small, walked: it answers true. -/
import Derived.Test.YthbnjlpiehlcfaaDoorNum4
namespace Go.Proofs.YthbnjlpiehlcfaaDoor
open Go.ChangeShapes Go.WideShapes Go.ChangeAt Go.RowKit Go.Lib
set_option linter.unusedVariables false

theorem itoa_m7 : Lib.itoa (-7) = [45, 55] := by
  unfold Lib.itoa
  rw [if_pos (by decide)]
  show 45 :: decDigits 7 = _
  rw [decDigits, dif_pos (by decide)]
  rfl
theorem itoa_7 : Lib.itoa 7 = [55] := by
  unfold Lib.itoa
  rw [if_neg (by decide)]
  show decDigits 7 = _
  rw [decDigits, dif_pos (by decide)]
  rfl
theorem itoa_0 : Lib.itoa 0 = [48] := by
  unfold Lib.itoa
  rw [if_neg (by decide)]
  show decDigits 0 = _
  rw [decDigits, dif_pos (by decide)]
  rfl
theorem atoi_1 : Lib.atoiAll [45, 55] = .ok (-7) := by rfl
theorem atoi_2 : Lib.atoiAll [48, 55] = .ok 7 := by rfl
theorem atoi_3 : Lib.atoiAll [45, 48] = .ok 0 := by rfl
theorem parse_1 : parseI [45, 55] (-9) 9 = some (-7) := by unfold parseI; rw [atoi_1]; simp only; rw [itoa_m7, if_pos (by decide)]
theorem parse_2 : parseI [48, 55] 0 9 = none := by unfold parseI; rw [atoi_2]; simp only; rw [itoa_7, if_neg (by decide)]
theorem parse_3 : parseI [45, 48] (-1) 1 = none := by unfold parseI; rw [atoi_3]; simp only; rw [itoa_0, if_neg (by decide)]
def BoolPost (w : World) (b : Bool) (e : Ending) (w' : World) : Prop := e = .returned (.bool b) ∧ Below w.heap.size w w'
theorem wf_lit {a : Int} (h : -9223372036854775808 ≤ a) (h1 : a ≤ 9223372036854775807) : wf64 a := ⟨h, h1⟩
set_option maxRecDepth 100000 in
set_option maxHeartbeats 800000 in
theorem small_any (w : World) (hL : Laid w) : Calls Tryd.prog 8 #[] w (BoolPost w true) := by
  have t1 := bs_toList [45, 55]
  go_enter Tryd.func8, Tryd.ntmps8
  go_wp2_with fail
  have c1 := parse_any [45, 55] (-9) 9 w (by decide) hL
  rw [parse_1] at c1
  refine (Calls.mono c1 ?_)
  rintro e w1 ⟨rfl, hb1⟩
  have hL1 := hL.below hb1
  clear c1
  have c1 := parse_any [48, 55] 0 9 w1 (by decide) hL1
  rw [parse_2] at c1
  go_wp2_with fail
  refine (Calls.mono c1 ?_)
  rintro e w2 ⟨rfl, hb2⟩
  have hb := hb1.trans (hb2.mono hb1.size)
  have hL2 := hL1.below hb2
  clear c1 hb1 hb2 hL1
  have c1 := parse_any [45, 48] (-1) 1 w2 (by decide) hL2
  rw [parse_3] at c1
  go_wp2_with fail
  refine (Calls.mono c1 ?_)
  rintro e w3 ⟨rfl, hb3⟩
  have hb4 := hb.trans (hb3.mono hb.size)
  have hL3 := hL2.below hb3
  clear c1 hb hb3 hL2
  have c1 := div_any (-7) 2 w3 (by unfold wf64; decide) (by unfold wf64; decide)
  go_wp2_with fail
  refine (Calls.mono c1 ?_)
  rintro e w4 ⟨rfl, hb5⟩
  have hb := hb4.trans (hb5.mono hb4.size)
  have hL4 := hL3.below hb5
  clear c1 hb4 hb5 hL3
  have c1 := mod_any (-7) 2 w4 (by unfold wf64; decide) (by unfold wf64; decide)
  go_wp2_with fail
  refine (Calls.mono c1 ?_)
  rintro e w5 ⟨rfl, hb5⟩
  have hb4 := hb.trans (hb5.mono hb.size)
  have hL5 := hL4.below hb5
  clear c1 hb hb5 hL4
  have c1 := div_any 1 0 w5 (by unfold wf64; decide) (by unfold wf64; decide)
  go_wp2_with fail
  refine (Calls.mono c1 ?_)
  rintro e w6 ⟨rfl, hb5⟩
  have hb := hb4.trans (hb5.mono hb4.size)
  have hL6 := hL5.below hb5
  clear c1 hb4 hb5 hL5
  have c1 := text_any (-7) w6 (by unfold wf64; decide) hL6
  rw [itoa_m7] at c1
  go_wp2_with fail
  refine (Calls.mono c1 ?_)
  rintro e w7 ⟨rfl, hb5⟩
  have hb4 := hb.trans (hb5.mono hb.size)
  clear c1 hb hb5 hL6
  have q1 : (if (2 : Int) = 0 then 0 else limI ((-7 : Int).tdiv 2)) = -3 := by rfl
  have q2 : (if (2 : Int) = 0 then 0 else limI ((-7 : Int).tmod 2)) = -1 := by rfl
  have q3 : limI (1125899906842624 + 1) = 1125899906842624 := by rfl
  have q4 : limI (-1125899906842624 - 1) = -1125899906842624 := by rfl
  have q5 : limI (1125899906842624 * -2) = -1125899906842624 := by rfl
  have q6 : clampI 3 5 4 = 5 := by rfl
  have c1 := add_any 1125899906842624 1 w7 (by unfold wf64; decide) (by unfold wf64; decide)
  have c3 := fun W => mul_any 1125899906842624 (-2) W (by unfold wf64; decide) (by unfold wf64; decide)
  have c2 := fun W => sub_any (-1125899906842624) 1 W (by unfold wf64; decide) (by unfold wf64; decide)
  rw [q3] at c1
  rw [q4] at c2
  rw [q5] at c3
  clear q3 q4 q5
  go_wp2_with fail
  refine (Calls.mono c1 ?_)
  rintro e w8 ⟨rfl, hb5⟩
  have hb := hb4.trans (hb5.mono hb4.size)
  clear c1 hb4 hb5
  go_wp2_with fail
  refine (Calls.mono (c2 w8) ?_)
  rintro e w9 ⟨rfl, hb5⟩
  have hb4 := hb.trans (hb5.mono hb.size)
  clear c2 hb hb5
  go_wp2_with fail
  refine (Calls.mono (c3 w9) ?_)
  rintro e w10 ⟨rfl, hb5⟩
  have hb := hb4.trans (hb5.mono hb4.size)
  clear c3 hb4 hb5
  go_wp2_with fail
  refine (clamp_any 3 5 4 w10).mono ?_
  rintro e w11 ⟨rfl, rfl⟩
  go_wp2
  go_ret
  exact ⟨rfl, hb⟩
end Go.Proofs.YthbnjlpiehlcfaaDoor
