/- IdentTells, walked: it answers true. -/
import Derived.Test.YtgmlhgojkmpkkaaDoorSmallI
namespace Go.Proofs.YtgmlhgojkmpkkaaDoor
open Go.ChangeShapes Go.WideShapes Go.ChangeAt Go.RowKit Go.Lib
set_option linter.unusedVariables false

set_option maxRecDepth 100000 in
set_option maxHeartbeats 2000000 in
theorem itells_any (p : Int) (l : List UInt8) (sv : Int) (w : World) (hp : wf64 p) (hl : l.length ≤ 281474976710656) (hsv : wf64 sv) (hL : LaidA w) : Calls Tryd.prog 3 #[.int .i64 p, .string (bs l), .int .i64 sv] w (BoolPost w true) := by
  have cs := fun W hW => small_any W hW
  have hs := bs_size l
  by_cases h : 1000 < l.length
  · have d1 : decide (1000 < (l.length : Int)) = true := decide_eq_true (by omega)
    clear h
    go_enter Tryd.func3, Tryd.ntmps3
    go_wp2_with fail
    refine Calls.mono (cs _ hL) ?_
    rintro e w1 ⟨rfl, hb1⟩
    go_wp2
    go_ret
    exact ⟨rfl, hb1⟩
  · have d1 : decide (1000 < (l.length : Int)) = false := decide_eq_false (by omega)
    have c1 := fun W (hW : LaidA W) => parse_h l W (by omega) hW.i
    have c2 := fun W => rparse_h l W (by omega)
    have c3 := fun W (hW : LaidA W) => of_any p hp W hW.s
    have c4 := fun W => rof_any p hp W
    have c5 := fun W => right_any l W (by omega)
    have c6 := fun W => rright_any l W (by omega)
    have c7 := fun W => name_any l W (by omega)
    have c8 := fun W => rname_any l W (by omega)
    have c9 := fun W (hW : LaidA W) => handle_any l sv W (by omega) hsv hW.i.base
    have c10 := fun W => rhandle_any l sv W (by omega) hsv
    unfold pr3 at c2
    unfold Pr3Post pr3 at c1
    unfold StrPost at c9 c3 c4
    generalize parseH l = o at *
    generalize bs (o.getD ([], 0)).1 = A at *
    generalize (o.getD ([], 0)).2 = n at *
    generalize o.isSome = q at *
    generalize bs (ofL p) = I at *
    generalize rightB l = R at *
    generalize nameB l = M at *
    generalize bs (handleL l sv) = H at *
    generalize bs l = S at *
    have t1 : (A.toList == A.toList) = true := by simp
    have t2 : (n == n) = true := by simp
    have t3 : (q == q) = true := by simp
    have t4 : (I.toList == I.toList) = true := by simp
    have t5 : (R == R) = true := by simp
    have t6 : (M == M) = true := by simp
    have t7 : (H.toList == H.toList) = true := by simp
    clear h
    have hb0 := Below.refl w.heap.size w
    go_enter Tryd.func3, Tryd.ntmps3
    go_wp2_with fail
    (with_reducible refine Calls.mono (cs _ (hL.below hb0)) ?_)
    rintro e w1 ⟨rfl, hbx⟩
    have hb1 := hb0.trans (hbx.mono hb0.size)
    clear hbx
    go_wp2_with fail
    (with_reducible refine Calls.mono (c1 _ (hL.below hb1)) ?_)
    rintro e w2 ⟨rfl, hbx⟩
    have hb2 := hb1.trans (hbx.mono hb1.size)
    clear hbx
    go_wp2_with fail
    (with_reducible refine Calls.mono (c2 _) ?_)
    rintro e w' ⟨rfl, rfl⟩
    go_wp2_with fail
    (with_reducible refine Calls.mono (c3 _ (hL.below hb2)) ?_)
    rintro e w3 ⟨rfl, hbx⟩
    have hb3 := hb2.trans (hbx.mono hb2.size)
    clear hbx
    go_wp2_with fail
    (with_reducible refine Calls.mono (c4 _) ?_)
    rintro e w4 ⟨rfl, hbx⟩
    have hb4 := hb3.trans (hbx.mono hb3.size)
    clear hbx
    go_wp2_with fail
    (with_reducible refine Calls.mono (c5 _) ?_)
    rintro e w5 ⟨rfl, hbx⟩
    have hb5 := hb4.trans (hbx.mono hb4.size)
    clear hbx
    go_wp2_with fail
    (with_reducible refine Calls.mono (c6 _) ?_)
    rintro e w' ⟨rfl, rfl⟩
    go_wp2_with fail
    (with_reducible refine Calls.mono (c7 _) ?_)
    rintro e w6 ⟨rfl, hbx⟩
    have hb6 := hb5.trans (hbx.mono hb5.size)
    clear hbx
    go_wp2_with fail
    (with_reducible refine Calls.mono (c8 _) ?_)
    rintro e w' ⟨rfl, rfl⟩
    go_wp2_with fail
    (with_reducible refine Calls.mono (c9 _ (hL.below hb6)) ?_)
    rintro e w7 ⟨rfl, hbx⟩
    have hb7 := hb6.trans (hbx.mono hb6.size)
    clear hbx
    go_wp2_with fail
    (with_reducible refine Calls.mono (c10 _) ?_)
    rintro e w' ⟨rfl, rfl⟩
    go_wp2
    go_ret
    exact ⟨rfl, hb7⟩
end Go.Proofs.YtgmlhgojkmpkkaaDoor
