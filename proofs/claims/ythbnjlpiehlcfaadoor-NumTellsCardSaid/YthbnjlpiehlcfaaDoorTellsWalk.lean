/- NumTells, walked: it answers true. -/
import Derived.Test.YthbnjlpiehlcfaaDoorRefParse
namespace Go.Proofs.YthbnjlpiehlcfaaDoor
open Go.ChangeShapes Go.WideShapes Go.ChangeAt Go.RowKit Go.Lib
set_option linter.unusedVariables false

set_option maxRecDepth 100000 in
set_option maxHeartbeats 1600000 in
theorem tells_in (a b c X D M C A S U : Int) (o1 o2 o3 : Bool) (s t : List UInt8) (w : World) (hL : Laid w) (cs : Calls Tryd.prog 8 #[] w (BoolPost w true))
    (cP : ∀ W, Laid W → Calls Tryd.prog 9 #[.string (bs s), .int .i64 a, .int .i64 b] W (TwoPost W X o1)) (rP : ∀ W, Calls Tryd.prog 10 #[.string (bs s), .int .i64 a, .int .i64 b] W (Same (.tuple #[.int .i64 X, .bool o1]) W))
    (cD : ∀ W, Calls Tryd.prog 11 #[.int .i64 a, .int .i64 b] W (TwoPost W D o2)) (rD : ∀ W, Calls Tryd.prog 12 #[.int .i64 a, .int .i64 b] W (Same (.tuple #[.int .i64 D, .bool o2]) W))
    (cM : ∀ W, Calls Tryd.prog 13 #[.int .i64 a, .int .i64 b] W (TwoPost W M o3)) (rM : ∀ W, Calls Tryd.prog 14 #[.int .i64 a, .int .i64 b] W (Same (.tuple #[.int .i64 M, .bool o3]) W))
    (cT : ∀ W, Laid W → Calls Tryd.prog 15 #[.int .i64 a] W (StrPost W t)) (rT : ∀ W, Calls Tryd.prog 16 #[.int .i64 a] W (Same (.string (bs t)) W))
    (cC : ∀ W, Calls Tryd.prog 17 #[.int .i64 a, .int .i64 b, .int .i64 c] W (fun e w' => e = .returned (.int .i64 C) ∧ W = w')) (rC : ∀ W, Calls Tryd.prog 18 #[.int .i64 a, .int .i64 b, .int .i64 c] W (Same (.int .i64 C) W))
    (cA : ∀ W, Calls Tryd.prog 19 #[.int .i64 a, .int .i64 b] W (IntPost W A)) (rA : ∀ W, Calls Tryd.prog 20 #[.int .i64 a, .int .i64 b] W (Same (.int .i64 A) W))
    (cS : ∀ W, Calls Tryd.prog 21 #[.int .i64 a, .int .i64 b] W (IntPost W S)) (rS : ∀ W, Calls Tryd.prog 22 #[.int .i64 a, .int .i64 b] W (Same (.int .i64 S) W))
    (cU : ∀ W, Calls Tryd.prog 23 #[.int .i64 a, .int .i64 b] W (IntPost W U)) (rU : ∀ W, Calls Tryd.prog 24 #[.int .i64 a, .int .i64 b] W (Same (.int .i64 U) W)) :
    Calls Tryd.prog 3 #[.int .i64 a, .int .i64 b, .int .i64 c, .string (bs s)] w (BoolPost w true) := by
  have hb0 := Below.refl w.heap.size w
  have tl := bs_toList t
  go_enter Tryd.func3, Tryd.ntmps3
  go_wp2_with fail
  refine (cs).mono ?_
  rintro e v1 ⟨rfl, hbx⟩
  have hb1 := hb0.trans (hbx.mono hb0.size)
  clear hbx hb0
  go_wp2_with fail
  refine (cP _ (hL.below hb1)).mono ?_
  rintro e v2 ⟨rfl, hbx⟩
  have hb2 := hb1.trans (hbx.mono hb1.size)
  clear hbx hb1
  go_wp2_with fail
  refine (rP _).mono ?_
  rintro e w3 ⟨rfl, rfl⟩
  go_wp2_with fail
  refine (cD _).mono ?_
  rintro e v4 ⟨rfl, hbx⟩
  have hb4 := hb2.trans (hbx.mono hb2.size)
  clear hbx hb2
  go_wp2_with fail
  refine (rD _).mono ?_
  rintro e w5 ⟨rfl, rfl⟩
  go_wp2_with fail
  refine (cM _).mono ?_
  rintro e v6 ⟨rfl, hbx⟩
  have hb6 := hb4.trans (hbx.mono hb4.size)
  clear hbx hb4
  go_wp2_with fail
  refine (rM _).mono ?_
  rintro e w7 ⟨rfl, rfl⟩
  go_wp2_with fail
  refine (cT _ (hL.below hb6)).mono ?_
  rintro e v8 ⟨rfl, hbx⟩
  have hb8 := hb6.trans (hbx.mono hb6.size)
  clear hbx hb6
  go_wp2_with fail
  refine (rT _).mono ?_
  rintro e w9 ⟨rfl, rfl⟩
  go_wp2_with fail
  refine (cC _).mono ?_
  rintro e w10 ⟨rfl, rfl⟩
  go_wp2_with fail
  refine (rC _).mono ?_
  rintro e w11 ⟨rfl, rfl⟩
  go_wp2_with fail
  refine (cA _).mono ?_
  rintro e v12 ⟨rfl, hbx⟩
  have hb12 := hb8.trans (hbx.mono hb8.size)
  clear hbx hb8
  go_wp2_with fail
  refine (rA _).mono ?_
  rintro e w13 ⟨rfl, rfl⟩
  go_wp2_with fail
  refine (cS _).mono ?_
  rintro e v14 ⟨rfl, hbx⟩
  have hb14 := hb12.trans (hbx.mono hb12.size)
  clear hbx hb12
  go_wp2_with fail
  refine (rS _).mono ?_
  rintro e w15 ⟨rfl, rfl⟩
  go_wp2_with fail
  refine (cU _).mono ?_
  rintro e v16 ⟨rfl, hbx⟩
  have hb16 := hb14.trans (hbx.mono hb14.size)
  clear hbx hb14
  go_wp2_with fail
  refine (rU _).mono ?_
  rintro e w17 ⟨rfl, rfl⟩
  go_wp2
  go_ret
  exact ⟨rfl, hb16⟩
theorem opt_tuple (o : Option Int) : optT o = .tuple #[.int .i64 (o.getD 0), .bool o.isSome] := by cases o <;> rfl
theorem tells_any (a b c : Int) (s : List UInt8) (w : World) (wa : wf64 a) (wb : wf64 b) (wc : wf64 c) (hs : s.length ≤ 281474976710656) (hL : Laid w) : Calls Tryd.prog 3 #[.int .i64 a, .int .i64 b, .int .i64 c, .string (bs s)] w (BoolPost w true) := by
  have rP := fun W => rparse_any s a b W hs
  rw [ref_eq, opt_tuple] at rP
  exact tells_in a b c _ _ _ _ _ _ _ _ _ _ s _ w hL (small_any w hL) (fun W h => parse_any s a b W hs h) rP (fun W => div_any a b W wa wb) (fun W => rdiv_any a b W wa wb)
    (fun W => mod_any a b W wa wb) (fun W => rmod_any a b W wa wb) (fun W h => text_any a W wa h) (fun W => rtext_any a W wa) (fun W => clamp_any a b c W) (fun W => rclamp_any a b c W)
    (fun W => add_any a b W wa wb) (fun W => radd_any a b W wa wb) (fun W => sub_any a b W wa wb) (fun W => rsub_any a b W wa wb) (fun W => mul_any a b W wa wb) (fun W => rmul_any a b W wa wb)
end Go.Proofs.YthbnjlpiehlcfaaDoor
