/- IdentApart, walked: it answers true. -/
import Derived.Test.YtgmlhgojkmpkkaaDoorSmallI
import Derived.Deep.RegionHeld3
namespace Go.Proofs.YtgmlhgojkmpkkaaDoor
open Go.ChangeShapes Go.WideShapes Go.ChangeAt Go.RowKit Go.Lib
set_option linter.unusedVariables false

theorem below_next {w wp w' : World} (h1 : Below w.heap.size w wp) (h2 : Below wp.heap.size wp w') : Below w.heap.size w w' := h1.trans (h2.mono h1.size)
theorem ofL_right (p : Int) : rightB (ofL p) = true := of_right _
theorem ofL_eq (a b : Int) : ofL a = ofL b ↔ (shaL (actL a)).take 8 = (shaL (actL b)).take 8 := of_eq _ _
set_option maxRecDepth 100000 in
set_option maxHeartbeats 2000000 in
theorem iapart_any (a b : Int) (w : World) (ha : wf64 a) (hb : wf64 b) (hL : LaidA w) : Calls Tryd.prog 6 #[.int .i64 a, .int .i64 b] w (BoolPost w true) := by
  have cs := fun W hW => small_any W hW
  have c1 : ∀ W, Calls Tryd.prog 23 #[.string { data := #[97, 99, 116, 111, 114] }] W (StrPost W (textL actorB)) := fun W => enc_text actorB W (by decide)
  have c2 : ∀ W, Calls Tryd.prog 24 #[.int .i64 a] W (StrPost W (numI a)) := fun W => enc_num a W ha.2
  have c3 : ∀ W, Calls Tryd.prog 24 #[.int .i64 b] W (StrPost W (numI b)) := fun W => enc_num b W hb.2
  have j1 := bs_append (textL actorB) (numI a)
  have j2 := bs_append (textL actorB) (numI b)
  rw [show textL actorB ++ numI a = actL a from rfl] at j1
  rw [show textL actorB ++ numI b = actL b from rfl] at j2
  have e6 : (textL actorB).length = 6 := by decide
  have n1 : ¬ (9223372036854775807 < (bs (textL actorB)).size + (bs (numI a)).size) := by
    rw [bs_size, bs_size]; have := numI_length a; omega
  have n2 : ¬ (9223372036854775807 < (bs (textL actorB)).size + (bs (numI b)).size) := by
    rw [bs_size, bs_size]; have := numI_length b; omega
  have la := actL_length a
  have lb := actL_length b
  have c4 : ∀ W, LaidA W → Calls Tryd.prog 22 #[.string (bs (actL a))] W (StrPost W (shaL (actL a))) := fun W hW => sha_any (actL a) (by omega) W hW.s
  have c5 : ∀ W, LaidA W → Calls Tryd.prog 22 #[.string (bs (actL b))] W (StrPost W (shaL (actL b))) := fun W hW => sha_any (actL b) (by omega) W hW.s
  have s1 := bs_size (shaL (actL a))
  rw [shaL_length] at s1
  have s2 := bs_size (shaL (actL b))
  rw [shaL_length] at s2
  have k1 : ∀ W, LaidA W → Calls Tryd.prog 12 #[.int .i64 a] W (StrPost W (ofL a)) := fun W hW => of_any a ha W hW.s
  have k2 : ∀ W, LaidA W → Calls Tryd.prog 12 #[.int .i64 b] W (StrPost W (ofL b)) := fun W hW => of_any b hb W hW.s
  have k3 : ∀ W, Calls Tryd.prog 14 #[.string (bs (ofL a))] W (BoolPost W true) := fun W => by
    have := right_any (ofL a) W (by rw [ofL_length]; omega)
    rw [ofL_right] at this
    exact this
  have k4 : ∀ W, Calls Tryd.prog 14 #[.string (bs (ofL b))] W (BoolPost W true) := fun W => by
    have := right_any (ofL b) W (by rw [ofL_length]; omega)
    rw [ofL_right] at this
    exact this
  have x1 : ∀ W, (Instr.slice 9 (.string (bs (shaL (actL a)))) none (some (.int .i64 8)) none).run Tryd.prog W = .ok (.string (bs ((shaL (actL a)).take 8))) W := fun W => slice_to _ 8 (by rw [shaL_length]; omega) 8 rfl W
  have x2 : ∀ W, (Instr.slice 9 (.string (bs (shaL (actL b)))) none (some (.int .i64 8)) none).run Tryd.prog W = .ok (.string (bs ((shaL (actL b)).take 8))) W := fun W => slice_to _ 8 (by rw [shaL_length]; omega) 8 rfl W
  have t1 := bs_toList (ofL a)
  have t2 := bs_toList (ofL b)
  have t3 := bs_toList ((shaL (actL a)).take 8)
  have t4 := bs_toList ((shaL (actL b)).take 8)
  have teq : (ofL a == ofL b) = ((shaL (actL a)).take 8 == (shaL (actL b)).take 8) := by
    rw [Bool.eq_iff_iff, beq_iff_eq, beq_iff_eq]
    exact ofL_eq a b
  obtain ⟨q, hq⟩ : ∃ q, ((shaL (actL a)).take 8 == (shaL (actL b)).take 8) = q := ⟨_, rfl⟩
  rw [hq] at teq
  have tq : (q == q) = true := by simp
  unfold StrPost at c1 c2 c3 c4 c5 k1 k2
  clear la lb e6
  generalize textL actorB = T at *
  generalize (shaL (actL a)).take 8 = P1 at *
  generalize (shaL (actL b)).take 8 = P2 at *
  generalize shaL (actL a) = D1 at *
  generalize shaL (actL b) = D2 at *
  generalize actL a = A1 at *
  generalize actL b = A2 at *
  generalize numI a = N1 at *
  generalize numI b = N2 at *
  generalize ofL a = O1 at *
  generalize ofL b = O2 at *
  have hb0 := Below.refl w.heap.size w
  go_enter Tryd.func6, Tryd.ntmps6
  go_wp2_with fail
  (with_reducible refine Calls.mono (cs _ (hL.below hb0)) ?_)
  rintro e w1 ⟨rfl, hbx⟩
  have hb1 := hb0.trans (hbx.mono hb0.size)
  clear hbx cs
  go_wp2_with fail
  (with_reducible refine Calls.mono (c1 _) ?_)
  rintro e w2 ⟨rfl, hbx⟩
  have hb2 := hb1.trans (hbx.mono hb1.size)
  clear hbx
  go_wp2_with fail
  (with_reducible refine Calls.mono (c2 _) ?_)
  rintro e w3 ⟨rfl, hbx⟩
  have hb3 := hb2.trans (hbx.mono hb2.size)
  clear hbx
  go_wp2_with fail
  (with_reducible refine Calls.mono (c4 _ (hL.below hb3)) ?_)
  rintro e w4 ⟨rfl, hbx⟩
  have hb4 := hb3.trans (hbx.mono hb3.size)
  clear hbx
  go_wp2_with fail
  (with_reducible refine Calls.mono (c1 _) ?_)
  rintro e w5 ⟨rfl, hbx⟩
  have hb5 := hb4.trans (hbx.mono hb4.size)
  clear hbx
  go_wp2_with fail
  (with_reducible refine Calls.mono (c3 _) ?_)
  rintro e w6 ⟨rfl, hbx⟩
  have hb6 := hb5.trans (hbx.mono hb5.size)
  clear hbx
  go_wp2_with fail
  (with_reducible refine Calls.mono (c5 _ (hL.below hb6)) ?_)
  rintro e w7 ⟨rfl, hbx⟩
  have hb7 := hb6.trans (hbx.mono hb6.size)
  clear hbx hb1 hb2 hb3 hb4 hb5 hb6 c1 c2 c3 c4 c5
  go_wp2
  go_region_held3 (fun w' => Below w.heap.size w w') (first | exact hb7.drew | exact hb7 | go_keep | exact below_next (by assumption) hbx) (first
    | (go_at_call 12; (with_reducible refine Calls.mono (k1 _ (hL.below (by assumption))) ?_); rintro e w' ⟨rfl, hbx⟩)
    | (go_at_call 12; (with_reducible refine Calls.mono (k2 _ (hL.below (by assumption))) ?_); rintro e w' ⟨rfl, hbx⟩)
    | (go_at_call 14; (with_reducible refine Calls.mono (k3 _) ?_); rintro e w' ⟨rfl, hbx⟩)
    | (go_at_call 14; (with_reducible refine Calls.mono (k4 _) ?_); rintro e w' ⟨rfl, hbx⟩))
  all_goals
    go_wp2
    go_ret
    exact ⟨rfl, by first | assumption | exact below_next (by assumption) hbx⟩
end Go.Proofs.YtgmlhgojkmpkkaaDoor
