/- IdentNames, walked: it answers true. -/
import Derived.Test.YtgmlhgojkmpkkaaDoorSmallI
namespace Go.Proofs.YtgmlhgojkmpkkaaDoor
open Go.ChangeShapes Go.WideShapes Go.ChangeAt Go.RowKit Go.Lib
set_option linter.unusedVariables false

set_option maxRecDepth 100000 in
set_option maxHeartbeats 2000000 in
theorem inames_any (l : List UInt8) (n sv : Int) (w : World) (hl : l.length ≤ 281474976710656) (hn : wf64 n) (hsv : wf64 sv) (hL : LaidA w) : Calls Tryd.prog 8 #[.string (bs l), .int .i64 n, .int .i64 sv] w (BoolPost w true) := by
  have cs := fun W hW => small_any W hW
  have hs := bs_size l
  have hb0 := Below.refl w.heap.size w
  by_cases h : 1000 < l.length
  · have d1 : decide (1000 < (l.length : Int)) = true := decide_eq_true (by omega)
    clear h
    go_enter Tryd.func8, Tryd.ntmps8
    go_wp2_with fail
    (with_reducible refine Calls.mono (cs _ (hL.below hb0)) ?_)
    rintro e w1 ⟨rfl, hbx⟩
    have hb1 := hb0.trans (hbx.mono hb0.size)
    clear hbx
    go_wp2
    go_ret
    exact ⟨rfl, hb1⟩
  have d1 : decide (1000 < (l.length : Int)) = false := decide_eq_false (by omega)
  have c1 := fun W => name_any l W (by omega)
  cases hb : nameB l with
  | false =>
    rw [hb] at c1
    clear h hb
    go_enter Tryd.func8, Tryd.ntmps8
    go_wp2_with fail
    (with_reducible refine Calls.mono (cs _ (hL.below hb0)) ?_)
    rintro e w1 ⟨rfl, hbx⟩
    have hb1 := hb0.trans (hbx.mono hb0.size)
    clear hbx
    go_wp2_with fail
    (with_reducible refine Calls.mono (c1 _) ?_)
    rintro e w2 ⟨rfl, hbx⟩
    have hb2 := hb1.trans (hbx.mono hb1.size)
    clear hbx
    go_wp2
    go_ret
    exact ⟨rfl, hb2⟩
  | true =>
    rw [hb] at c1
    have hlen := name_len hb
    have hne := name_ne hb
    have hpos : 0 < l.length := List.length_pos_iff.2 hne
    have c2 : ∀ W, LaidA W → Calls Tryd.prog 10 #[.string (bs l)] W (fun e w' => e = .returned (.tuple #[.string { data := #[] }, .int .i64 0, .bool false]) ∧ Below W.heap.size W w') := fun W hW => by
      have := parse_h l W (by omega) hW.i
      rw [parse_name hb] at this
      exact this
    have c4 := fun W (hW : LaidA W) => handle_any l sv W (by omega) hsv hW.i.base
    have hhl : (handleL l sv).length ≤ 100 := by
      unfold handleL
      split
      · have := itoa_length hsv.1 hsv.2
        rw [List.length_append, List.length_cons]
        omega
      · simp
    have c5 : ∀ W, Calls Tryd.prog 16 #[.string (bs (handleL l sv))] W (BoolPost W false) := fun W => by
      have := name_any (handleL l sv) W (by omega)
      rw [name_handle] at this
      exact this
    have t0 : (l == []) = false := by cases l with | nil => exact absurd rfl hne | cons a r => rfl
    have t1 : l.isEmpty = false := by cases l with | nil => exact absurd rfl hne | cons a r => rfl
    have hlt := bs_toList l
    have c3 : ∀ (m : Nat), 1 ≤ m → m ≤ l.length → (∀ W, (Instr.slice 9 (.string (bs l)) none (some (.int .i64 (m : Int))) none).run Tryd.prog W = .ok (.string (bs (l.take m))) W) ∧ (∀ W, Calls Tryd.prog 16 #[.string (bs (l.take m))] W (BoolPost W true)) ∧ (bs l).extract 0 m = bs (l.take m) := fun m h1 h2 => by
      refine ⟨fun W => slice_to l m h2 m rfl W, fun W => ?_, by rw [bs_extract, Nat.sub_zero, List.drop_zero]⟩
      have := name_any (l.take m) W (by rw [List.length_take]; omega)
      rw [name_take hb h1] at this
      exact this
    unfold StrPost at c4
    generalize handleL l sv = H at *
    clear h hb hhl
    by_cases h1 : n < 1
    · have d2 : decide (n < 1) = true := decide_eq_true h1
      obtain ⟨s1, s2, s3⟩ := c3 1 (by omega) (by omega)
      clear c3 h1 hne
      generalize l.take 1 = p at *
      rw [show ((1 : Nat) : Int) = 1 from rfl] at s1
      go_enter Tryd.func8, Tryd.ntmps8
      go_wp2_with fail
      (with_reducible refine Calls.mono (cs _ (hL.below hb0)) ?_)
      rintro e w1 ⟨rfl, hbx⟩
      have hb1 := hb0.trans (hbx.mono hb0.size)
      clear hbx
      go_wp2_with fail
      refine Calls.mono (c1 _) ?_
      rintro e w2 ⟨rfl, hbx⟩
      have hb2 := hb1.trans (hbx.mono hb1.size)
      clear hbx
      go_wp2_with fail
      (with_reducible refine Calls.mono (c2 _ (hL.below hb2)) ?_)
      rintro e w3 ⟨rfl, hbx⟩
      have hb3 := hb2.trans (hbx.mono hb2.size)
      clear hbx
      go_wp2_with fail
      refine Calls.mono (s2 _) ?_
      rintro e w4 ⟨rfl, hbx⟩
      have hb4 := hb3.trans (hbx.mono hb3.size)
      clear hbx
      go_wp2_with fail
      (with_reducible refine Calls.mono (c4 _ (hL.below hb4)) ?_)
      rintro e w5 ⟨rfl, hbx⟩
      have hb5 := hb4.trans (hbx.mono hb4.size)
      clear hbx
      go_wp2_with fail
      refine Calls.mono (c5 _) ?_
      rintro e w6 ⟨rfl, hbx⟩
      have hb6 := hb5.trans (hbx.mono hb5.size)
      clear hbx
      go_wp2
      go_ret
      exact ⟨rfl, hb6⟩
    have d2 : decide (n < 1) = false := decide_eq_false h1
    by_cases h2 : (l.length : Int) < n
    · have d3 : decide ((l.length : Int) < n) = true := decide_eq_true h2
      obtain ⟨s1, s2, s3⟩ := c3 1 (by omega) (by omega)
      clear c3 h1 h2 hne
      generalize l.take 1 = p at *
      rw [show ((1 : Nat) : Int) = 1 from rfl] at s1
      go_enter Tryd.func8, Tryd.ntmps8
      go_wp2_with fail
      (with_reducible refine Calls.mono (cs _ (hL.below hb0)) ?_)
      rintro e w1 ⟨rfl, hbx⟩
      have hb1 := hb0.trans (hbx.mono hb0.size)
      clear hbx
      go_wp2_with fail
      refine Calls.mono (c1 _) ?_
      rintro e w2 ⟨rfl, hbx⟩
      have hb2 := hb1.trans (hbx.mono hb1.size)
      clear hbx
      go_wp2_with fail
      (with_reducible refine Calls.mono (c2 _ (hL.below hb2)) ?_)
      rintro e w3 ⟨rfl, hbx⟩
      have hb3 := hb2.trans (hbx.mono hb2.size)
      clear hbx
      go_wp2_with fail
      refine Calls.mono (s2 _) ?_
      rintro e w4 ⟨rfl, hbx⟩
      have hb4 := hb3.trans (hbx.mono hb3.size)
      clear hbx
      go_wp2_with fail
      (with_reducible refine Calls.mono (c4 _ (hL.below hb4)) ?_)
      rintro e w5 ⟨rfl, hbx⟩
      have hb5 := hb4.trans (hbx.mono hb4.size)
      clear hbx
      go_wp2_with fail
      refine Calls.mono (c5 _) ?_
      rintro e w6 ⟨rfl, hbx⟩
      have hb6 := hb5.trans (hbx.mono hb5.size)
      clear hbx
      go_wp2
      go_ret
      exact ⟨rfl, hb6⟩
    · obtain ⟨m, rfl⟩ : ∃ m : Nat, n = m := ⟨n.toNat, by omega⟩
      have d3 : decide ((l.length : Int) < (m : Int)) = false := decide_eq_false h2
      have d4 : decide (l.length < m) = false := decide_eq_false (by omega)
      have hm1 : m ≤ l.length := by omega
      obtain ⟨s1, s2, s3⟩ := c3 m (by omega) (by omega)
      clear c3 h1 h2 hne
      generalize l.take m = p at *
      go_enter Tryd.func8, Tryd.ntmps8
      go_wp2_with fail
      (with_reducible refine Calls.mono (cs _ (hL.below hb0)) ?_)
      rintro e w1 ⟨rfl, hbx⟩
      have hb1 := hb0.trans (hbx.mono hb0.size)
      clear hbx
      go_wp2_with fail
      refine Calls.mono (c1 _) ?_
      rintro e w2 ⟨rfl, hbx⟩
      have hb2 := hb1.trans (hbx.mono hb1.size)
      clear hbx
      go_wp2_with fail
      (with_reducible refine Calls.mono (c2 _ (hL.below hb2)) ?_)
      rintro e w3 ⟨rfl, hbx⟩
      have hb3 := hb2.trans (hbx.mono hb2.size)
      clear hbx
      go_wp2_with fail
      refine Calls.mono (s2 _) ?_
      rintro e w4 ⟨rfl, hbx⟩
      have hb4 := hb3.trans (hbx.mono hb3.size)
      clear hbx
      go_wp2_with fail
      (with_reducible refine Calls.mono (c4 _ (hL.below hb4)) ?_)
      rintro e w5 ⟨rfl, hbx⟩
      have hb5 := hb4.trans (hbx.mono hb4.size)
      clear hbx
      go_wp2_with fail
      refine Calls.mono (c5 _) ?_
      rintro e w6 ⟨rfl, hbx⟩
      have hb6 := hb5.trans (hbx.mono hb5.size)
      clear hbx
      go_wp2
      go_ret
      exact ⟨rfl, hb6⟩
end Go.Proofs.YtgmlhgojkmpkkaaDoor
