/- CodeWrites, walked: it answers true. -/
import Derived.Test.YtckgnmloemnkcaaSmall
namespace Go.Proofs.Ytckgnmloemnkcaa
open Go.ChangeShapes Go.WideShapes Go.ChangeAt Go.RowKit Go.Lib
set_option linter.unusedVariables false

set_option maxRecDepth 100000 in
set_option maxHeartbeats 800000 in
theorem writes_any (n : Int) (s : List UInt8) (l : List (List UInt8)) (m : List Int) (A B : Option Addr) (C D : Nat) (w : World) (h0 : -9223372036854775808 ≤ n) (h1 : n ≤ 9223372036854775807)
    (hl : RowAt w A (strs l)) (hm : RowAt w B (ints m)) (hmw : ∀ x, x ∈ m → -9223372036854775808 ≤ x ∧ x ≤ 9223372036854775807) :
    Calls Try.prog 3 #[.int .i64 n, .string (bs s), .slice A l.length C, .slice B m.length D] w (BoolPost w true) := by
  have cs := small_any w
  have hss := bs_size s
  have cl := fun W hW => light_any l A C W hW
  by_cases hlight : lightB l = false
  · rw [hlight] at cl
    go_enter Try.func3, Try.ntmps3
    go_wp2_with (first | (go_at_call 10; refine cs.mono ?_; rintro e w1 ⟨rfl, hb1⟩) | (go_at_call 11; refine (cl _ (hl.below hb1)).mono ?_; rintro e w2 ⟨rfl, rfl⟩))
    go_ret
    exact ⟨rfl, hb1⟩
  · have hlt : lightB l = true := by simpa using hlight
    rw [hlt] at cl
    have hll : l.length ≤ 100 ∧ ∀ s, s ∈ l → s.length ≤ 1000 := by unfold lightB at hlt; simpa using hlt
    clear hlight hlt
    by_cases hm100 : 100 < m.length
    · go_enter Try.func3, Try.ntmps3
      go_wp2_with (first | (go_at_call 10; refine cs.mono ?_; rintro e w1 ⟨rfl, hb1⟩) | (go_at_call 11; refine (cl _ (hl.below hb1)).mono ?_; rintro e w2 ⟨rfl, rfl⟩))
      go_ret
      exact ⟨rfl, hb1⟩
    · by_cases hs1 : 10000 < s.length
      · go_enter Try.func3, Try.ntmps3
        go_wp2_with (first | (go_at_call 10; refine cs.mono ?_; rintro e w1 ⟨rfl, hb1⟩) | (go_at_call 11; refine (cl _ (hl.below hb1)).mono ?_; rintro e w2 ⟨rfl, rfl⟩))
        go_ret
        exact ⟨rfl, hb1⟩
      · obtain ⟨hl100, hls⟩ := hll
        go_enter Try.func3, Try.ntmps3
        go_wp2_with fail
        refine cs.mono ?_
        rintro e w1 ⟨rfl, hb1⟩
        go_wp2_with fail
        refine (cl _ (hl.below hb1)).mono ?_
        rintro e w2 ⟨rfl, rfl⟩
        go_wp2_with fail
        refine (num_any n w2 h1).mono ?_
        rintro e w3 ⟨rfl, hb3⟩
        go_wp2_with fail
        refine (refnum_any n w3 h1).mono ?_
        rintro e w4 ⟨rfl, hb4⟩
        have hw4 := (hb1.trans (hb3.mono hb1.size)).trans (hb4.mono (Nat.le_trans hb1.size hb3.size))
        clear hb1 hb3 hb4
        go_wp2_with fail
        refine (int_any n w4 h0 h1).mono ?_
        rintro e w5 ⟨rfl, hb5⟩
        go_wp2_with fail
        refine (refint_any n w5 h0 h1).mono ?_
        rintro e w6 ⟨rfl, hb6⟩
        have hw6 := (hw4.trans (hb5.mono hw4.size)).trans (hb6.mono (Nat.le_trans hw4.size hb5.size))
        clear hw4 hb5 hb6
        go_wp2_with fail
        refine (text_any s w6 (by omega)).mono ?_
        rintro e w7 ⟨rfl, hb7⟩
        go_wp2_with fail
        refine (reftext_any s w7 (by omega)).mono ?_
        rintro e w8 ⟨rfl, hb8⟩
        have hw8 := (hw6.trans (hb7.mono hw6.size)).trans (hb8.mono (Nat.le_trans hw6.size hb7.size))
        clear hw6 hb7 hb8
        go_wp2_with fail
        refine (list_any l A C w8 (hl.below hw8) (by omega) (fun x hx => by have := hls x hx; omega)).mono ?_
        rintro e w9 ⟨rfl, hb9⟩
        have hw9 := hw8.trans (hb9.mono hw8.size)
        clear hw8 hb9
        go_wp2_with fail
        refine (reflist_any l A C w9 (hl.below hw9) (by omega) (fun x hx => by have := hls x hx; omega)).mono ?_
        rintro e w10 ⟨rfl, hb10⟩
        have hw10 := hw9.trans (hb10.mono hw9.size)
        clear hw9 hb10
        go_wp2_with fail
        refine (nums_any m B D w10 (hm.below hw10) (by omega) hmw).mono ?_
        rintro e w11 ⟨rfl, hb11⟩
        have hw11 := hw10.trans (hb11.mono hw10.size)
        clear hw10 hb11
        go_wp2_with fail
        refine (refnums_any m B D w11 (hm.below hw11) (by omega) hmw).mono ?_
        rintro e w12 ⟨rfl, hb12⟩
        have hw12 := hw11.trans (hb12.mono hw11.size)
        go_wp2
        go_ret
        exact ⟨rfl, hw12⟩
end Go.Proofs.Ytckgnmloemnkcaa
