/- IdentBack, walked: it answers true. -/
import Derived.Test.YtgmlhgojkmpkkaaDoorSmallI
namespace Go.Proofs.YtgmlhgojkmpkkaaDoor
open Go.ChangeShapes Go.WideShapes Go.ChangeAt Go.RowKit Go.Lib
set_option linter.unusedVariables false

set_option maxRecDepth 100000 in
set_option maxHeartbeats 2000000 in
theorem iback_long1 (n : List UInt8) (sv : Int) (s : List UInt8) (w : World) (hn : n.length ≤ 281474976710656) (hsv : wf64 sv) (hs : s.length ≤ 281474976710656) (h : 1000 < n.length) (hL : LaidA w) : Calls Tryd.prog 5 #[.string (bs n), .int .i64 sv, .string (bs s)] w (BoolPost w true) := by
  have cs := fun W hW => small_any W hW
  have z1 := bs_size n
  have z2 := bs_size s
  have hb0 := Below.refl w.heap.size w
  have d1 : decide (1000 < (n.length : Int)) = true := decide_eq_true (by omega)
  clear h
  go_enter Tryd.func5, Tryd.ntmps5
  go_wp2_with fail
  (with_reducible refine Calls.mono (cs _ (hL.below hb0)) ?_)
  rintro e w1 ⟨rfl, hbx⟩
  have hb1 := hb0.trans (hbx.mono hb0.size)
  clear hbx
  go_wp2
  go_ret
  exact ⟨rfl, hb1⟩
set_option maxRecDepth 100000 in
set_option maxHeartbeats 2000000 in
theorem iback_long2 (n : List UInt8) (sv : Int) (s : List UInt8) (w : World) (hn : n.length ≤ 281474976710656) (hsv : wf64 sv) (hs : s.length ≤ 281474976710656) (h : ¬ 1000 < n.length) (h' : 1000 < s.length) (hL : LaidA w) : Calls Tryd.prog 5 #[.string (bs n), .int .i64 sv, .string (bs s)] w (BoolPost w true) := by
  have cs := fun W hW => small_any W hW
  have z1 := bs_size n
  have z2 := bs_size s
  have hb0 := Below.refl w.heap.size w
  have d1 : decide (1000 < (n.length : Int)) = false := decide_eq_false (by omega)
  have d2 : decide (1000 < (s.length : Int)) = true := decide_eq_true (by omega)
  clear h h'
  go_enter Tryd.func5, Tryd.ntmps5
  go_wp2_with fail
  (with_reducible refine Calls.mono (cs _ (hL.below hb0)) ?_)
  rintro e w1 ⟨rfl, hbx⟩
  have hb1 := hb0.trans (hbx.mono hb0.size)
  clear hbx
  go_wp2
  go_ret
  exact ⟨rfl, hb1⟩
set_option maxRecDepth 100000 in
set_option maxHeartbeats 2000000 in
theorem iback_00 (n : List UInt8) (sv : Int) (s : List UInt8) (w : World) (hn : n.length ≤ 281474976710656) (hsv : wf64 sv) (hs : s.length ≤ 281474976710656) (h : ¬ 1000 < n.length) (h' : ¬ 1000 < s.length) (hv : nameB n = true) (h0 : 0 ≤ sv) (h20 : sv < 20) (hp : parseH s = none) (hL : LaidA w) : Calls Tryd.prog 5 #[.string (bs n), .int .i64 sv, .string (bs s)] w (BoolPost w true) := by
  have cs := fun W hW => small_any W hW
  have z1 := bs_size n
  have z2 := bs_size s
  have hb0 := Below.refl w.heap.size w
  have d1 : decide (1000 < (n.length : Int)) = false := decide_eq_false (by omega)
  have d2 : decide (1000 < (s.length : Int)) = false := decide_eq_false (by omega)
  have t0 : ({ data := #[] } : ByteArray).toList = [] := bs_toList []
  have c3 := fun W => name_any n W (by omega)
  rw [hv] at c3
  have hnl := name_len hv
  have hil := itoa_length hsv.1 hsv.2
  have c1 : ∀ W, LaidA W → Calls Tryd.prog 18 #[.string (bs n), .int .i64 sv] W (StrPost W (handleL n sv)) := fun W hW => handle_any n sv W (by omega) hsv hW.i.base
  have hHl : (handleL n sv).length ≤ 100 := by rw [handle_yes hv h0 h20, List.length_append, List.length_cons]; omega
  have c2 : ∀ W, LaidA W → Calls Tryd.prog 10 #[.string (bs (handleL n sv))] W (fun e w' => e = .returned (.tuple #[.string (bs n), .int .i64 sv, .bool true]) ∧ Below W.heap.size W w') := fun W hW => by
    have := parse_h (handleL n sv) W (by omega) hW.i
    rw [parse_handle hv h0 h20] at this
    exact this
  have t1 := bs_toList n
  have t2 : (n == n) = true := by simp
  have t3 : (sv == sv) = true := by simp
  have d3 : decide (0 ≤ sv) = true := decide_eq_true h0
  have d4 : decide (sv < 20) = true := decide_eq_true h20
  unfold StrPost at c1
  generalize handleL n sv = H at *
  clear hHl hnl hil
  have c4 : ∀ W, LaidA W → Calls Tryd.prog 10 #[.string (bs s)] W (fun e w' => e = .returned (.tuple #[.string { data := #[] }, .int .i64 0, .bool false]) ∧ Below W.heap.size W w') := fun W hW => by
    have := parse_h s W (by omega) hW.i
    rw [hp] at this
    exact this
  clear hp hv h h'
  go_enter Tryd.func5, Tryd.ntmps5
  go_wp2_with fail
  (with_reducible refine Calls.mono (cs _ (hL.below hb0)) ?_)
  rintro e w1 ⟨rfl, hbx⟩
  have hb1 := hb0.trans (hbx.mono hb0.size)
  clear hbx
  go_wp2_with fail
  (with_reducible refine Calls.mono (c1 _ (hL.below hb1)) ?_)
  rintro e w2 ⟨rfl, hbx⟩
  have hb2 := hb1.trans (hbx.mono hb1.size)
  clear hbx
  go_wp2_with fail
  (with_reducible refine Calls.mono (c2 _ (hL.below hb2)) ?_)
  rintro e w3 ⟨rfl, hbx⟩
  have hb3 := hb2.trans (hbx.mono hb2.size)
  clear hbx
  go_wp2_with fail
  (with_reducible refine Calls.mono (c3 _) ?_)
  rintro e w4 ⟨rfl, hbx⟩
  have hb4 := hb3.trans (hbx.mono hb3.size)
  clear hbx
  go_wp2_with fail
  (with_reducible refine Calls.mono (c4 _ (hL.below hb4)) ?_)
  rintro e w5 ⟨rfl, hbx⟩
  have hb5 := hb4.trans (hbx.mono hb4.size)
  clear hbx
  go_wp2
  go_ret
  exact ⟨rfl, hb5⟩
set_option maxRecDepth 100000 in
set_option maxHeartbeats 2000000 in
theorem iback_01 (n : List UInt8) (sv : Int) (s : List UInt8) (w : World) (hn : n.length ≤ 281474976710656) (hsv : wf64 sv) (hs : s.length ≤ 281474976710656) (h : ¬ 1000 < n.length) (h' : ¬ 1000 < s.length) (hv : nameB n = true) (h0 : 0 ≤ sv) (h20 : sv < 20) (b : List UInt8) (m : Int) (hp : parseH s = some (b, m)) (hL : LaidA w) : Calls Tryd.prog 5 #[.string (bs n), .int .i64 sv, .string (bs s)] w (BoolPost w true) := by
  have cs := fun W hW => small_any W hW
  have z1 := bs_size n
  have z2 := bs_size s
  have hb0 := Below.refl w.heap.size w
  have d1 : decide (1000 < (n.length : Int)) = false := decide_eq_false (by omega)
  have d2 : decide (1000 < (s.length : Int)) = false := decide_eq_false (by omega)
  have t0 : ({ data := #[] } : ByteArray).toList = [] := bs_toList []
  have c3 := fun W => name_any n W (by omega)
  rw [hv] at c3
  have hnl := name_len hv
  have hil := itoa_length hsv.1 hsv.2
  have c1 : ∀ W, LaidA W → Calls Tryd.prog 18 #[.string (bs n), .int .i64 sv] W (StrPost W (handleL n sv)) := fun W hW => handle_any n sv W (by omega) hsv hW.i.base
  have hHl : (handleL n sv).length ≤ 100 := by rw [handle_yes hv h0 h20, List.length_append, List.length_cons]; omega
  have c2 : ∀ W, LaidA W → Calls Tryd.prog 10 #[.string (bs (handleL n sv))] W (fun e w' => e = .returned (.tuple #[.string (bs n), .int .i64 sv, .bool true]) ∧ Below W.heap.size W w') := fun W hW => by
    have := parse_h (handleL n sv) W (by omega) hW.i
    rw [parse_handle hv h0 h20] at this
    exact this
  have t1 := bs_toList n
  have t2 : (n == n) = true := by simp
  have t3 : (sv == sv) = true := by simp
  have d3 : decide (0 ≤ sv) = true := decide_eq_true h0
  have d4 : decide (sv < 20) = true := decide_eq_true h20
  unfold StrPost at c1
  generalize handleL n sv = H at *
  clear hHl hnl hil
  obtain ⟨q1, q2, q3, q4⟩ := handle_parse hp
  have q5 := name_len q2
  have c4 : ∀ W, LaidA W → Calls Tryd.prog 10 #[.string (bs s)] W (fun e w' => e = .returned (.tuple #[.string (bs b), .int .i64 m, .bool true]) ∧ Below W.heap.size W w') := fun W hW => by
    have := parse_h s W (by omega) hW.i
    rw [hp] at this
    exact this
  have c5 : ∀ W, LaidA W → Calls Tryd.prog 18 #[.string (bs b), .int .i64 m] W (StrPost W s) := fun W hW => by
    have := handle_any b m W (by omega) ⟨by omega, by omega⟩ hW.i.base
    rw [q1] at this
    exact this
  have c6 := fun W => name_any b W (by omega)
  rw [q2] at c6
  have t4 := bs_toList s
  have t5 : (s == s) = true := by simp
  clear q1 q2
  clear hp hv h h'
  go_enter Tryd.func5, Tryd.ntmps5
  go_wp2_with fail
  (with_reducible refine Calls.mono (cs _ (hL.below hb0)) ?_)
  rintro e w1 ⟨rfl, hbx⟩
  have hb1 := hb0.trans (hbx.mono hb0.size)
  clear hbx
  go_wp2_with fail
  (with_reducible refine Calls.mono (c1 _ (hL.below hb1)) ?_)
  rintro e w2 ⟨rfl, hbx⟩
  have hb2 := hb1.trans (hbx.mono hb1.size)
  clear hbx
  go_wp2_with fail
  (with_reducible refine Calls.mono (c2 _ (hL.below hb2)) ?_)
  rintro e w3 ⟨rfl, hbx⟩
  have hb3 := hb2.trans (hbx.mono hb2.size)
  clear hbx
  go_wp2_with fail
  (with_reducible refine Calls.mono (c3 _) ?_)
  rintro e w4 ⟨rfl, hbx⟩
  have hb4 := hb3.trans (hbx.mono hb3.size)
  clear hbx
  go_wp2_with fail
  (with_reducible refine Calls.mono (c4 _ (hL.below hb4)) ?_)
  rintro e w5 ⟨rfl, hbx⟩
  have hb5 := hb4.trans (hbx.mono hb4.size)
  clear hbx
  go_wp2_with fail
  (with_reducible refine Calls.mono (c5 _ (hL.below hb5)) ?_)
  rintro e w6 ⟨rfl, hbx⟩
  have hb6 := hb5.trans (hbx.mono hb5.size)
  clear hbx
  go_wp2_with fail
  (with_reducible refine Calls.mono (c6 _) ?_)
  rintro e w7 ⟨rfl, hbx⟩
  have hb7 := hb6.trans (hbx.mono hb6.size)
  clear hbx
  go_wp2
  go_ret
  exact ⟨rfl, hb7⟩
set_option maxRecDepth 100000 in
set_option maxHeartbeats 2000000 in
theorem iback_10 (n : List UInt8) (sv : Int) (s : List UInt8) (w : World) (hn : n.length ≤ 281474976710656) (hsv : wf64 sv) (hs : s.length ≤ 281474976710656) (h : ¬ 1000 < n.length) (h' : ¬ 1000 < s.length) (hv : nameB n = false) (hp : parseH s = none) (hL : LaidA w) : Calls Tryd.prog 5 #[.string (bs n), .int .i64 sv, .string (bs s)] w (BoolPost w true) := by
  have cs := fun W hW => small_any W hW
  have z1 := bs_size n
  have z2 := bs_size s
  have hb0 := Below.refl w.heap.size w
  have d1 : decide (1000 < (n.length : Int)) = false := decide_eq_false (by omega)
  have d2 : decide (1000 < (s.length : Int)) = false := decide_eq_false (by omega)
  have t0 : ({ data := #[] } : ByteArray).toList = [] := bs_toList []
  have c3 := fun W => name_any n W (by omega)
  rw [hv] at c3
  have hR : handleL n sv = [] := handle_no (by rw [hv]; simp)
  have c1 : ∀ W, LaidA W → Calls Tryd.prog 18 #[.string (bs n), .int .i64 sv] W (fun e w' => e = .returned (.string { data := #[] }) ∧ Below W.heap.size W w') := fun W hW => by
    have := handle_any n sv W (by omega) hsv hW.i.base
    rw [hR] at this
    exact this
  have c2 : ∀ W, LaidA W → Calls Tryd.prog 10 #[.string { data := #[] }] W (fun e w' => e = .returned (.tuple #[.string { data := #[] }, .int .i64 0, .bool false]) ∧ Below W.heap.size W w') := fun W hW => by
    have := parse_h [] W (by decide) hW.i
    rw [parse_nil] at this
    exact this
  clear hR
  have c4 : ∀ W, LaidA W → Calls Tryd.prog 10 #[.string (bs s)] W (fun e w' => e = .returned (.tuple #[.string { data := #[] }, .int .i64 0, .bool false]) ∧ Below W.heap.size W w') := fun W hW => by
    have := parse_h s W (by omega) hW.i
    rw [hp] at this
    exact this
  clear hp hv h h'
  go_enter Tryd.func5, Tryd.ntmps5
  go_wp2_with fail
  (with_reducible refine Calls.mono (cs _ (hL.below hb0)) ?_)
  rintro e w1 ⟨rfl, hbx⟩
  have hb1 := hb0.trans (hbx.mono hb0.size)
  clear hbx
  go_wp2_with fail
  (with_reducible refine Calls.mono (c1 _ (hL.below hb1)) ?_)
  rintro e w2 ⟨rfl, hbx⟩
  have hb2 := hb1.trans (hbx.mono hb1.size)
  clear hbx
  go_wp2_with fail
  (with_reducible refine Calls.mono (c2 _ (hL.below hb2)) ?_)
  rintro e w3 ⟨rfl, hbx⟩
  have hb3 := hb2.trans (hbx.mono hb2.size)
  clear hbx
  go_wp2_with fail
  (with_reducible refine Calls.mono (c3 _) ?_)
  rintro e w4 ⟨rfl, hbx⟩
  have hb4 := hb3.trans (hbx.mono hb3.size)
  clear hbx
  go_wp2_with fail
  (with_reducible refine Calls.mono (c4 _ (hL.below hb4)) ?_)
  rintro e w5 ⟨rfl, hbx⟩
  have hb5 := hb4.trans (hbx.mono hb4.size)
  clear hbx
  go_wp2
  go_ret
  exact ⟨rfl, hb5⟩
set_option maxRecDepth 100000 in
set_option maxHeartbeats 2000000 in
theorem iback_11 (n : List UInt8) (sv : Int) (s : List UInt8) (w : World) (hn : n.length ≤ 281474976710656) (hsv : wf64 sv) (hs : s.length ≤ 281474976710656) (h : ¬ 1000 < n.length) (h' : ¬ 1000 < s.length) (hv : nameB n = false) (b : List UInt8) (m : Int) (hp : parseH s = some (b, m)) (hL : LaidA w) : Calls Tryd.prog 5 #[.string (bs n), .int .i64 sv, .string (bs s)] w (BoolPost w true) := by
  have cs := fun W hW => small_any W hW
  have z1 := bs_size n
  have z2 := bs_size s
  have hb0 := Below.refl w.heap.size w
  have d1 : decide (1000 < (n.length : Int)) = false := decide_eq_false (by omega)
  have d2 : decide (1000 < (s.length : Int)) = false := decide_eq_false (by omega)
  have t0 : ({ data := #[] } : ByteArray).toList = [] := bs_toList []
  have c3 := fun W => name_any n W (by omega)
  rw [hv] at c3
  have hR : handleL n sv = [] := handle_no (by rw [hv]; simp)
  have c1 : ∀ W, LaidA W → Calls Tryd.prog 18 #[.string (bs n), .int .i64 sv] W (fun e w' => e = .returned (.string { data := #[] }) ∧ Below W.heap.size W w') := fun W hW => by
    have := handle_any n sv W (by omega) hsv hW.i.base
    rw [hR] at this
    exact this
  have c2 : ∀ W, LaidA W → Calls Tryd.prog 10 #[.string { data := #[] }] W (fun e w' => e = .returned (.tuple #[.string { data := #[] }, .int .i64 0, .bool false]) ∧ Below W.heap.size W w') := fun W hW => by
    have := parse_h [] W (by decide) hW.i
    rw [parse_nil] at this
    exact this
  clear hR
  obtain ⟨q1, q2, q3, q4⟩ := handle_parse hp
  have q5 := name_len q2
  have c4 : ∀ W, LaidA W → Calls Tryd.prog 10 #[.string (bs s)] W (fun e w' => e = .returned (.tuple #[.string (bs b), .int .i64 m, .bool true]) ∧ Below W.heap.size W w') := fun W hW => by
    have := parse_h s W (by omega) hW.i
    rw [hp] at this
    exact this
  have c5 : ∀ W, LaidA W → Calls Tryd.prog 18 #[.string (bs b), .int .i64 m] W (StrPost W s) := fun W hW => by
    have := handle_any b m W (by omega) ⟨by omega, by omega⟩ hW.i.base
    rw [q1] at this
    exact this
  have c6 := fun W => name_any b W (by omega)
  rw [q2] at c6
  have t4 := bs_toList s
  have t5 : (s == s) = true := by simp
  clear q1 q2
  clear hp hv h h'
  go_enter Tryd.func5, Tryd.ntmps5
  go_wp2_with fail
  (with_reducible refine Calls.mono (cs _ (hL.below hb0)) ?_)
  rintro e w1 ⟨rfl, hbx⟩
  have hb1 := hb0.trans (hbx.mono hb0.size)
  clear hbx
  go_wp2_with fail
  (with_reducible refine Calls.mono (c1 _ (hL.below hb1)) ?_)
  rintro e w2 ⟨rfl, hbx⟩
  have hb2 := hb1.trans (hbx.mono hb1.size)
  clear hbx
  go_wp2_with fail
  (with_reducible refine Calls.mono (c2 _ (hL.below hb2)) ?_)
  rintro e w3 ⟨rfl, hbx⟩
  have hb3 := hb2.trans (hbx.mono hb2.size)
  clear hbx
  go_wp2_with fail
  (with_reducible refine Calls.mono (c3 _) ?_)
  rintro e w4 ⟨rfl, hbx⟩
  have hb4 := hb3.trans (hbx.mono hb3.size)
  clear hbx
  go_wp2_with fail
  (with_reducible refine Calls.mono (c4 _ (hL.below hb4)) ?_)
  rintro e w5 ⟨rfl, hbx⟩
  have hb5 := hb4.trans (hbx.mono hb4.size)
  clear hbx
  go_wp2_with fail
  (with_reducible refine Calls.mono (c5 _ (hL.below hb5)) ?_)
  rintro e w6 ⟨rfl, hbx⟩
  have hb6 := hb5.trans (hbx.mono hb5.size)
  clear hbx
  go_wp2_with fail
  (with_reducible refine Calls.mono (c6 _) ?_)
  rintro e w7 ⟨rfl, hbx⟩
  have hb7 := hb6.trans (hbx.mono hb6.size)
  clear hbx
  go_wp2
  go_ret
  exact ⟨rfl, hb7⟩
set_option maxRecDepth 100000 in
set_option maxHeartbeats 2000000 in
theorem iback_20 (n : List UInt8) (sv : Int) (s : List UInt8) (w : World) (hn : n.length ≤ 281474976710656) (hsv : wf64 sv) (hs : s.length ≤ 281474976710656) (h : ¬ 1000 < n.length) (h' : ¬ 1000 < s.length) (hv : nameB n = true) (h0 : sv < 0) (hp : parseH s = none) (hL : LaidA w) : Calls Tryd.prog 5 #[.string (bs n), .int .i64 sv, .string (bs s)] w (BoolPost w true) := by
  have cs := fun W hW => small_any W hW
  have z1 := bs_size n
  have z2 := bs_size s
  have hb0 := Below.refl w.heap.size w
  have d1 : decide (1000 < (n.length : Int)) = false := decide_eq_false (by omega)
  have d2 : decide (1000 < (s.length : Int)) = false := decide_eq_false (by omega)
  have t0 : ({ data := #[] } : ByteArray).toList = [] := bs_toList []
  have c3 := fun W => name_any n W (by omega)
  rw [hv] at c3
  have hR : handleL n sv = [] := handle_no (by omega)
  have c1 : ∀ W, LaidA W → Calls Tryd.prog 18 #[.string (bs n), .int .i64 sv] W (fun e w' => e = .returned (.string { data := #[] }) ∧ Below W.heap.size W w') := fun W hW => by
    have := handle_any n sv W (by omega) hsv hW.i.base
    rw [hR] at this
    exact this
  have c2 : ∀ W, LaidA W → Calls Tryd.prog 10 #[.string { data := #[] }] W (fun e w' => e = .returned (.tuple #[.string { data := #[] }, .int .i64 0, .bool false]) ∧ Below W.heap.size W w') := fun W hW => by
    have := parse_h [] W (by decide) hW.i
    rw [parse_nil] at this
    exact this
  have d3 : decide (0 ≤ sv) = false := decide_eq_false (by omega)
  clear hR
  have c4 : ∀ W, LaidA W → Calls Tryd.prog 10 #[.string (bs s)] W (fun e w' => e = .returned (.tuple #[.string { data := #[] }, .int .i64 0, .bool false]) ∧ Below W.heap.size W w') := fun W hW => by
    have := parse_h s W (by omega) hW.i
    rw [hp] at this
    exact this
  clear hp hv h h'
  go_enter Tryd.func5, Tryd.ntmps5
  go_wp2_with fail
  (with_reducible refine Calls.mono (cs _ (hL.below hb0)) ?_)
  rintro e w1 ⟨rfl, hbx⟩
  have hb1 := hb0.trans (hbx.mono hb0.size)
  clear hbx
  go_wp2_with fail
  (with_reducible refine Calls.mono (c1 _ (hL.below hb1)) ?_)
  rintro e w2 ⟨rfl, hbx⟩
  have hb2 := hb1.trans (hbx.mono hb1.size)
  clear hbx
  go_wp2_with fail
  (with_reducible refine Calls.mono (c2 _ (hL.below hb2)) ?_)
  rintro e w3 ⟨rfl, hbx⟩
  have hb3 := hb2.trans (hbx.mono hb2.size)
  clear hbx
  go_wp2_with fail
  (with_reducible refine Calls.mono (c3 _) ?_)
  rintro e w4 ⟨rfl, hbx⟩
  have hb4 := hb3.trans (hbx.mono hb3.size)
  clear hbx
  go_wp2_with fail
  (with_reducible refine Calls.mono (c4 _ (hL.below hb4)) ?_)
  rintro e w5 ⟨rfl, hbx⟩
  have hb5 := hb4.trans (hbx.mono hb4.size)
  clear hbx
  go_wp2
  go_ret
  exact ⟨rfl, hb5⟩
set_option maxRecDepth 100000 in
set_option maxHeartbeats 2000000 in
theorem iback_21 (n : List UInt8) (sv : Int) (s : List UInt8) (w : World) (hn : n.length ≤ 281474976710656) (hsv : wf64 sv) (hs : s.length ≤ 281474976710656) (h : ¬ 1000 < n.length) (h' : ¬ 1000 < s.length) (hv : nameB n = true) (h0 : sv < 0) (b : List UInt8) (m : Int) (hp : parseH s = some (b, m)) (hL : LaidA w) : Calls Tryd.prog 5 #[.string (bs n), .int .i64 sv, .string (bs s)] w (BoolPost w true) := by
  have cs := fun W hW => small_any W hW
  have z1 := bs_size n
  have z2 := bs_size s
  have hb0 := Below.refl w.heap.size w
  have d1 : decide (1000 < (n.length : Int)) = false := decide_eq_false (by omega)
  have d2 : decide (1000 < (s.length : Int)) = false := decide_eq_false (by omega)
  have t0 : ({ data := #[] } : ByteArray).toList = [] := bs_toList []
  have c3 := fun W => name_any n W (by omega)
  rw [hv] at c3
  have hR : handleL n sv = [] := handle_no (by omega)
  have c1 : ∀ W, LaidA W → Calls Tryd.prog 18 #[.string (bs n), .int .i64 sv] W (fun e w' => e = .returned (.string { data := #[] }) ∧ Below W.heap.size W w') := fun W hW => by
    have := handle_any n sv W (by omega) hsv hW.i.base
    rw [hR] at this
    exact this
  have c2 : ∀ W, LaidA W → Calls Tryd.prog 10 #[.string { data := #[] }] W (fun e w' => e = .returned (.tuple #[.string { data := #[] }, .int .i64 0, .bool false]) ∧ Below W.heap.size W w') := fun W hW => by
    have := parse_h [] W (by decide) hW.i
    rw [parse_nil] at this
    exact this
  have d3 : decide (0 ≤ sv) = false := decide_eq_false (by omega)
  clear hR
  obtain ⟨q1, q2, q3, q4⟩ := handle_parse hp
  have q5 := name_len q2
  have c4 : ∀ W, LaidA W → Calls Tryd.prog 10 #[.string (bs s)] W (fun e w' => e = .returned (.tuple #[.string (bs b), .int .i64 m, .bool true]) ∧ Below W.heap.size W w') := fun W hW => by
    have := parse_h s W (by omega) hW.i
    rw [hp] at this
    exact this
  have c5 : ∀ W, LaidA W → Calls Tryd.prog 18 #[.string (bs b), .int .i64 m] W (StrPost W s) := fun W hW => by
    have := handle_any b m W (by omega) ⟨by omega, by omega⟩ hW.i.base
    rw [q1] at this
    exact this
  have c6 := fun W => name_any b W (by omega)
  rw [q2] at c6
  have t4 := bs_toList s
  have t5 : (s == s) = true := by simp
  clear q1 q2
  clear hp hv h h'
  go_enter Tryd.func5, Tryd.ntmps5
  go_wp2_with fail
  (with_reducible refine Calls.mono (cs _ (hL.below hb0)) ?_)
  rintro e w1 ⟨rfl, hbx⟩
  have hb1 := hb0.trans (hbx.mono hb0.size)
  clear hbx
  go_wp2_with fail
  (with_reducible refine Calls.mono (c1 _ (hL.below hb1)) ?_)
  rintro e w2 ⟨rfl, hbx⟩
  have hb2 := hb1.trans (hbx.mono hb1.size)
  clear hbx
  go_wp2_with fail
  (with_reducible refine Calls.mono (c2 _ (hL.below hb2)) ?_)
  rintro e w3 ⟨rfl, hbx⟩
  have hb3 := hb2.trans (hbx.mono hb2.size)
  clear hbx
  go_wp2_with fail
  (with_reducible refine Calls.mono (c3 _) ?_)
  rintro e w4 ⟨rfl, hbx⟩
  have hb4 := hb3.trans (hbx.mono hb3.size)
  clear hbx
  go_wp2_with fail
  (with_reducible refine Calls.mono (c4 _ (hL.below hb4)) ?_)
  rintro e w5 ⟨rfl, hbx⟩
  have hb5 := hb4.trans (hbx.mono hb4.size)
  clear hbx
  go_wp2_with fail
  (with_reducible refine Calls.mono (c5 _ (hL.below hb5)) ?_)
  rintro e w6 ⟨rfl, hbx⟩
  have hb6 := hb5.trans (hbx.mono hb5.size)
  clear hbx
  go_wp2_with fail
  (with_reducible refine Calls.mono (c6 _) ?_)
  rintro e w7 ⟨rfl, hbx⟩
  have hb7 := hb6.trans (hbx.mono hb6.size)
  clear hbx
  go_wp2
  go_ret
  exact ⟨rfl, hb7⟩
set_option maxRecDepth 100000 in
set_option maxHeartbeats 2000000 in
theorem iback_30 (n : List UInt8) (sv : Int) (s : List UInt8) (w : World) (hn : n.length ≤ 281474976710656) (hsv : wf64 sv) (hs : s.length ≤ 281474976710656) (h : ¬ 1000 < n.length) (h' : ¬ 1000 < s.length) (hv : nameB n = true) (h0 : 0 ≤ sv) (h20 : 20 ≤ sv) (hp : parseH s = none) (hL : LaidA w) : Calls Tryd.prog 5 #[.string (bs n), .int .i64 sv, .string (bs s)] w (BoolPost w true) := by
  have cs := fun W hW => small_any W hW
  have z1 := bs_size n
  have z2 := bs_size s
  have hb0 := Below.refl w.heap.size w
  have d1 : decide (1000 < (n.length : Int)) = false := decide_eq_false (by omega)
  have d2 : decide (1000 < (s.length : Int)) = false := decide_eq_false (by omega)
  have t0 : ({ data := #[] } : ByteArray).toList = [] := bs_toList []
  have c3 := fun W => name_any n W (by omega)
  rw [hv] at c3
  have hR : handleL n sv = [] := handle_no (by omega)
  have c1 : ∀ W, LaidA W → Calls Tryd.prog 18 #[.string (bs n), .int .i64 sv] W (fun e w' => e = .returned (.string { data := #[] }) ∧ Below W.heap.size W w') := fun W hW => by
    have := handle_any n sv W (by omega) hsv hW.i.base
    rw [hR] at this
    exact this
  have c2 : ∀ W, LaidA W → Calls Tryd.prog 10 #[.string { data := #[] }] W (fun e w' => e = .returned (.tuple #[.string { data := #[] }, .int .i64 0, .bool false]) ∧ Below W.heap.size W w') := fun W hW => by
    have := parse_h [] W (by decide) hW.i
    rw [parse_nil] at this
    exact this
  have d3 : decide (0 ≤ sv) = true := decide_eq_true h0
  have d4 : decide (sv < 20) = false := decide_eq_false (by omega)
  clear hR
  have c4 : ∀ W, LaidA W → Calls Tryd.prog 10 #[.string (bs s)] W (fun e w' => e = .returned (.tuple #[.string { data := #[] }, .int .i64 0, .bool false]) ∧ Below W.heap.size W w') := fun W hW => by
    have := parse_h s W (by omega) hW.i
    rw [hp] at this
    exact this
  clear hp hv h h'
  go_enter Tryd.func5, Tryd.ntmps5
  go_wp2_with fail
  (with_reducible refine Calls.mono (cs _ (hL.below hb0)) ?_)
  rintro e w1 ⟨rfl, hbx⟩
  have hb1 := hb0.trans (hbx.mono hb0.size)
  clear hbx
  go_wp2_with fail
  (with_reducible refine Calls.mono (c1 _ (hL.below hb1)) ?_)
  rintro e w2 ⟨rfl, hbx⟩
  have hb2 := hb1.trans (hbx.mono hb1.size)
  clear hbx
  go_wp2_with fail
  (with_reducible refine Calls.mono (c2 _ (hL.below hb2)) ?_)
  rintro e w3 ⟨rfl, hbx⟩
  have hb3 := hb2.trans (hbx.mono hb2.size)
  clear hbx
  go_wp2_with fail
  (with_reducible refine Calls.mono (c3 _) ?_)
  rintro e w4 ⟨rfl, hbx⟩
  have hb4 := hb3.trans (hbx.mono hb3.size)
  clear hbx
  go_wp2_with fail
  (with_reducible refine Calls.mono (c4 _ (hL.below hb4)) ?_)
  rintro e w5 ⟨rfl, hbx⟩
  have hb5 := hb4.trans (hbx.mono hb4.size)
  clear hbx
  go_wp2
  go_ret
  exact ⟨rfl, hb5⟩
set_option maxRecDepth 100000 in
set_option maxHeartbeats 2000000 in
theorem iback_31 (n : List UInt8) (sv : Int) (s : List UInt8) (w : World) (hn : n.length ≤ 281474976710656) (hsv : wf64 sv) (hs : s.length ≤ 281474976710656) (h : ¬ 1000 < n.length) (h' : ¬ 1000 < s.length) (hv : nameB n = true) (h0 : 0 ≤ sv) (h20 : 20 ≤ sv) (b : List UInt8) (m : Int) (hp : parseH s = some (b, m)) (hL : LaidA w) : Calls Tryd.prog 5 #[.string (bs n), .int .i64 sv, .string (bs s)] w (BoolPost w true) := by
  have cs := fun W hW => small_any W hW
  have z1 := bs_size n
  have z2 := bs_size s
  have hb0 := Below.refl w.heap.size w
  have d1 : decide (1000 < (n.length : Int)) = false := decide_eq_false (by omega)
  have d2 : decide (1000 < (s.length : Int)) = false := decide_eq_false (by omega)
  have t0 : ({ data := #[] } : ByteArray).toList = [] := bs_toList []
  have c3 := fun W => name_any n W (by omega)
  rw [hv] at c3
  have hR : handleL n sv = [] := handle_no (by omega)
  have c1 : ∀ W, LaidA W → Calls Tryd.prog 18 #[.string (bs n), .int .i64 sv] W (fun e w' => e = .returned (.string { data := #[] }) ∧ Below W.heap.size W w') := fun W hW => by
    have := handle_any n sv W (by omega) hsv hW.i.base
    rw [hR] at this
    exact this
  have c2 : ∀ W, LaidA W → Calls Tryd.prog 10 #[.string { data := #[] }] W (fun e w' => e = .returned (.tuple #[.string { data := #[] }, .int .i64 0, .bool false]) ∧ Below W.heap.size W w') := fun W hW => by
    have := parse_h [] W (by decide) hW.i
    rw [parse_nil] at this
    exact this
  have d3 : decide (0 ≤ sv) = true := decide_eq_true h0
  have d4 : decide (sv < 20) = false := decide_eq_false (by omega)
  clear hR
  obtain ⟨q1, q2, q3, q4⟩ := handle_parse hp
  have q5 := name_len q2
  have c4 : ∀ W, LaidA W → Calls Tryd.prog 10 #[.string (bs s)] W (fun e w' => e = .returned (.tuple #[.string (bs b), .int .i64 m, .bool true]) ∧ Below W.heap.size W w') := fun W hW => by
    have := parse_h s W (by omega) hW.i
    rw [hp] at this
    exact this
  have c5 : ∀ W, LaidA W → Calls Tryd.prog 18 #[.string (bs b), .int .i64 m] W (StrPost W s) := fun W hW => by
    have := handle_any b m W (by omega) ⟨by omega, by omega⟩ hW.i.base
    rw [q1] at this
    exact this
  have c6 := fun W => name_any b W (by omega)
  rw [q2] at c6
  have t4 := bs_toList s
  have t5 : (s == s) = true := by simp
  clear q1 q2
  clear hp hv h h'
  go_enter Tryd.func5, Tryd.ntmps5
  go_wp2_with fail
  (with_reducible refine Calls.mono (cs _ (hL.below hb0)) ?_)
  rintro e w1 ⟨rfl, hbx⟩
  have hb1 := hb0.trans (hbx.mono hb0.size)
  clear hbx
  go_wp2_with fail
  (with_reducible refine Calls.mono (c1 _ (hL.below hb1)) ?_)
  rintro e w2 ⟨rfl, hbx⟩
  have hb2 := hb1.trans (hbx.mono hb1.size)
  clear hbx
  go_wp2_with fail
  (with_reducible refine Calls.mono (c2 _ (hL.below hb2)) ?_)
  rintro e w3 ⟨rfl, hbx⟩
  have hb3 := hb2.trans (hbx.mono hb2.size)
  clear hbx
  go_wp2_with fail
  (with_reducible refine Calls.mono (c3 _) ?_)
  rintro e w4 ⟨rfl, hbx⟩
  have hb4 := hb3.trans (hbx.mono hb3.size)
  clear hbx
  go_wp2_with fail
  (with_reducible refine Calls.mono (c4 _ (hL.below hb4)) ?_)
  rintro e w5 ⟨rfl, hbx⟩
  have hb5 := hb4.trans (hbx.mono hb4.size)
  clear hbx
  go_wp2_with fail
  (with_reducible refine Calls.mono (c5 _ (hL.below hb5)) ?_)
  rintro e w6 ⟨rfl, hbx⟩
  have hb6 := hb5.trans (hbx.mono hb5.size)
  clear hbx
  go_wp2_with fail
  (with_reducible refine Calls.mono (c6 _) ?_)
  rintro e w7 ⟨rfl, hbx⟩
  have hb7 := hb6.trans (hbx.mono hb6.size)
  clear hbx
  go_wp2
  go_ret
  exact ⟨rfl, hb7⟩
theorem iback_any (n : List UInt8) (sv : Int) (s : List UInt8) (w : World) (hn : n.length ≤ 281474976710656) (hsv : wf64 sv) (hs : s.length ≤ 281474976710656) (hL : LaidA w) : Calls Tryd.prog 5 #[.string (bs n), .int .i64 sv, .string (bs s)] w (BoolPost w true) := by
  by_cases h : 1000 < n.length
  · exact iback_long1 n sv s w hn hsv hs h hL
  by_cases h' : 1000 < s.length
  · exact iback_long2 n sv s w hn hsv hs h h' hL
  cases hp : parseH s with
  | none =>
    cases hv : nameB n with
    | false => exact iback_10 n sv s w hn hsv hs h h' hv hp hL
    | true =>
      by_cases h0 : sv < 0
      · exact iback_20 n sv s w hn hsv hs h h' hv h0 hp hL
      by_cases h20 : sv < 20
      · exact iback_00 n sv s w hn hsv hs h h' hv (by omega) h20 hp hL
      · exact iback_30 n sv s w hn hsv hs h h' hv (by omega) (by omega) hp hL
  | some p =>
    obtain ⟨b, m⟩ := p
    cases hv : nameB n with
    | false => exact iback_11 n sv s w hn hsv hs h h' hv b m hp hL
    | true =>
      by_cases h0 : sv < 0
      · exact iback_21 n sv s w hn hsv hs h h' hv h0 b m hp hL
      by_cases h20 : sv < 20
      · exact iback_01 n sv s w hn hsv hs h h' hv (by omega) h20 b m hp hL
      · exact iback_31 n sv s w hn hsv hs h h' hv (by omega) (by omega) b m hp hL
end Go.Proofs.YtgmlhgojkmpkkaaDoor
