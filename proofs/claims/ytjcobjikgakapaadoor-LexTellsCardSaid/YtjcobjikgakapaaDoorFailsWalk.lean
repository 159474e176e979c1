/- LexFails, walked: it answers true. -/
import Derived.Test.YtjcobjikgakapaaDoorLexSm
namespace Go.Proofs.YtjcobjikgakapaaDoor
open Go.ChangeShapes Go.WideShapes Go.ChangeAt Go.RowKit Go.Lib
set_option linter.unusedVariables false

/-- a slice of a string, both bounds given -/
theorem slice_any (l : List UInt8) (a b : Nat) (h : a ≤ b) (hb : b ≤ l.length) (i j : Int) (hi : i = a) (hj : j = b) (w : World) : (Instr.slice 9 (.string (bs l)) (some (.int .i64 i)) (some (.int .i64 j)) none).run Tryd.prog w = .ok (.string (bs ((l.drop a).take (b - a)))) w := by
  subst hi; subst hj
  rw [run_slice_string w 9 (bs l) .i64 .i64 a b Tryd.underlying9 (by omega) (by omega) (by rw [bs_size]; omega), ← bs_extract]
  rfl
theorem scan_o (l : List UInt8) (R : List Tok × Int × Int) (h : scanR l = R) (hl : l.length ≤ 281474976710655) (W : World) (hW : Laid W) : Calls Tryd.prog 10 #[.string (bs l)] W (ScanO R.1 R.2.1 R.2.2 W) := by
  refine (scan_any l W hl hW).mono ?_
  intro e w' hp
  rw [h] at hp
  exact scan_open hp
theorem scanR_of {l : List UInt8} (h : l.length ≤ 4096) : (∃ ts, sc 0 l = .ok ts ∧ scanR l = (ts, 0, 0)) ∨ (∃ k : Nat, sc 0 l = .err k ∧ scanR l = ([], 2, (k : Int))) := by
  unfold scanR
  rw [if_neg (by omega)]
  cases sc 0 l with
  | ok ts => exact .inl ⟨ts, rfl, rfl⟩
  | err k => exact .inr ⟨k, rfl, rfl⟩
theorem scanR_ok {l : List UInt8} {ts : List Tok} (h : l.length ≤ 4096) (hs : sc 0 l = .ok ts) : scanR l = (ts, 0, 0) := by
  unfold scanR
  rw [if_neg (by omega), hs]
theorem scanR_err {l : List UInt8} {k : Nat} (h : l.length ≤ 4096) (hs : sc 0 l = .err k) : scanR l = ([], 2, (k : Int)) := by
  unfold scanR
  rw [if_neg (by omega), hs]
theorem scanR_full {l : List UInt8} (h : 4096 < l.length) : scanR l = ([], 7, 0) := by
  unfold scanR
  rw [if_pos h]
theorem ok_pos {l : List UInt8} {k : Nat} {ts : List Tok} (h : sc k l = .ok ts) : 0 < ts.length := by
  obtain ⟨us, e, _⟩ := sc_form _ _ _ h
  rw [e]; simp
set_option maxRecDepth 100000 in
set_option maxHeartbeats 1000000 in
theorem fails_long (l : List UInt8) (w : World) (h : 4096 < l.length) (hl : l.length ≤ 281474976710656) (cs : Calls Tryd.prog 9 #[] w (BoolPost w true)) : Calls Tryd.prog 7 #[.string (bs l)] w (BoolPost w true) := by
  have hs := bs_size l
  have d1 : decide (4096 < (l.length : Int)) = true := decide_eq_true (by omega)
  clear h
  go_enter Tryd.func7, Tryd.ntmps7
  go_wp2_with fail
  refine cs.mono ?_
  rintro e w1 ⟨rfl, hb1⟩
  go_wp2
  go_ret
  exact ⟨rfl, hb1⟩
set_option maxRecDepth 100000 in
set_option maxHeartbeats 1000000 in
theorem fails_ok (l : List UInt8) (ts : List Tok) (w : World) (h : l.length ≤ 4096) (hR : scanR l = (ts, 0, 0)) (hL : Laid w) : Calls Tryd.prog 7 #[.string (bs l)] w (BoolPost w true) := by
  have hs := bs_size l
  have d1 : decide (4096 < (l.length : Int)) = false := decide_eq_false (by omega)
  have cs := small_any w hL
  have c1 := fun W hW => scan_o l _ hR (by omega) W hW
  clear hR
  go_enter Tryd.func7, Tryd.ntmps7
  go_wp2_with fail
  refine cs.mono ?_
  rintro e w1 ⟨rfl, hb1⟩
  go_wp2_with fail
  refine (Calls.mono (c1 _ (hL.below hb1)) ?_)
  rintro e w2 ⟨a1, k1, rfl, hT1, hbx⟩
  have hb2 := hb1.trans (hbx.mono hb1.size)
  clear hbx hb1 hT1
  go_wp2
  go_ret
  exact ⟨rfl, hb2⟩
set_option maxRecDepth 100000 in
set_option maxHeartbeats 1000000 in
theorem fails_err (l : List UInt8) (k : Nat) (c : UInt8) (us : List Tok) (w : World) (h : l.length ≤ 4096) (hR : scanR l = ([], 2, (k : Int))) (hk : k < l.length) (hx1 : (bs l).extract k (k + 1) = bs [c]) (hc : blankB [c] = false)
    (h2 : scanR (l.take k) = (us, 0, 0)) (hu : 0 < us.length) (h3 : scanR (l.drop k) = ([], 2, 0)) (hL : Laid w) : Calls Tryd.prog 7 #[.string (bs l)] w (BoolPost w true) := by
  have hs := bs_size l
  have hsl := slice_any l k (k + 1) (by omega) (by omega) (k : Int) ((k : Int) + 1) rfl (by omega)
  rw [← bs_extract, hx1] at hsl
  have d1 : decide (4096 < (l.length : Int)) = false := decide_eq_false (by omega)
  have d2 : decide (l.length ≤ k) = false := decide_eq_false (by omega)
  have d3 : decide ((k : Int) < 0) = false := decide_eq_false (by omega)
  have cs := small_any w hL
  have c1 := fun W hW => scan_o l _ hR (by omega) W hW
  have c2 := fun W hW => scan_o (l.take k) _ h2 (by simp; omega) W hW
  have c3 := fun W hW => scan_o (l.drop k) _ h3 (by simp; omega) W hW
  have cb := fun W => blank_any [c] W (by simp)
  rw [hc] at cb
  have hx2 : (bs l).extract 0 k = bs (l.take k) := by rw [bs_extract]; simp
  have hx3 : (bs l).extract k l.length = bs (l.drop k) := by rw [bs_extract, List.take_of_length_le (by simp)]
  clear hR h2 h3 hc
  generalize l.take k = lt at *
  generalize l.drop k = ld at *
  go_enter Tryd.func7, Tryd.ntmps7
  go_wp2_with fail
  refine cs.mono ?_
  rintro e w1 ⟨rfl, hb1⟩
  go_wp2_with fail
  refine (Calls.mono (c1 _ (hL.below hb1)) ?_)
  rintro e w2 ⟨a1, k1, rfl, hT1, hbx⟩
  have hb2 := hb1.trans (hbx.mono hb1.size)
  clear hbx hb1 hT1 c1
  go_wp2_with fail
  refine (Calls.mono (cb _) ?_)
  rintro e w3 ⟨rfl, rfl⟩
  go_wp2_with fail
  refine (Calls.mono (c2 _ (hL.below hb2)) ?_)
  rintro e w4 ⟨a2, k2, rfl, hT2, hbx⟩
  have hb4 := hb2.trans (hbx.mono hb2.size)
  clear hbx hb2 hT2 c2
  go_wp2_with fail
  refine (Calls.mono (c3 _ (hL.below hb4)) ?_)
  rintro e w5 ⟨a3, k3, rfl, hT3, hbx⟩
  have hb5 := hb4.trans (hbx.mono hb4.size)
  clear hbx hb4 hT3 c3
  go_wp2
  go_ret
  exact ⟨rfl, hb5⟩
theorem fails_any (l : List UInt8) (w : World) (hl : l.length ≤ 281474976710656) (hL : Laid w) : Calls Tryd.prog 7 #[.string (bs l)] w (BoolPost w true) := by
  by_cases h : 4096 < l.length
  · exact fails_long l w h hl (small_any w hL)
  have h' : l.length ≤ 4096 := by omega
  rcases scanR_of h' with ⟨ts, _, hR⟩ | ⟨k, hk, hR⟩
  · exact fails_ok l ts w h' hR hL
  · obtain ⟨_, h2, ⟨c, r, h3, h4⟩, h5, h6⟩ := sc_fail l 0 k hk
    rw [Nat.sub_zero] at h3 h5 h6
    obtain ⟨us, h5⟩ := h5 0
    have h6 := h6 0
    have hx1 : (bs l).extract k (k + 1) = bs [c] := by
      rw [bs_extract, h3, show k + 1 - k = 1 by omega]
      rfl
    exact fails_err l k c us w h' hR (by omega) hx1 (by simp [blankB, h4]) (scanR_ok (by simp; omega) h5) (ok_pos h5) (scanR_err (by simp; omega) h6) hL
end Go.Proofs.YtjcobjikgakapaaDoor
