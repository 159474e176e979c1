/- LexTells, walked: it answers true. -/
import Derived.Test.YtjcobjikgakapaaDoorRefLexD
import Derived.Deep.DeepCutAuto
namespace Go.Proofs.YtjcobjikgakapaaDoor
open Go.ChangeShapes Go.WideShapes Go.ChangeAt Go.RowKit Go.Lib
set_option linter.unusedVariables false

set_option maxRecDepth 100000 in
set_option maxHeartbeats 1000000 in
theorem tells_out (l : List UInt8) (A : Option Addr) (n c : Nat) (w : World) (h : 5000 < l.length ∨ (l.length ≤ 5000 ∧ 200 < n)) (hl : l.length ≤ 281474976710000) (hn : n ≤ 9223372036854775807) (cs : Calls Tryd.prog 9 #[] w (BoolPost w true)) :
    Calls Tryd.prog 3 #[.string (bs l), .slice A n c] w (BoolPost w true) := by
  have hs := bs_size l
  rcases h with h | ⟨h, h2⟩
  · have d1 : decide (5000 < (l.length : Int)) = true := decide_eq_true (by omega)
    go_enter Tryd.func3, Tryd.ntmps3
    go_wp2_with fail
    refine cs.mono ?_
    rintro e w1 ⟨rfl, hb1⟩
    go_wp2
    go_ret
    exact ⟨rfl, hb1⟩
  · have d1 : decide (5000 < (l.length : Int)) = false := decide_eq_false (by omega)
    have d2 : decide (200 < (n : Int)) = true := decide_eq_true (by omega)
    go_enter Tryd.func3, Tryd.ntmps3
    go_wp2_with fail
    refine cs.mono ?_
    rintro e w1 ⟨rfl, hb1⟩
    go_wp2
    go_ret
    exact ⟨rfl, hb1⟩
set_option maxRecDepth 100000 in
set_option maxHeartbeats 2000000 in
theorem tells_go (l : List UInt8) (A : Option Addr) (n c : Nat) (ts : List Tok) (R : List Tok × Int × Int) (w : World) (h : l.length ≤ 5000) (hn2 : n ≤ 200) (hn : ts.length = n) (hA : TokR w A ts) (hwf : ∀ t ∈ ts, wf64 t.n ∧ t.text.length ≤ 9223372036854775807) (hR : scanR l = R) (hRl : R.1.length ≤ 10000) (hL : Laid w) :
    Calls Tryd.prog 3 #[.string (bs l), .slice A n c] w (BoolPost w true) := by
  have hs := bs_size l
  have d1 : decide (5000 < (l.length : Int)) = false := decide_eq_false (by omega)
  have d2 : decide (200 < (n : Int)) = false := decide_eq_false (by omega)
  have cs := small_any w hL
  have c1 : ∀ W, Laid W → Calls Tryd.prog 10 #[.string (bs l)] W (ScanO R.1 R.2.1 R.2.2 W) := fun W hW => scan_o l _ hR (by omega) W hW
  have c2 : ∀ W, Calls Tryd.prog 11 #[.string (bs l)] W (ScanO R.1 R.2.1 R.2.2 W) := fun W => by
    refine (rscan_any l W (by omega)).mono ?_
    intro e w' hp
    rw [hR] at hp
    exact scan_open hp
  have c3 := fun A B c d W (hA : TokR W A R.1) (hB : TokR W B R.1) => rsame_true A B c d R.1 W hA hB (by omega)
  obtain ⟨rs, r1, r2⟩ := R
  have C3 := Lib.hid c3
  have HA := Lib.hid hA
  have HW := Lib.hid hwf
  have HN := Lib.hid hn
  clear hR c3 hA hwf hn hRl
  simp only at c1 c2
  go_enter Tryd.func3, Tryd.ntmps3
  go_wp2_with fail
  refine cs.mono ?_
  rintro e w1 ⟨rfl, hb1⟩
  go_wp2_with fail
  go_loop [6] (fun v => ∃ k : Nat, k ≤ n ∧ v = .int .i64 k ∧ Hid (∀ t ∈ ts.take k, t.text.length ≤ 50)) (fun v => n - (intOf v).toNat)
  case atStart => exact ⟨0, by omega, rfl, by unfold Hid; simp⟩
  case round =>
    obtain ⟨k, hk, rfl, HK⟩ := hrel
    by_cases hlt : k < n
    · obtain ⟨t, ht⟩ : ∃ t, ts[k]? = some t := ⟨_, List.getElem?_eq_getElem (by have := HN.out; omega)⟩
      obtain ⟨_, wl⟩ := HW.out t (List.mem_of_getElem? ht)
      obtain ⟨g, o, rfl, hg, a0, a1, a2, a3⟩ := (HA.out.below hb1) k t ht
      have HS : t.text.length ≤ 50 → Hid (∀ t ∈ ts.take (k + 1), t.text.length ≤ 50) := by
        intro h50 x hx
        rw [List.take_add_one, ht, List.mem_append] at hx
        rcases hx with hx | hx
        · exact HK.out x hx
        · simp at hx; rw [hx]; exact h50
      obtain ⟨tk, tt, tn, tf⟩ := t
      have wl' : tt.length ≤ 9223372036854775807 := wl
      have htl := bs_size tt
      clear ht wl a0 a2 a3
      by_cases h50 : tt.length ≤ 50
      · have d3 : decide (50 < (tt.length : Int)) = false := decide_eq_false (by omega)
        have H := HS h50
        clear HS h50
        go_wp2_with fail
        go_round
        case rel => exact ⟨k + 1, by omega, by go_num, H⟩
        case measure => simp [intOf]; omega
      · have d3 : decide (50 < (tt.length : Int)) = true := decide_eq_true (by omega)
        clear HS h50
        go_wp2_with fail
        go_ret
        exact ⟨rfl, hb1⟩
    · have hkn : k = n := by omega
      subst hkn
      have hall : ∀ t ∈ ts, wf64 t.n ∧ t.text.length ≤ 50 := by
        intro t ht
        have h50 := HK.out t (by rw [List.take_of_length_le (by rw [HN.out]; omega)]; exact ht)
        exact ⟨(HW.out t ht).1, h50⟩
      have hwl := writeL_len ts hall
      rw [HN.out] at hwl
      have c4 := fun W (h : TokR W A ts) hW => write_any A k c ts W h HN.out (by omega) (fun t ht => ⟨(hall t ht).1, by have := (hall t ht).2; omega⟩) hW (by omega)
      have c5 := fun W (h : TokR W A ts) => rwrite_any A k c ts W h HN.out (by omega) hall
      have twr := bs_toList (writeL ts)
      generalize writeL ts = wx at *
      have C4 := Lib.hid c4
      have C5 := Lib.hid c5
      clear c4 c5 hall hwl HK
      go_wp2_with fail
      refine (Calls.mono (c1 _ (hL.below hb1)) ?_)
      rintro e w2 ⟨a1, k1, rfl, hT1, hbx⟩
      have hb2 := hb1.trans (hbx.mono hb1.size)
      have HT1 := Lib.hid hT1
      clear hbx hb1 c1 hT1
      go_wp2_with fail
      refine (Calls.mono (c2 _) ?_)
      rintro e w3 ⟨a2, k2, rfl, hT2, hbx⟩
      have hb3 := hb2.trans (hbx.mono hb2.size)
      have c3 := C3.out a1 a2 k1 k2 w3 (HT1.out.below hbx) hT2
      clear hbx hb2 c2 hT2 HT1 C3
      go_wp2_with fail
      refine (Calls.mono c3 ?_)
      rintro e w4 ⟨rfl, hbx⟩
      have hb4 := hb3.trans (hbx.mono hb3.size)
      have c4 := C4.out w4 (HA.out.below hb4) (hL.below hb4)
      clear hbx hb3 c3 C4
      go_wp2_with fail
      refine (Calls.mono c4 ?_)
      rintro e w5 ⟨rfl, hbx⟩
      have hb5 := hb4.trans (hbx.mono hb4.size)
      have c5 := C5.out w5 (HA.out.below hb5)
      clear hbx hb4 c4 C5
      go_wp2_with fail
      refine (Calls.mono c5 ?_)
      rintro e w6 ⟨rfl, rfl⟩
      go_wp2
      go_ret
      exact ⟨rfl, hb5⟩
theorem tells_any (l : List UInt8) (A : Option Addr) (c : Nat) (ts : List Tok) (w : World) (hl : l.length ≤ 281474976710000) (hn : ts.length ≤ 9223372036854775807) (hA : TokR w A ts) (hwf : ∀ t ∈ ts, wf64 t.n ∧ t.text.length ≤ 9223372036854775807) (hL : Laid w) :
    Calls Tryd.prog 3 #[.string (bs l), .slice A ts.length c] w (BoolPost w true) := by
  by_cases h1 : 5000 < l.length
  · exact tells_out l A _ c w (.inl h1) hl hn (small_any w hL)
  by_cases h2 : 200 < ts.length
  · exact tells_out l A _ c w (.inr ⟨by omega, h2⟩) hl hn (small_any w hL)
  refine tells_go l A _ c ts _ w (by omega) (by omega) rfl hA hwf rfl ?_ hL
  by_cases h4 : 4096 < l.length
  · rw [scanR_full h4]; simp
  · rcases scanR_of (l := l) (by omega) with ⟨us, hu, hR⟩ | ⟨k, hk, hR⟩
    · rw [hR]
      have := sc_len l 0 us hu
      show us.length ≤ _
      omega
    · rw [hR]; simp
end Go.Proofs.YtjcobjikgakapaaDoor
