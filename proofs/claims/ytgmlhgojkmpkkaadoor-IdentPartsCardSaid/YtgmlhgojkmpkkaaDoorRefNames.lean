/- The reference's Right, Name, Handle, Parse: walked; ident.Parse. -/
import Derived.Test.YtgmlhgojkmpkkaaDoorNames2
namespace Go.Proofs.YtgmlhgojkmpkkaaDoor
open Go.ChangeShapes Go.WideShapes Go.ChangeAt Go.RowKit Go.Lib
set_option linter.unusedVariables false

theorem in_yes (b lo hi : Int) (w : World) (h0 : lo ≤ b) (h1 : b ≤ hi) : Calls Tryd.prog 34 #[.int .u8 b, .int .u8 lo, .int .u8 hi] w (Same (.bool true) w) := by
  go_enter Tryd.func34, Tryd.ntmps34
  go_wp2
  go_ret
  exact ⟨rfl, rfl⟩
theorem in_no (b lo hi : Int) (w : World) (h : ¬ (lo ≤ b ∧ b ≤ hi)) : Calls Tryd.prog 34 #[.int .u8 b, .int .u8 lo, .int .u8 hi] w (Same (.bool false) w) := by
  by_cases h1 : lo ≤ b
  · have h2 : ¬ b ≤ hi := fun h2 => h ⟨h1, h2⟩
    have d2 : decide (b ≤ hi) = false := decide_eq_false h2
    clear h
    go_enter Tryd.func34, Tryd.ntmps34
    go_wp2
    go_ret
    exact ⟨rfl, rfl⟩
  · have d1 : decide (lo ≤ b) = false := decide_eq_false h1
    clear h
    go_enter Tryd.func34, Tryd.ntmps34
    go_wp2
    go_ret
    exact ⟨rfl, rfl⟩
theorem idx_at (l : List UInt8) {k : Nat} (h : k < l.length) : ∀ h', ((bs l)[k]'h').toNat = (l[k]'h).toNat := fun _ => rfl
set_option maxRecDepth 100000 in
set_option maxHeartbeats 1000000 in
theorem rright_any (l : List UInt8) (w : World) (hl : l.length ≤ 281474976710656) : Calls Tryd.prog 15 #[.string (bs l)] w (Same (.bool (rightB l)) w) := by
  have hs := bs_size l
  go_enter Tryd.func15, Tryd.ntmps15
  go_wp2
  go_loop [3] (fun v => ∃ pos : Nat, pos ≤ l.length ∧ v = .int .i64 pos ∧ Hid ((l.take pos).all isHx = true)) (fun v => l.length - (intOf v).toNat)
  case atStart => exact ⟨0, by omega, rfl, rfl⟩
  case round =>
    obtain ⟨pos, hpos, rfl, hall⟩ := hrel
    by_cases hp : pos < l.length
    · have hix := idx_at l hp
      have hid1 : Hid (isHx (l[pos]'hp) = true → (l.take (pos + 1)).all isHx = true) := by intro h; rw [all_take_succ hp, hall.out, h]; rfl
      have hid2 : Hid (isHx (l[pos]'hp) = false → rightB l = false) := by intro h; unfold rightB; rw [all_false hp h]; simp
      have hid3 := Lib.hid (isHx_yes (c := l[pos]'hp) (z := ((l[pos]'hp).toNat : Int)) rfl)
      have hid4 := Lib.hid (isHx_no (c := l[pos]'hp) (z := ((l[pos]'hp).toNat : Int)) rfl)
      have hz := UInt8.toNat_lt (l[pos]'hp)
      generalize isHx (l[pos]'hp) = H at *
      generalize (l[pos]'hp).toNat = c at *
      by_cases h1 : 48 ≤ (c : Int) ∧ (c : Int) ≤ 57
      · have hn := Lib.hid (hid1.out (hid3.out (.inl h1)))
        have k1 := fun W => in_yes (c : Int) 48 57 W h1.1 h1.2
        clear hid1 hid2 hid3 hid4 h1
        go_wp2_with fail
        refine (k1 _).mono ?_
        rintro e w' ⟨rfl, rfl⟩
        go_wp2
        go_round
        case rel => exact ⟨pos + 1, by omega, by go_num, hn⟩
        case measure => simp [intOf]; omega
      · have k1 := fun W => in_no (c : Int) 48 57 W h1
        by_cases h2 : 97 ≤ (c : Int) ∧ (c : Int) ≤ 102
        · have hn := Lib.hid (hid1.out (hid3.out (.inr h2)))
          have k2 := fun W => in_yes (c : Int) 97 102 W h2.1 h2.2
          clear hid1 hid2 hid3 hid4 h1 h2
          go_wp2_with fail
          (with_reducible refine (k1 _).mono ?_)
          rintro e w' ⟨rfl, rfl⟩
          go_wp2_with fail
          (with_reducible refine (k2 _).mono ?_)
          rintro e w' ⟨rfl, rfl⟩
          go_wp2
          go_round
          case rel => exact ⟨pos + 1, by omega, by go_num, hn⟩
          case measure => simp [intOf]; omega
        · have hn := Lib.hid (hid2.out (hid4.out (by omega)))
          have k2 := fun W => in_no (c : Int) 97 102 W h2
          clear hid1 hid2 hid3 hid4 h1 h2
          go_wp2_with fail
          (with_reducible refine (k1 _).mono ?_)
          rintro e w' ⟨rfl, rfl⟩
          go_wp2_with fail
          (with_reducible refine (k2 _).mono ?_)
          rintro e w' ⟨rfl, rfl⟩
          go_wp2
          go_ret
          exact ⟨by rw [hn.out]; first | done | rfl, rfl⟩
    · have hR : Hid (rightB l = ((l.length : Int) == 16)) := by
        have := hall.out
        rw [List.take_of_length_le (by omega)] at this
        unfold Hid rightB
        rw [this, Bool.and_true, Bool.eq_iff_iff]
        simp
        omega
      go_wp2
      go_ret
      exact ⟨by rw [hR.out]; first | done | rfl, rfl⟩
set_option maxRecDepth 100000 in
set_option maxHeartbeats 1000000 in
theorem rname_any (l : List UInt8) (w : World) (hl : l.length ≤ 281474976710656) : Calls Tryd.prog 17 #[.string (bs l)] w (Same (.bool (nameB l)) w) := by
  have hs := bs_size l
  go_enter Tryd.func17, Tryd.ntmps17
  go_wp2
  go_loop [3] (fun v => ∃ pos : Nat, pos ≤ l.length ∧ v = .int .i64 pos ∧ Hid (preB (l.take pos) = true)) (fun v => l.length - (intOf v).toNat)
  case atStart => exact ⟨0, by omega, rfl, rfl⟩
  case round =>
    obtain ⟨pos, hpos, rfl, hall⟩ := hrel
    by_cases hp : pos < l.length
    · have hix := idx_at l hp
      have hz := UInt8.toNat_lt (l[pos]'hp)
      have hbad : Hid (preB (l.take (pos + 1)) = false → nameB l = false) := by intro h; rw [nameB_pre, pre_mono h]; simp
      have hlc : Hid (isLc (l[pos]'hp) = true ↔ 97 ≤ ((l[pos]'hp).toNat : Int) ∧ ((l[pos]'hp).toNat : Int) ≤ 122) := isLc_iff rfl
      have hnc : Hid (isNc (l[pos]'hp) = true ↔ (97 ≤ ((l[pos]'hp).toNat : Int) ∧ ((l[pos]'hp).toNat : Int) ≤ 122) ∨ (48 ≤ ((l[pos]'hp).toNat : Int) ∧ ((l[pos]'hp).toNat : Int) ≤ 57) ∨ ((l[pos]'hp).toNat : Int) = 95) := isNc_iff rfl
      have hst : Hid ((pos = 0 → preB (l.take (pos + 1)) = isLc (l[pos]'hp)) ∧ (0 < pos → preB (l.take (pos + 1)) = isNc (l[pos]'hp))) := by
        refine ⟨fun e => ?_, fun e => ?_⟩
        · subst e; exact pre_take0 hp
        · rw [pre_take hp e, hall.out]; rfl
      generalize isLc (l[pos]'hp) = LC at *
      generalize isNc (l[pos]'hp) = NC at *
      generalize (l[pos]'hp).toNat = c at *
      by_cases h1 : 97 ≤ (c : Int) ∧ (c : Int) ≤ 122
      · have hn : Hid (preB (l.take (pos + 1)) = true) := by
          rcases Nat.eq_zero_or_pos pos with e | e
          · rw [Hid, hst.out.1 e]; exact hlc.out.2 h1
          · rw [Hid, hst.out.2 e]; exact hnc.out.2 (.inl h1)
        have k1 := fun W => in_yes (c : Int) 97 122 W h1.1 h1.2
        clear h1
        go_wp2_with fail
        refine (k1 _).mono ?_
        rintro e w' ⟨rfl, rfl⟩
        go_wp2
        go_round
        case rel => exact ⟨pos + 1, by omega, by go_num, hn⟩
        case measure => simp [intOf]; omega
      · have k1 := fun W => in_no (c : Int) 97 122 W h1
        by_cases hp0 : pos = 0
        · have hn : Hid (nameB l = false) := by
            refine hbad.out ?_
            rw [hst.out.1 hp0, Bool.eq_false_iff]
            exact fun h => h1 (hlc.out.1 h)
          have b0 : ((pos : Int) == 0) = true := by rw [hp0]; rfl
          clear hp0 h1
          go_wp2_with fail
          refine (k1 _).mono ?_
          rintro e w' ⟨rfl, rfl⟩
          go_wp2
          go_ret
          exact ⟨by rw [hn.out]; first | done | rfl, rfl⟩
        have b0 : ((pos : Int) == 0) = false := by simp; omega
        have hpp : 0 < pos := by omega
        by_cases h2 : 48 ≤ (c : Int) ∧ (c : Int) ≤ 57
        · have hn : Hid (preB (l.take (pos + 1)) = true) := by rw [Hid, hst.out.2 hpp]; exact hnc.out.2 (.inr (.inl h2))
          have k2 := fun W => in_yes (c : Int) 48 57 W h2.1 h2.2
          clear h1 h2 hp0
          go_wp2_with fail
          (with_reducible refine (k1 _).mono ?_)
          rintro e w' ⟨rfl, rfl⟩
          go_wp2_with fail
          (with_reducible refine (k2 _).mono ?_)
          rintro e w' ⟨rfl, rfl⟩
          go_wp2
          go_round
          case rel => exact ⟨pos + 1, by omega, by go_num, hn⟩
          case measure => simp [intOf]; omega
        have k2 := fun W => in_no (c : Int) 48 57 W h2
        by_cases h3 : c = 95
        · have hn : Hid (preB (l.take (pos + 1)) = true) := by rw [Hid, hst.out.2 hpp]; exact hnc.out.2 (.inr (.inr (by omega)))
          have b1 : ((c : Int) == 95) = true := by rw [h3]; rfl
          have b2 : ((c : Int) != 95) = false := by rw [h3]; rfl
          clear h1 h2 hp0 h3
          go_wp2_with fail
          (with_reducible refine (k1 _).mono ?_)
          rintro e w' ⟨rfl, rfl⟩
          go_wp2_with fail
          (with_reducible refine (k2 _).mono ?_)
          rintro e w' ⟨rfl, rfl⟩
          go_wp2
          go_round
          case rel => exact ⟨pos + 1, by omega, by go_num, hn⟩
          case measure => simp [intOf]; omega
        · have hn : Hid (nameB l = false) := by
            refine hbad.out ?_
            rw [hst.out.2 hpp, Bool.eq_false_iff]
            intro h
            rcases hnc.out.1 h with h | h | h
            · exact h1 h
            · exact h2 h
            · omega
          have b1 : ((c : Int) == 95) = false := by simp; omega
          have b2 : ((c : Int) != 95) = true := by simp; omega
          clear h1 h2 hp0 h3
          go_wp2_with fail
          (with_reducible refine (k1 _).mono ?_)
          rintro e w' ⟨rfl, rfl⟩
          go_wp2_with fail
          (with_reducible refine (k2 _).mono ?_)
          rintro e w' ⟨rfl, rfl⟩
          go_wp2
          go_ret
          exact ⟨by rw [hn.out]; first | done | rfl, rfl⟩
    · have hP : Hid (preB l = true) := by
        have := hall.out
        rw [List.take_of_length_le (by omega)] at this
        exact this
      by_cases h1 : l.length = 0
      · have hR : Hid (nameB l = false) := by rw [List.eq_nil_of_length_eq_zero h1]; rfl
        have d1 : decide (1 ≤ (l.length : Int)) = false := decide_eq_false (by omega)
        have d2 : decide (1 ≤ l.length) = false := decide_eq_false (by omega)
        clear h1
        go_wp2
        go_ret
        exact ⟨by rw [hR.out]; first | done | rfl, rfl⟩
      · have d1 : decide (1 ≤ (l.length : Int)) = true := decide_eq_true (by omega)
        have hR : Hid (nameB l = decide ((l.length : Int) ≤ 24)) := by
          unfold Hid
          rw [nameB_pre, hP.out]
          cases l with
          | nil => simp at h1
          | cons x r =>
            rw [Bool.eq_iff_iff]
            simp
            omega
        clear h1
        go_wp2
        go_ret
        exact ⟨by rw [hR.out]; first | done | rfl, rfl⟩
/-- the reference's Handle -/
theorem rhandle_any (n : List UInt8) (s : Int) (w : World) (hn : n.length ≤ 281474976710656) (hs : wf64 s) : Calls Tryd.prog 19 #[.string (bs n), .int .i64 s] w (Same (.string (bs (handleL n s))) w) := by
  have cn := fun W => rname_any n W hn
  cases hb : nameB n with
  | false =>
    rw [hb] at cn
    have hR : Hid (handleL n s = []) := handle_no (by rw [hb]; simp)
    clear hb
    go_enter Tryd.func19, Tryd.ntmps19
    go_wp2_with fail
    refine (cn _).mono ?_
    rintro e w1 ⟨rfl, rfl⟩
    go_wp2
    go_ret
    exact ⟨by rw [hR.out]; rfl, rfl⟩
  | true =>
    rw [hb] at cn
    have hnl := name_len hb
    by_cases h0 : s < 0
    · have hR : Hid (handleL n s = []) := handle_no (by omega)
      clear hb
      have d0 : decide (s < 0) = true := decide_eq_true h0
      go_enter Tryd.func19, Tryd.ntmps19
      go_wp2_with fail
      refine (cn _).mono ?_
      rintro e w1 ⟨rfl, rfl⟩
      go_wp2
      go_ret
      exact ⟨by rw [hR.out]; rfl, rfl⟩
    have d0 : decide (s < 0) = false := decide_eq_false h0
    by_cases h20 : s < 20
    · have hR : Hid (handleL n s = n ++ 64 :: itoa s) := handle_yes hb (by omega) h20
      have d1 : decide (19 < s) = false := decide_eq_false (by omega)
      have hil := itoa_length hs.1 hs.2
      have ct := fun W => rtext_any s W hs
      have a1 := bs_append n [64]
      have a2 := bs_append (n ++ [64]) (itoa s)
      have z1 := bs_size n
      have z2 := bs_size (n ++ [64])
      have z3 := bs_size (itoa s)
      rw [List.length_append, List.length_singleton] at z2
      have n1 : ¬ (9223372036854775807 < n.length + 1) := by omega
      have n2 : ¬ (9223372036854775807 < (bs (n ++ [64])).size + (bs (itoa s)).size) := by rw [z2, z3]; omega
      have e64 : (⟨#[64]⟩ : ByteArray) = bs [64] := rfl
      have z4 := bs_size [64]
      clear hb h0 h20
      generalize itoa s = t at *
      go_enter Tryd.func19, Tryd.ntmps19
      go_wp2_with fail
      refine (cn _).mono ?_
      rintro e w1 ⟨rfl, rfl⟩
      go_wp2_with fail
      refine (ct _).mono ?_
      rintro e w2 ⟨rfl, rfl⟩
      go_wp2
      go_ret
      exact ⟨by rw [hR.out]; rfl, rfl⟩
    · have hR : Hid (handleL n s = []) := handle_no (by omega)
      have d1 : decide (19 < s) = true := decide_eq_true (by omega)
      clear hb h20
      go_enter Tryd.func19, Tryd.ntmps19
      go_wp2_with fail
      refine (cn _).mono ?_
      rintro e w1 ⟨rfl, rfl⟩
      go_wp2
      go_ret
      exact ⟨by rw [hR.out]; rfl, rfl⟩
end Go.Proofs.YtgmlhgojkmpkkaaDoor
