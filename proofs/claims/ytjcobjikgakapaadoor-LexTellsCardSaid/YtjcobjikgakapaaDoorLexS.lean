/- The lexer's sign, walked. -/
import Derived.Test.YtjcobjikgakapaaDoorLexW
import Derived.Lib.IndexAny
namespace Go.Proofs.YtjcobjikgakapaaDoor
open Go.ChangeShapes Go.WideShapes Go.ChangeAt Go.RowKit Go.Lib
set_option linter.unusedVariables false

theorem prefix2 (l : List UInt8) (a b : UInt8) : Lib.hasPrefix l [a, b] = decide (l.take 2 = [a, b]) := by
  rw [← Lib.hasPrefix_of_take]
  by_cases h : l.take 2 = [a, b]
  · have hl : 2 ≤ l.length := by
      have := congrArg List.length h
      simp at this; omega
    simp [h, hl]
  · have : (l.take 2 == [a, b]) = false := by simpa using h
    simp only [List.length_cons, List.length_nil, this, Bool.and_false, h, decide_false]
theorem pre_any (l : List UInt8) (a b : UInt8) (w : World) : Calls Tryd.prog 41 #[.string (bs l), .string { data := #[a, b] }] w (Same (.bool (decide (l.take 2 = [a, b]))) w) := by
  refine (Tryd.strings_HasPrefix (bs l) { data := #[a, b] } w).mono ?_
  rintro e w' ⟨rfl, rfl⟩
  refine ⟨?_, rfl⟩
  rw [bs_data, ← prefix2]
theorem idx_any (c : Nat) (hc : c < 256) (w : World) : Calls Tryd.prog 42 #[.string { data := #[40, 41, 44, 58, 61, 60, 62, 43, 45, 42, 47, 37] }, .int .u8 (c : Nat)] w (Same (.int .i64 (Lib.indexByte short1 c.toUInt8)) w) := by
  refine (Tryd.strings_IndexByte { data := #[40, 41, 44, 58, 61, 60, 62, 43, 45, 42, 47, 37] } (c : Nat) w).mono ?_
  rintro e w' ⟨rfl, rfl⟩
  exact ⟨rfl, rfl⟩
theorem idx_iff (c : UInt8) : 0 ≤ Lib.indexByte short1 c ↔ c ∈ short1 := by
  have h := Lib.contains_iff_indexByte short1 c
  rw [Bool.eq_iff_iff, decide_eq_true_iff] at h
  rw [← h, List.contains_iff_mem]
set_option maxHeartbeats 1000000 in
theorem sign_any (c : UInt8) (r : List UInt8) (w : World) (hl : (c :: r).length ≤ 281474976710656) : Calls Tryd.prog 28 #[.string (bs (c :: r))] w (Same (.string (bs (signL (c :: r)))) w) := by
  obtain ⟨l, hL⟩ : ∃ l, l = c :: r := ⟨_, rfl⟩
  have hg : ∀ h, ((bs l)[0]'h).toNat = c.toNat := by rw [hL]; intro h; rfl
  have hlen : l.length = r.length + 1 := by rw [hL]; rfl
  have hpos : 0 < l.length := by omega
  have hex : (bs l).extract 0 1 = bs [c] := by rw [bs_extract, hL]; simp
  have HS : Hid (signL l = if l.take 2 ∈ long2 then l.take 2 else if c ∈ short1 then [c] else []) := by
    unfold Hid
    rw [hL, signL]
    rw [if_neg (show ¬ (c :: r).head? = none by simp)]
    rfl
  rw [← hL] at hl ⊢
  have hs := bs_size l
  clear hL hlen
  have hc := idx_any c.toNat c.toNat_lt
  have hco : c.toNat.toUInt8 = c := by simp
  rw [hco] at hc
  have HI := Lib.hid (idx_iff c)
  have i0 : ∀ w, (Instr.index 64 (.agg #[.string { data := #[61, 61] }, .string { data := #[33, 61] }, .string { data := #[60, 61] }, .string { data := #[62, 61] }]) (.int .i64 0)).run Tryd.prog w = .ok (.string { data := #[61, 61] }) w := fun _ => by kernel_rfl
  have i1 : ∀ w, (Instr.index 64 (.agg #[.string { data := #[61, 61] }, .string { data := #[33, 61] }, .string { data := #[60, 61] }, .string { data := #[62, 61] }]) (.int .i64 1)).run Tryd.prog w = .ok (.string { data := #[33, 61] }) w := fun _ => by kernel_rfl
  have i2 : ∀ w, (Instr.index 64 (.agg #[.string { data := #[61, 61] }, .string { data := #[33, 61] }, .string { data := #[60, 61] }, .string { data := #[62, 61] }]) (.int .i64 2)).run Tryd.prog w = .ok (.string { data := #[60, 61] }) w := fun _ => by kernel_rfl
  have i3 : ∀ w, (Instr.index 64 (.agg #[.string { data := #[61, 61] }, .string { data := #[33, 61] }, .string { data := #[60, 61] }, .string { data := #[62, 61] }]) (.int .i64 3)).run Tryd.prog w = .ok (.string { data := #[62, 61] }) w := fun _ => by kernel_rfl
  have b0 : Hid ((⟨#[61, 61]⟩ : ByteArray) = bs [61, 61]) := rfl
  have b1 : Hid ((⟨#[33, 61]⟩ : ByteArray) = bs [33, 61]) := rfl
  have b2 : Hid ((⟨#[60, 61]⟩ : ByteArray) = bs [60, 61]) := rfl
  have b3 : Hid ((⟨#[62, 61]⟩ : ByteArray) = bs [62, 61]) := rfl
  have b9 : Hid ((⟨#[]⟩ : ByteArray) = bs []) := rfl
  generalize hcc : c.toNat = x at *
  have hx : x < 256 := by rw [← hcc]; exact c.toNat_lt
  clear hcc hco
  go_enter Tryd.func28, Tryd.ntmps28
  go_wp2
  go_loop [6, 4] (fun v _ => ∃ k : Nat, k ≤ 4 ∧ v = .int .i64 k ∧ Hid ((0 < k → l.take 2 ≠ [61, 61]) ∧ (1 < k → l.take 2 ≠ [33, 61]) ∧ (2 < k → l.take 2 ≠ [60, 61]) ∧ (3 < k → l.take 2 ≠ [62, 61]))) (fun v _ => 4 - (intOf v).toNat)
  case atStart => exact ⟨0, by omega, rfl, by unfold Hid; refine ⟨?_, ?_, ?_, ?_⟩ <;> (intro h; omega)⟩
  case round =>
    obtain ⟨k, hk, rfl, HA⟩ := hrel
    by_cases hlt : k < 4
    · rcases (by omega : k = 0 ∨ k = 1 ∨ k = 2 ∨ k = 3) with rfl | rfl | rfl | rfl
      · go_wp2_with fail
        refine (pre_any l 61 61 w).mono ?_
        by_cases h : l.take 2 = [61, 61]
        · have HR : Hid (signL l = [61, 61]) := by unfold Hid; rw [HS.out, if_pos (by rw [h]; decide), h]
          have hd : decide (l.take 2 = [61, 61]) = true := decide_eq_true h
          rw [hd]
          rintro e w' ⟨rfl, rfl⟩
          clear h hd
          go_wp2
          go_ret
          exact ⟨by rw [HR.out, ← b0.out]; rfl, rfl⟩
        · have H : Hid ((0 < 1 → l.take 2 ≠ [61, 61]) ∧ (1 < 1 → l.take 2 ≠ [33, 61]) ∧ (2 < 1 → l.take 2 ≠ [60, 61]) ∧ (3 < 1 → l.take 2 ≠ [62, 61])) := ⟨fun _ => h, by omega, by omega, by omega⟩
          have hd : decide (l.take 2 = [61, 61]) = false := decide_eq_false h
          rw [hd]
          rintro e w' ⟨rfl, rfl⟩
          clear h hd
          go_wp2
          go_round
          case rel => exact ⟨1, by omega, rfl, H⟩
          case measure => simp [intOf]
      · go_wp2_with fail
        refine (pre_any l 33 61 w).mono ?_
        by_cases h : l.take 2 = [33, 61]
        · have HR : Hid (signL l = [33, 61]) := by unfold Hid; rw [HS.out, if_pos (by rw [h]; decide), h]
          have hd : decide (l.take 2 = [33, 61]) = true := decide_eq_true h
          rw [hd]
          rintro e w' ⟨rfl, rfl⟩
          clear h hd
          go_wp2
          go_ret
          exact ⟨by rw [HR.out, ← b1.out]; rfl, rfl⟩
        · have H : Hid ((0 < 2 → l.take 2 ≠ [61, 61]) ∧ (1 < 2 → l.take 2 ≠ [33, 61]) ∧ (2 < 2 → l.take 2 ≠ [60, 61]) ∧ (3 < 2 → l.take 2 ≠ [62, 61])) := ⟨fun _ => HA.out.1 (by omega), fun _ => h, by omega, by omega⟩
          have hd : decide (l.take 2 = [33, 61]) = false := decide_eq_false h
          rw [hd]
          rintro e w' ⟨rfl, rfl⟩
          clear h hd
          go_wp2
          go_round
          case rel => exact ⟨2, by omega, rfl, H⟩
          case measure => simp [intOf]
      · go_wp2_with fail
        refine (pre_any l 60 61 w).mono ?_
        by_cases h : l.take 2 = [60, 61]
        · have HR : Hid (signL l = [60, 61]) := by unfold Hid; rw [HS.out, if_pos (by rw [h]; decide), h]
          have hd : decide (l.take 2 = [60, 61]) = true := decide_eq_true h
          rw [hd]
          rintro e w' ⟨rfl, rfl⟩
          clear h hd
          go_wp2
          go_ret
          exact ⟨by rw [HR.out, ← b2.out]; rfl, rfl⟩
        · have H : Hid ((0 < 3 → l.take 2 ≠ [61, 61]) ∧ (1 < 3 → l.take 2 ≠ [33, 61]) ∧ (2 < 3 → l.take 2 ≠ [60, 61]) ∧ (3 < 3 → l.take 2 ≠ [62, 61])) := ⟨fun _ => HA.out.1 (by omega), fun _ => HA.out.2.1 (by omega), fun _ => h, by omega⟩
          have hd : decide (l.take 2 = [60, 61]) = false := decide_eq_false h
          rw [hd]
          rintro e w' ⟨rfl, rfl⟩
          clear h hd
          go_wp2
          go_round
          case rel => exact ⟨3, by omega, rfl, H⟩
          case measure => simp [intOf]
      · go_wp2_with fail
        refine (pre_any l 62 61 w).mono ?_
        by_cases h : l.take 2 = [62, 61]
        · have HR : Hid (signL l = [62, 61]) := by unfold Hid; rw [HS.out, if_pos (by rw [h]; decide), h]
          have hd : decide (l.take 2 = [62, 61]) = true := decide_eq_true h
          rw [hd]
          rintro e w' ⟨rfl, rfl⟩
          clear h hd
          go_wp2
          go_ret
          exact ⟨by rw [HR.out, ← b3.out]; rfl, rfl⟩
        · have H : Hid ((0 < 4 → l.take 2 ≠ [61, 61]) ∧ (1 < 4 → l.take 2 ≠ [33, 61]) ∧ (2 < 4 → l.take 2 ≠ [60, 61]) ∧ (3 < 4 → l.take 2 ≠ [62, 61])) := ⟨fun _ => HA.out.1 (by omega), fun _ => HA.out.2.1 (by omega), fun _ => HA.out.2.2.1 (by omega), fun _ => h⟩
          have hd : decide (l.take 2 = [62, 61]) = false := decide_eq_false h
          rw [hd]
          rintro e w' ⟨rfl, rfl⟩
          clear h hd
          go_wp2
          go_round
          case rel => exact ⟨4, by omega, rfl, H⟩
          case measure => simp [intOf]
    · obtain rfl : k = 4 := by omega
      have hno : l.take 2 ∉ long2 := by
        obtain ⟨h1, h2, h3, h4⟩ := HA.out
        simp [long2]
        exact ⟨h1 (by omega), h2 (by omega), h3 (by omega), h4 (by omega)⟩
      by_cases hm : c ∈ short1
      · have HR : Hid (signL l = [c]) := by unfold Hid; rw [HS.out, if_neg hno, if_pos hm]
        have hd : decide (0 ≤ Lib.indexByte short1 c) = true := decide_eq_true (HI.out.2 hm)
        generalize Lib.indexByte short1 c = z at *
        clear hno hm HS
        go_wp2_with fail
        refine (hc _).mono ?_
        rintro e w' ⟨rfl, rfl⟩
        go_wp2
        go_ret
        exact ⟨by rw [HR.out]; rfl, rfl⟩
      · have HR : Hid (signL l = []) := by unfold Hid; rw [HS.out, if_neg hno, if_neg hm]
        have hd : decide (0 ≤ Lib.indexByte short1 c) = false := decide_eq_false (fun h => hm (HI.out.1 h))
        generalize Lib.indexByte short1 c = z at *
        clear hno hm HS
        go_wp2_with fail
        refine (hc _).mono ?_
        rintro e w' ⟨rfl, rfl⟩
        go_wp2
        go_ret
        exact ⟨by rw [HR.out]; rfl, rfl⟩
end Go.Proofs.YtjcobjikgakapaaDoor
