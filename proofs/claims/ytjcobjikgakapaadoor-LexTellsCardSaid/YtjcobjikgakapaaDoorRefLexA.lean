/- The reference's lexer: bytes, words, texts, walked. -/
import Derived.Test.YtjcobjikgakapaaDoorWritesWalk
import Derived.Test.YtjcobjikgakapaaDoorRefParse
namespace Go.Proofs.YtjcobjikgakapaaDoor
open Go.ChangeShapes Go.WideShapes Go.ChangeAt Go.RowKit Go.Lib
set_option linter.unusedVariables false

theorem u8_eq (c d : UInt8) : c = d ↔ c.toNat = d.toNat := ⟨fun h => by rw [h], fun h => UInt8.toNat_inj.1 h⟩
theorem rblank_any (c : UInt8) (w : World) : Calls Tryd.prog 20 #[.int .u8 (c.toNat : Nat)] w (Same (.bool (isSp c)) w) := by
  have hi : isSp c = true ↔ c.toNat = 9 ∨ c.toNat = 10 ∨ c.toNat = 13 ∨ c.toNat = 32 := by
    simp only [isSp, Bool.or_eq_true, beq_iff_eq, u8_eq, or_assoc]
    exact Iff.rfl
  have hx := c.toNat_lt
  generalize c.toNat = x at *
  by_cases h : x = 9 ∨ x = 10 ∨ x = 13 ∨ x = 32
  · have H := Lib.hid (hi.2 h)
    clear hi
    rcases h with rfl | rfl | rfl | rfl
    all_goals
      go_enter Tryd.func20, Tryd.ntmps20
      go_wp2
      go_ret
      exact ⟨by rw [H.out]; rfl, rfl⟩
  · have H : Hid (isSp c = false) := by
      unfold Hid
      cases hq : isSp c with
      | false => rfl
      | true => exact absurd (hi.1 hq) h
    have n9 : ((x : Int) == 9) = false := beq_eq_false_iff_ne.2 (by omega)
    have n10 : ((x : Int) == 10) = false := beq_eq_false_iff_ne.2 (by omega)
    have n13 : ((x : Int) == 13) = false := beq_eq_false_iff_ne.2 (by omega)
    have n32 : ((x : Int) == 32) = false := beq_eq_false_iff_ne.2 (by omega)
    clear hi h
    go_enter Tryd.func20, Tryd.ntmps20
    go_wp2
    go_ret
    exact ⟨by rw [H.out]; rfl, rfl⟩
theorem rletter_any (c : UInt8) (w : World) : Calls Tryd.prog 29 #[.int .u8 (c.toNat : Nat)] w (Same (.bool (isLe c)) w) := by
  have hx := c.toNat_lt
  by_cases h1 : 97 ≤ c.toNat
  · have b1 : decide (97 ≤ (c.toNat : Int)) = true := decide_eq_true (by omega)
    by_cases h2 : c.toNat ≤ 122
    · have H : Hid (isLe c = true) := by unfold Hid; simp [isLe, h1, h2]
      have b2 : decide ((c.toNat : Int) ≤ 122) = true := decide_eq_true (by omega)
      generalize c.toNat = x at *
      go_enter Tryd.func29, Tryd.ntmps29
      go_wp2
      go_ret
      exact ⟨by rw [H.out]; rfl, rfl⟩
    · have H : Hid (isLe c = false) := by unfold Hid; simp [isLe, h2]
      have b2 : decide ((c.toNat : Int) ≤ 122) = false := decide_eq_false (by omega)
      generalize c.toNat = x at *
      go_enter Tryd.func29, Tryd.ntmps29
      go_wp2
      go_ret
      exact ⟨by rw [H.out]; rfl, rfl⟩
  · have H : Hid (isLe c = false) := by unfold Hid; simp [isLe, h1]
    have b1 : decide (97 ≤ (c.toNat : Int)) = false := decide_eq_false (by omega)
    generalize c.toNat = x at *
    go_enter Tryd.func29, Tryd.ntmps29
    go_wp2
    go_ret
    exact ⟨by rw [H.out]; rfl, rfl⟩
theorem rdigit_any (c : UInt8) (w : World) : Calls Tryd.prog 31 #[.int .u8 (c.toNat : Nat)] w (Same (.bool (isDi c)) w) := by
  have hx := c.toNat_lt
  by_cases h1 : 48 ≤ c.toNat
  · have b1 : decide (48 ≤ (c.toNat : Int)) = true := decide_eq_true (by omega)
    by_cases h2 : c.toNat ≤ 57
    · have H : Hid (isDi c = true) := by unfold Hid; simp [isDi, h1, h2]
      have b2 : decide ((c.toNat : Int) ≤ 57) = true := decide_eq_true (by omega)
      generalize c.toNat = x at *
      go_enter Tryd.func31, Tryd.ntmps31
      go_wp2
      go_ret
      exact ⟨by rw [H.out]; rfl, rfl⟩
    · have H : Hid (isDi c = false) := by unfold Hid; simp [isDi, h2]
      have b2 : decide ((c.toNat : Int) ≤ 57) = false := decide_eq_false (by omega)
      generalize c.toNat = x at *
      go_enter Tryd.func31, Tryd.ntmps31
      go_wp2
      go_ret
      exact ⟨by rw [H.out]; rfl, rfl⟩
  · have H : Hid (isDi c = false) := by unfold Hid; simp [isDi, h1]
    have b1 : decide (48 ≤ (c.toNat : Int)) = false := decide_eq_false (by omega)
    generalize c.toNat = x at *
    go_enter Tryd.func31, Tryd.ntmps31
    go_wp2
    go_ret
    exact ⟨by rw [H.out]; rfl, rfl⟩
set_option maxHeartbeats 1000000 in
theorem rword_any (l : List UInt8) (a : Nat) (w : World) (ha : a ≤ l.length) (hl : l.length ≤ 281474976710656) : Calls Tryd.prog 30 #[.string (bs l), .int .i64 (a : Nat)] w (Same (.int .i64 ((wordL (l.drop a)).length : Nat)) w) := by
  have hs := bs_size l
  go_enter Tryd.func30, Tryd.ntmps30
  go_wp2
  go_loop [5] (fun v => ∃ k : Nat, a + k ≤ l.length ∧ v = .int .i64 k ∧ Hid (∀ c ∈ (l.drop a).take k, isWo c = true)) (fun v => l.length - (intOf v).toNat)
  case atStart => exact ⟨0, by omega, rfl, by unfold Hid; simp⟩
  case round =>
    obtain ⟨k, hk, rfl, HA⟩ := hrel
    have fin : Hid (((l.drop a).drop k).head?.map isWo ≠ some true) → Hid ((wordL (l.drop a)).length = k) := fun h => by unfold Hid; rw [word_stop HA.out h.out]; simp; omega
    by_cases hlt : a + k < l.length
    · have hg := bs_at l hlt
      have hdk : (l.drop a).drop k = l[a + k] :: l.drop (a + k + 1) := by rw [List.drop_drop, List.drop_eq_getElem_cons hlt]
      have htk : (l.drop a).take (k + 1) = (l.drop a).take k ++ [l[a + k]] := by
        rw [List.take_succ_eq_append_getElem (by simp; omega), List.getElem_drop]
      have HN : isWo l[a + k] = true → Hid (∀ c ∈ (l.drop a).take (k + 1), isWo c = true) := by
        intro h c hc
        rw [htk, List.mem_append] at hc
        rcases hc with hc | hc
        · exact HA.out c hc
        · rw [List.mem_singleton] at hc; rw [hc]; exact h
      have HF : isWo l[a + k] = false → Hid (((l.drop a).drop k).head?.map isWo ≠ some true) := by
        intro h
        unfold Hid
        rw [hdk, List.head?_cons, Option.map_some, h]
        simp
      have hx : l[a + k].toNat < 256 := l[a + k].toNat_lt
      obtain ⟨c, hce⟩ : ∃ c, l[a + k] = c := ⟨_, rfl⟩
      rw [hce] at hg HN HF hx
      have cL := fun W => rletter_any c W
      have cD := fun W => rdigit_any c W
      have e95 : c = 95 ↔ c.toNat = 95 := u8_eq c 95
      have HE := Lib.hid e95
      clear hce hdk htk e95
      have hz : ((a : Int) + (k : Int)).toNat = a + k := by omega
      cases h1 : isLe c with
      | true =>
        have H := HN (by simp [isWo, h1])
        rw [h1] at cL
        clear HN HF fin HE h1
        generalize c.toNat = x at *
        go_wp2_with fail
        refine (Calls.mono (cL _) ?_)
        rintro e w' ⟨rfl, rfl⟩
        go_wp2_with fail
        go_round
        case rel => exact ⟨k + 1, by omega, by go_num, H⟩
        case measure => simp [intOf]; omega
      | false =>
        rw [h1] at cL
        cases h2 : isDi c with
        | true =>
          have H := HN (by simp [isWo, h2])
          rw [h2] at cD
          clear HN HF fin HE h1 h2
          generalize c.toNat = x at *
          go_wp2_with fail
          refine (Calls.mono (cL _) ?_)
          rintro e w' ⟨rfl, rfl⟩
          go_wp2_with fail
          refine (Calls.mono (cD _) ?_)
          rintro e w' ⟨rfl, rfl⟩
          go_wp2_with fail
          go_round
          case rel => exact ⟨k + 1, by omega, by go_num, H⟩
          case measure => simp [intOf]; omega
        | false =>
          rw [h2] at cD
          by_cases h3 : c.toNat = 95
          · have H := HN (by rw [HE.out.2 h3]; decide)
            clear HN HF fin HE h1 h2
            rw [h3] at hg hx cL cD
            clear h3
            go_wp2_with fail
            refine (Calls.mono (cL _) ?_)
            rintro e w' ⟨rfl, rfl⟩
            go_wp2_with fail
            refine (Calls.mono (cD _) ?_)
            rintro e w' ⟨rfl, rfl⟩
            go_wp2_with fail
            go_round
            case rel => exact ⟨k + 1, by omega, by go_num, H⟩
            case measure => simp [intOf]; omega
          · have b3 : ((c.toNat : Int) == 95) = false := beq_eq_false_iff_ne.2 (by omega)
            have hne : (c == 95) = false := beq_eq_false_iff_ne.2 (fun h => h3 (HE.out.1 h))
            have H := fin (HF (by simp [isWo, h1, h2, hne]))
            clear HN HF fin HE h1 h2 h3 hne
            generalize c.toNat = x at *
            go_wp2_with fail
            refine (Calls.mono (cL _) ?_)
            rintro e w' ⟨rfl, rfl⟩
            go_wp2_with fail
            refine (Calls.mono (cD _) ?_)
            rintro e w' ⟨rfl, rfl⟩
            go_wp2_with fail
            go_ret
            exact ⟨by rw [H.out]; rfl, rfl⟩
    · have H := fin (by unfold Hid; rw [List.drop_drop, List.drop_eq_nil_of_le (by omega)]; simp)
      have d1 : decide ((a : Int) + (k : Int) < (l.length : Int)) = false := decide_eq_false (by omega)
      have d2 : decide (a + k < l.length) = false := decide_eq_false (by omega)
      clear fin
      go_wp2_with fail
      go_ret
      exact ⟨by rw [H.out]; rfl, rfl⟩
def quoN (o : Option (List UInt8)) : Nat := match o with
  | some v => v.length + 2
  | none => 0
set_option maxHeartbeats 1000000 in
theorem rquoted_any (l : List UInt8) (a : Nat) (w : World) (ha : a < l.length) (hl : l.length ≤ 281474976710655) : Calls Tryd.prog 33 #[.string (bs l), .int .i64 (a : Nat)] w (Same (.int .i64 (quoN (textF 25 (l.drop (a + 1))) : Nat)) w) := by
  have hs := bs_size l
  go_enter Tryd.func33, Tryd.ntmps33
  go_wp2
  go_loop [5] (fun v => ∃ k : Nat, a + 1 + k ≤ l.length ∧ k ≤ 25 ∧ v = .int .i64 ((k : Nat) + 1) ∧ Hid (∀ c ∈ (l.drop (a + 1)).take k, c ≠ 34 ∧ ¬ (c.toNat < 32 ∨ 126 < c.toNat ∨ c = 92))) (fun v => l.length + 1 - (intOf v).toNat)
  case atStart => exact ⟨0, by omega, by omega, rfl, by unfold Hid; simp⟩
  case round =>
    obtain ⟨k, hk, h25, rfl, HA⟩ := hrel
    have HT := Lib.hid (textF_at k 25 (l.drop (a + 1)) HA.out (by simp; omega) h25)
    by_cases hlt : a + 1 + k < l.length
    · have d1 : decide ((a : Int) + ((k : Int) + 1) < (l.length : Int)) = true := decide_eq_true (by omega)
      by_cases hlt2 : k < 25
      · have d2 : decide ((k : Int) + 1 ≤ 25) = true := decide_eq_true (by omega)
        have hlt' : a + (k + 1) < l.length := by omega
        have hg := bs_at l hlt'
        have hx : l[a + (k + 1)].toNat < 256 := l[a + (k + 1)].toNat_lt
        have hdk : (l.drop (a + 1)).drop k = l[a + (k + 1)] :: l.drop (a + (k + 1) + 1) := by
          rw [List.drop_drop, show a + 1 + k = a + (k + 1) by omega, List.drop_eq_getElem_cons hlt']
        have htk : (l.drop (a + 1)).take (k + 1) = (l.drop (a + 1)).take k ++ [l[a + (k + 1)]] := by
          rw [List.take_succ_eq_append_getElem (by simp; omega), List.getElem_drop]
          congr 2
          congr 1
          omega
        have HD : Hid (textF 25 (l.drop (a + 1)) = if l[a + (k + 1)] = 34 then some ((l.drop (a + 1)).take k) else if l[a + (k + 1)].toNat < 32 ∨ 126 < l[a + (k + 1)].toNat ∨ l[a + (k + 1)] = 92 then none else textF 25 (l.drop (a + 1))) := by
          unfold Hid
          have h1 := HT.out
          rw [hdk, show 25 - k = (24 - k) + 1 by omega] at h1
          simp only [textF] at h1
          split
          · rename_i hq; rw [if_pos hq] at h1; rw [h1]; simp
          · rename_i hq
            rw [if_neg hq] at h1
            split
            · rename_i hb; rw [if_pos hb] at h1; rw [h1]; rfl
            · rfl
        have HN : l[a + (k + 1)] ≠ 34 → ¬ (l[a + (k + 1)].toNat < 32 ∨ 126 < l[a + (k + 1)].toNat ∨ l[a + (k + 1)] = 92) → Hid (∀ c ∈ (l.drop (a + 1)).take (k + 1), c ≠ 34 ∧ ¬ (c.toNat < 32 ∨ 126 < c.toNat ∨ c = 92)) := by
          intro h1 h2 c hc
          rw [htk, List.mem_append] at hc
          rcases hc with hc | hc
          · exact HA.out c hc
          · rw [List.mem_singleton] at hc; rw [hc]; exact ⟨h1, h2⟩
        have hlk : ((l.drop (a + 1)).take k).length = k := by simp; omega
        have e34 : l[a + (k + 1)] = 34 ↔ l[a + (k + 1)].toNat = 34 := u8_eq _ 34
        have e92 : l[a + (k + 1)] = 92 ↔ l[a + (k + 1)].toNat = 92 := u8_eq _ 92
        simp only [Ne, e34, e92] at HN HD
        obtain ⟨x, hxe⟩ : ∃ x, l[a + (k + 1)].toNat = x := ⟨_, rfl⟩
        rw [hxe] at hg HD HN hx
        clear hxe e34 e92 HT hdk htk
        have hz : ((a : Int) + ((k : Int) + 1)).toNat = a + (k + 1) := by omega
        have hz0 : 0 ≤ (a : Int) + ((k : Int) + 1) := by omega
        by_cases h34 : x = 34
        · have H : Hid (quoN (textF 25 (l.drop (a + 1))) = k + 2) := by unfold Hid; rw [HD.out, if_pos h34, quoN, hlk]
          subst h34
          clear HD HN hlk
          go_wp2
          go_ret
          exact ⟨by rw [H.out]; first | rfl | (simp; omega) | go_num, rfl⟩
        · have i34 : ((x : Int) == 34) = false := beq_eq_false_iff_ne.2 (by omega)
          by_cases h32 : x < 32
          · have H : Hid (quoN (textF 25 (l.drop (a + 1))) = 0) := by unfold Hid; rw [HD.out, if_neg h34, if_pos (.inl h32)]; rfl
            have b1 : decide ((x : Int) < 32) = true := decide_eq_true (by omega)
            clear HD HN h34 h32 hlk
            go_wp2
            go_ret
            exact ⟨by rw [H.out]; rfl, rfl⟩
          · have b1 : decide ((x : Int) < 32) = false := decide_eq_false (by omega)
            by_cases h126 : 126 < x
            · have H : Hid (quoN (textF 25 (l.drop (a + 1))) = 0) := by unfold Hid; rw [HD.out, if_neg h34, if_pos (.inr (.inl h126))]; rfl
              have b2 : decide (126 < (x : Int)) = true := decide_eq_true (by omega)
              clear HD HN h34 h32 h126 hlk
              go_wp2
              go_ret
              exact ⟨by rw [H.out]; rfl, rfl⟩
            · have b2 : decide (126 < (x : Int)) = false := decide_eq_false (by omega)
              by_cases h92 : x = 92
              · have H : Hid (quoN (textF 25 (l.drop (a + 1))) = 0) := by unfold Hid; rw [HD.out, if_neg h34, if_pos (.inr (.inr h92))]; rfl
                subst h92
                clear HD HN hlk
                go_wp2
                go_ret
                exact ⟨by rw [H.out]; rfl, rfl⟩
              · have i92 : ((x : Int) == 92) = false := beq_eq_false_iff_ne.2 (by omega)
                have H := HN h34 (by omega)
                clear HD HN h34 h32 h126 h92 hlk
                go_wp2
                go_round
                case rel => exact ⟨k + 1, by omega, by omega, by go_num, H⟩
                case measure => simp [intOf]; omega
      · have d2 : decide ((k : Int) + 1 ≤ 25) = false := decide_eq_false (by omega)
        have H : Hid (quoN (textF 25 (l.drop (a + 1))) = 0) := by unfold Hid; rw [HT.out, show 25 - k = 0 by omega]; rfl
        clear HT
        go_wp2
        go_ret
        exact ⟨by rw [H.out]; rfl, rfl⟩
    · have d1 : decide ((a : Int) + ((k : Int) + 1) < (l.length : Int)) = false := decide_eq_false (by omega)
      have H : Hid (quoN (textF 25 (l.drop (a + 1))) = 0) := by
        have hnil : (l.drop (a + 1)).drop k = [] := by rw [List.drop_drop]; exact List.drop_eq_nil_of_le (by omega)
        unfold Hid
        rw [HT.out, hnil]
        cases 25 - k <;> rfl
      clear HT
      go_wp2
      go_ret
      exact ⟨by rw [H.out]; rfl, rfl⟩
end Go.Proofs.YtjcobjikgakapaaDoor
