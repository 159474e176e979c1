/- The lexer's word, text and sign, walked. -/
import Derived.Test.YtjcobjikgakapaaDoorNumBase
import Derived.Test.YtjcobjikgakapaaDoorCls
import Derived.Test.YtjcobjikgakapaaDoorLexLaws
namespace Go.Proofs.YtjcobjikgakapaaDoor
open Go.ChangeShapes Go.WideShapes Go.ChangeAt Go.RowKit Go.Lib
set_option linter.unusedVariables false

theorem bs_extract (l : List UInt8) (a b : Nat) : (bs l).extract a b = bs ((l.drop a).take (b - a)) := by
  apply ByteArray.ext
  simp [bs, ByteArray.data_extract]
theorem bs_at (l : List UInt8) {k : Nat} (h : k < l.length) : ∀ h', ((bs l)[k]'h').toNat = (l[k]'h).toNat := by
  intro h'
  simp only [bs]
  rfl
/-- the table of classes lies at block p -/
def ClsAt (w : World) (p : Nat) : Prop := ∀ i, i < 256 → w.cell? ⟨p, i, none⟩ = some (.int .u8 (clsN i : Nat))
theorem cls_sp {c : UInt8} : isSp c = true ↔ clsN c.toNat = 1 := by
  have := c.toNat_lt
  simp only [isSp, clsN, g3, g2, g1, Bool.or_eq_true, beq_iff_eq, ← UInt8.toNat_inj]
  repeat' split
  all_goals simp
  all_goals omega
theorem cls_le {c : UInt8} : isLe c = true ↔ clsN c.toNat = 2 := by
  have := c.toNat_lt
  simp only [isLe, clsN, g3, g2, g1, Bool.and_eq_true, decide_eq_true_eq]
  repeat' split
  all_goals first | omega | (simp; omega)
theorem cls_di {c : UInt8} : isDi c = true ↔ clsN c.toNat = 3 := by
  have := c.toNat_lt
  simp only [isDi, clsN, g3, g2, g1, Bool.and_eq_true, decide_eq_true_eq]
  repeat' split
  all_goals first | omega | (simp; omega)
theorem cls_un {c : UInt8} : c = 95 ↔ clsN c.toNat = 4 := by
  have := c.toNat_lt
  rw [← UInt8.toNat_inj]
  simp only [clsN, g3, g2, g1]
  show c.toNat = 95 ↔ _
  repeat' split
  all_goals omega
theorem cls_qu {c : UInt8} : c = 34 ↔ clsN c.toNat = 5 := by
  have := c.toNat_lt
  rw [← UInt8.toNat_inj]
  simp only [clsN, g3, g2, g1]
  show c.toNat = 34 ↔ _
  repeat' split
  all_goals omega
theorem cls_wo {c : UInt8} : isWo c = true ↔ clsN c.toNat = 2 ∨ clsN c.toNat = 3 ∨ clsN c.toNat = 4 := by
  rw [← cls_le, ← cls_di, ← cls_un]
  simp [isWo, or_assoc]
theorem word_stop {l : List UInt8} {k : Nat} (h : ∀ c ∈ l.take k, isWo c = true) (hn : (l.drop k).head?.map isWo ≠ some true) : wordL l = l.take k := by
  have := word_append h hn
  rwa [List.take_append_drop] at this
set_option maxHeartbeats 1000000 in
theorem word_any (l : List UInt8) (p : Nat) (w : World) (hC : ClsAt w p) (hl : l.length ≤ 281474976710656) : Calls Tryd.prog 25 #[.pointer (some ⟨p, 0, none⟩), .string (bs l)] w (StrPost w (wordL l)) := by
  have hs := bs_size l
  go_enter Tryd.func25, Tryd.ntmps25
  go_wp2
  go_loopw [5] (fun v wr => ∃ k n : Nat, k ≤ l.length ∧ v = .int .i64 k ∧ Hid (∀ c ∈ l.take k, isWo c = true) ∧ wr = w.drewN n) (fun v _ => l.length - (intOf v).toNat)
  case atStart => exact ⟨0, 0, by omega, rfl, by unfold Hid; simp, rfl⟩
  case round =>
    obtain ⟨k, n, hk, rfl, HA, rfl⟩ := hrel
    have fin : Hid ((l.drop k).head?.map isWo ≠ some true) → Hid (wordL l = l.take k) := fun h => word_stop HA.out h.out
    have hex : (bs l).extract 0 k = bs (l.take k) := by rw [bs_extract]; simp
    by_cases hlt : k < l.length
    · have d1 : decide ((k : Int) < (l.length : Int)) = true := decide_eq_true (by omega)
      have hg := bs_at l hlt
      have hx : l[k].toNat < 256 := l[k].toNat_lt
      have hcell := hC _ hx
      have HW := Lib.hid (cls_wo (c := l[k]))
      have HN : isWo l[k] = true → Hid (∀ c ∈ l.take (k + 1), isWo c = true) := by
        intro h c hc
        rw [List.take_succ_eq_append_getElem hlt, List.mem_append] at hc
        rcases hc with hc | hc
        · exact HA.out c hc
        · rw [List.mem_singleton] at hc; rw [hc]; exact h
      have HF : isWo l[k] = false → Hid ((l.drop k).head?.map isWo ≠ some true) := by
        intro h
        unfold Hid
        rw [List.drop_eq_getElem_cons hlt, List.head?_cons, Option.map_some, h]
        simp
      obtain ⟨x, hxe⟩ : ∃ x, l[k].toNat = x := ⟨_, rfl⟩
      rw [hxe] at hg hcell HW hx
      clear hxe
      by_cases h2 : clsN x = 2
      · have H := HN (HW.out.2 (.inl h2))
        rw [h2] at hcell
        clear HN HF fin h2 HW hC
        go_wp2
        go_quiet (fail)
        go_wp2
        go_roundw
        case rel => exact ⟨k + 1, _, by omega, by go_num, H, by first | rfl | (simp; rfl)⟩
        case measure => simp [intOf]; omega
      · by_cases h3 : clsN x = 3
        · have H := HN (HW.out.2 (.inr (.inl h3)))
          rw [h3] at hcell
          clear HN HF fin h2 h3 HW hC
          go_wp2
          go_quiet (fail)
          go_wp2
          go_roundw
          case rel => exact ⟨k + 1, _, by omega, by go_num, H, by first | rfl | (simp; rfl)⟩
          case measure => simp [intOf]; omega
        · by_cases h4 : clsN x = 4
          · have H := HN (HW.out.2 (.inr (.inr h4)))
            rw [h4] at hcell
            clear HN HF fin h2 h3 h4 HW hC
            go_wp2
            go_quiet (fail)
            go_wp2
            go_roundw
            case rel => exact ⟨k + 1, _, by omega, by go_num, H, by first | rfl | (simp; rfl)⟩
            case measure => simp [intOf]; omega
          · have hno : isWo l[k] = false := by
              cases h : isWo l[k] with
              | false => rfl
              | true => rcases HW.out.1 h with h | h | h <;> contradiction
            have H := fin (HF hno)
            generalize clsN x = cn at *
            have e2 : ((cn : Int) == 2) = false := beq_eq_false_iff_ne.2 (by omega)
            have e3 : ((cn : Int) == 3) = false := beq_eq_false_iff_ne.2 (by omega)
            have e4 : ((cn : Int) == 4) = false := beq_eq_false_iff_ne.2 (by omega)
            clear HN HF fin h2 h3 h4 HW hC hno
            go_wp2
            go_quiet (fail)
            go_wp2
            go_ret
            exact ⟨by rw [H.out]; rfl, below_drewN (Below.refl _ _) _⟩
    · have d1 : decide ((k : Int) < (l.length : Int)) = false := decide_eq_false (by omega)
      have H := fin (by unfold Hid; rw [List.drop_eq_nil_of_le (by omega)]; simp)
      clear fin hC
      go_wp2
      go_quiet (fail)
      go_wp2
      go_ret
      exact ⟨by rw [H.out]; rfl, below_drewN (Below.refl _ _) _⟩
/-! ### text -/
/-- what the first k bytes say of a text -/
theorem textF_at : ∀ (k f : Nat) (l : List UInt8), (∀ c ∈ l.take k, c ≠ 34 ∧ ¬ (c.toNat < 32 ∨ 126 < c.toNat ∨ c = 92)) → k ≤ l.length → k ≤ f → textF f l = (textF (f - k) (l.drop k)).map (l.take k ++ ·) := by
  intro k
  induction k with
  | zero =>
    intro f l _ _ _
    simp only [Nat.sub_zero, List.drop_zero, List.take_zero]
    cases textF f l <;> simp
  | succ k ih =>
    intro f l h hl hf
    cases l with
    | nil => simp at hl
    | cons c r =>
      obtain ⟨g, rfl⟩ : ∃ g, f = g + 1 := ⟨f - 1, by omega⟩
      have hc := h c (by simp)
      simp only [textF]
      rw [if_neg hc.1, if_neg hc.2, ih g r (fun d hd => h d (by simp [hd])) (by simpa using hl) (by omega)]
      rw [show g + 1 - (k + 1) = g - k by omega]
      simp only [List.drop_succ_cons, List.take_succ_cons]
      cases textF (g - k) (r.drop k) <;> simp
def TextPost (o : Option (List UInt8)) (w : World) (e : Ending) (w' : World) : Prop := e = .returned (.tuple #[.string (bs (o.getD [])), .bool o.isSome]) ∧ w = w'
set_option maxHeartbeats 1000000 in
theorem lextext_any (l : List UInt8) (w : World) (hl : l.length ≤ 281474976710656) : Calls Tryd.prog 27 #[.string (bs l)] w (TextPost (textF 25 l) w) := by
  have hs := bs_size l
  have hnil : bs [] = (⟨#[]⟩ : ByteArray) := rfl
  go_enter Tryd.func27, Tryd.ntmps27
  go_wp2
  go_loop [4] (fun v => ∃ k : Nat, k ≤ l.length ∧ k ≤ 25 ∧ v = .int .i64 k ∧ Hid (∀ c ∈ l.take k, c ≠ 34 ∧ ¬ (c.toNat < 32 ∨ 126 < c.toNat ∨ c = 92))) (fun v => l.length - (intOf v).toNat)
  case atStart => exact ⟨0, by omega, by omega, rfl, by unfold Hid; simp⟩
  case round =>
    obtain ⟨k, hk, h25, rfl, HA⟩ := hrel
    have hex : (bs l).extract 0 k = bs (l.take k) := by rw [bs_extract]; simp
    have HT := Lib.hid (textF_at k 25 l HA.out hk h25)
    have none' : Hid (textF 25 l = none) → Hid (TextPost (textF 25 l) w (.returned (.tuple #[.string ⟨#[]⟩, .bool false])) w) := fun h => ⟨by rw [h.out]; rfl, rfl⟩
    by_cases hlt : k < l.length
    · have d1 : decide ((k : Int) < (l.length : Int)) = true := decide_eq_true (by omega)
      by_cases hlt2 : k < 25
      · have d2 : decide ((k : Int) ≤ 24) = true := decide_eq_true (by omega)
        have hg := bs_at l hlt
        have hx : l[k].toNat < 256 := l[k].toNat_lt
        have HD : Hid (textF 25 l = if l[k] = 34 then some (l.take k) else if l[k].toNat < 32 ∨ 126 < l[k].toNat ∨ l[k] = 92 then none else textF 25 l) := by
          unfold Hid
          have h1 := HT.out
          rw [List.drop_eq_getElem_cons hlt, show 25 - k = (24 - k) + 1 by omega] at h1
          simp only [textF] at h1
          split
          · rename_i hq; rw [if_pos hq] at h1; rw [h1]; simp
          · rename_i hq
            rw [if_neg hq] at h1
            split
            · rename_i hb; rw [if_pos hb] at h1; rw [h1]; rfl
            · rfl
        have HN : l[k] ≠ 34 → ¬ (l[k].toNat < 32 ∨ 126 < l[k].toNat ∨ l[k] = 92) → Hid (∀ c ∈ l.take (k + 1), c ≠ 34 ∧ ¬ (c.toNat < 32 ∨ 126 < c.toNat ∨ c = 92)) := by
          intro h1 h2 c hc
          rw [List.take_succ_eq_append_getElem hlt, List.mem_append] at hc
          rcases hc with hc | hc
          · exact HA.out c hc
          · rw [List.mem_singleton] at hc; rw [hc]; exact ⟨h1, h2⟩
        have e34 : l[k] = 34 ↔ l[k].toNat = 34 := ⟨fun h => by rw [h]; rfl, fun h => UInt8.toNat_inj.1 h⟩
        have e92 : l[k] = 92 ↔ l[k].toNat = 92 := ⟨fun h => by rw [h]; rfl, fun h => UInt8.toNat_inj.1 h⟩
        simp only [Ne, e34, e92] at HN HD
        obtain ⟨x, hxe⟩ : ∃ x, l[k].toNat = x := ⟨_, rfl⟩
        rw [hxe] at hg HD HN hx
        clear hxe e34 e92 HT
        by_cases h34 : x = 34
        · have H : Hid (textF 25 l = some (l.take k)) := by unfold Hid; rw [HD.out, if_pos h34]
          subst h34
          clear HD HN none'
          go_wp2
          go_ret2
          exact ⟨by rw [H.out]; rfl, rfl⟩
        · have i34 : ((x : Int) == 34) = false := beq_eq_false_iff_ne.2 (by omega)
          by_cases h32 : x < 32
          · have H : Hid (textF 25 l = none) := by unfold Hid; rw [HD.out, if_neg h34, if_pos (.inl h32)]
            have b1 : decide ((x : Int) < 32) = true := decide_eq_true (by omega)
            clear HD HN none' h34 h32
            go_wp2
            go_ret2
            exact ⟨by rw [H.out]; rfl, rfl⟩
          · have b1 : decide ((x : Int) < 32) = false := decide_eq_false (by omega)
            by_cases h126 : 126 < x
            · have H : Hid (textF 25 l = none) := by unfold Hid; rw [HD.out, if_neg h34, if_pos (.inr (.inl h126))]
              have b2 : decide (126 < (x : Int)) = true := decide_eq_true (by omega)
              clear HD HN none' h34 h32 h126
              go_wp2
              go_ret2
              exact ⟨by rw [H.out]; rfl, rfl⟩
            · have b2 : decide (126 < (x : Int)) = false := decide_eq_false (by omega)
              by_cases h92 : x = 92
              · have H : Hid (textF 25 l = none) := by unfold Hid; rw [HD.out, if_neg h34, if_pos (.inr (.inr h92))]
                subst h92
                clear HD HN none'
                go_wp2
                go_ret2
                exact ⟨by rw [H.out]; rfl, rfl⟩
              · have i92 : ((x : Int) == 92) = false := beq_eq_false_iff_ne.2 (by omega)
                have H := HN h34 (by omega)
                clear HD HN none' h34 h32 h126 h92
                go_wp2
                go_round
                case rel => exact ⟨k + 1, by omega, by omega, by go_num, H⟩
                case measure => simp [intOf]; omega
      · have d2 : decide ((k : Int) ≤ 24) = false := decide_eq_false (by omega)
        have H : Hid (textF 25 l = none) := by unfold Hid; rw [HT.out, show 25 - k = 0 by omega]; rfl
        clear HT none'
        go_wp2
        go_ret2
        exact ⟨by rw [H.out]; rfl, rfl⟩
    · have d1 : decide ((k : Int) < (l.length : Int)) = false := decide_eq_false (by omega)
      have H : Hid (textF 25 l = none) := by
        unfold Hid
        rw [HT.out, List.drop_eq_nil_of_le (by omega)]
        cases 25 - k <;> rfl
      clear HT none'
      go_wp2
      go_ret2
      exact ⟨by rw [H.out]; rfl, rfl⟩
end Go.Proofs.YtjcobjikgakapaaDoor
