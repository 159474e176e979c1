/- Plain laws of decimal texts: what is written is read back; what a text of a number cannot be. -/
import Derived.Lib.ItoaMem
import Derived.Lib.AtoiAllCases
namespace Go.Proofs.YtjcaaiikccnpeaaDoor
open Go Go.Lib
set_option linter.unusedVariables false

def isDig (c : UInt8) : Prop := 48 ≤ c.toNat ∧ c.toNat ≤ 57
theorem dig_of {d : Nat} (h : d < 10) : (UInt8.ofNat (48 + d)).toNat = 48 + d := by
  rw [UInt8.toNat_ofNat']; omega
theorem parseUint10_snoc (l : List UInt8) (c : UInt8) : ∀ acc a, parseUint10 acc l = .ok a → isDig c → a * 10 + (c.toNat - 48) < 18446744073709551616 → parseUint10 acc (l ++ [c]) = .ok (a * 10 + (c.toNat - 48)) := by
  induction l with
  | nil =>
    intro acc a h hc hb
    simp only [parseUint10] at h
    injection h with h
    subst h
    unfold isDig at hc
    simp only [List.nil_append, parseUint10]
    rw [if_pos hc, if_neg (by omega), if_neg (by omega)]
  | cons x l ih =>
    intro acc a h hc hb
    simp only [List.cons_append, parseUint10] at h ⊢
    split at h
    · rename_i hx
      rw [if_pos hx]
      split at h
      · cases h
      · rename_i h1
        rw [if_neg h1]
        split at h
        · cases h
        · rename_i h2
          rw [if_neg h2]
          exact ih _ _ h hc hb
    · cases h
theorem parse_dec (u : Nat) : u < 18446744073709551616 → parseUint10 0 (decDigits u) = .ok u := by
  induction u using Nat.strongRecOn with
  | ind u ih =>
    intro hu
    rw [decDigits]
    by_cases h : u < 10
    · rw [dif_pos h]
      simp only [parseUint10]
      rw [dig_of h, if_pos (by omega), if_neg (by omega), if_neg (by omega)]
      congr 1
      omega
    · rw [dif_neg h]
      have h1 := ih (u / 10) (by omega) (by omega)
      have hd := dig_of (d := u % 10) (by omega)
      rw [parseUint10_snoc _ _ _ _ h1 (by unfold isDig; omega) (by omega), hd]
      congr 1
      omega
theorem dec_ne_nil (u : Nat) : decDigits u ≠ [] := by
  rw [decDigits]
  split <;> simp
theorem dec_all (u : Nat) : ∀ c ∈ decDigits u, isDig c := by
  induction u using Nat.strongRecOn with
  | ind u ih =>
    intro c hc
    rw [decDigits] at hc
    split at hc
    · rename_i h
      rw [List.mem_singleton] at hc
      subst hc
      have := dig_of h
      unfold isDig
      omega
    · rename_i h
      rw [List.mem_append] at hc
      rcases hc with hc | hc
      · exact ih _ (by omega) c hc
      · rw [List.mem_singleton] at hc
        subst hc
        have := dig_of (d := u % 10) (by omega)
        unfold isDig
        omega
theorem parse_mag (u : Nat) (hu : u < 18446744073709551616) : parseMag (decDigits u) = .ok u := by
  unfold parseMag
  rw [if_neg (dec_ne_nil u), parse_dec u hu]
/-- what is written is read back -/
theorem atoi_itoa {n : Int} (h1 : -9223372036854775808 ≤ n) (h2 : n ≤ 9223372036854775807) : atoiAll (itoa n) = .ok n := by
  unfold itoa
  by_cases h : n < 0
  · rw [if_pos h, atoiAll_minus, parse_mag _ (by omega)]
    simp only [signed]
    rw [if_neg (by omega)]
    congr 1
    omega
  · rw [if_neg h]
    have hm := parse_mag n.toNat (by omega)
    have hall := dec_all n.toNat
    cases hd : decDigits n.toNat with
    | nil => exact absurd hd (dec_ne_nil _)
    | cons c r =>
      rw [hd] at hm hall
      have hc := hall c (by simp)
      unfold isDig at hc
      rw [atoiAll_plain c r (by omega) (by omega), hm]
      simp only [signless]
      rw [if_neg (by omega)]
      congr 1
      omega
/-- the first digit is no 0, unless the text is that of 0 -/
theorem dec_head (u : Nat) : ∀ r, decDigits u = 48 :: r → r = [] := by
  induction u using Nat.strongRecOn with
  | ind u ih =>
    intro r hr
    rw [decDigits] at hr
    split at hr
    · simp at hr; exact hr.2
    · rename_i h
      cases hd : decDigits (u / 10) with
      | nil => exact absurd hd (dec_ne_nil _)
      | cons c t =>
        rw [hd] at hr
        simp at hr
        obtain ⟨rfl, rfl⟩ := hr
        have ht := ih _ (by omega) t hd
        subst ht
        have h1 := parse_dec (u / 10)
        rw [hd] at h1
        have hz : parseUint10 0 [48] = .ok 0 := by rfl
        by_cases hu : u / 10 < 18446744073709551616
        · rw [hz] at h1
          have := h1 hu
          injection this with this
          omega
        · -- one digit, so below 10
          exfalso
          rw [decDigits, dif_neg (by omega)] at hd
          have hl := congrArg List.length hd
          simp at hl
          exact dec_ne_nil _ hl
theorem itoa_cases (n : Int) : (0 ≤ n ∧ itoa n = decDigits n.toNat) ∨ (n < 0 ∧ itoa n = 45 :: decDigits n.natAbs) := by
  unfold itoa
  by_cases h : n < 0
  · right; exact ⟨h, by rw [if_pos h]⟩
  · left; exact ⟨by omega, by rw [if_neg h]⟩
theorem itoa_ne_nil (n : Int) : itoa n ≠ [] := by
  rcases itoa_cases n with ⟨_, h⟩ | ⟨_, h⟩ <;> rw [h]
  · exact dec_ne_nil _
  · simp
def okCh (c : UInt8) : Prop := isDig c ∨ c = 45
theorem itoa_all (n : Int) : ∀ c ∈ itoa n, okCh c := by
  intro c hc
  rcases itoa_cases n with ⟨_, h⟩ | ⟨_, h⟩ <;> rw [h] at hc
  · exact .inl (dec_all _ c hc)
  · simp at hc
    rcases hc with rfl | hc
    · exact .inr rfl
    · exact .inl (dec_all _ c hc)
theorem not_ok {c : UInt8} (h : c = 43 ∨ c = 32 ∨ c = 46) : ¬ okCh c := by
  unfold okCh isDig
  rcases h with rfl | rfl | rfl <;> decide
theorem itoa_bad_front (m n : Int) (c : UInt8) (h : c = 43 ∨ c = 32 ∨ c = 46) : itoa m ≠ c :: itoa n := fun e => not_ok h (itoa_all m c (by rw [e]; simp))
theorem itoa_bad_back (m n : Int) (c : UInt8) (h : c = 43 ∨ c = 32 ∨ c = 46) : itoa m ≠ itoa n ++ [c] := fun e => not_ok h (itoa_all m c (by rw [e]; simp))
theorem itoa_zero_front (m n : Int) : itoa m ≠ 48 :: itoa n := by
  intro e
  rcases itoa_cases m with ⟨_, h⟩ | ⟨_, h⟩ <;> rw [h] at e
  · exact itoa_ne_nil n (dec_head _ _ e)
  · simp at e
theorem itoa_minus_front (m n : Int) : itoa m ≠ 45 :: 45 :: itoa n := by
  intro e
  rcases itoa_cases m with ⟨_, h⟩ | ⟨_, h⟩ <;> rw [h] at e
  · have := dec_all m.toNat 45 (by rw [e]; simp)
    unfold isDig at this; revert this; decide
  · simp at e
    have := dec_all m.natAbs 45 (by rw [e]; simp)
    unfold isDig at this; revert this; decide
theorem dec_length (u : Nat) : ∀ k, u < 10 ^ k → 1 ≤ k → (decDigits u).length ≤ k := by
  induction u using Nat.strongRecOn with
  | ind u ih =>
    intro k hk h1
    rw [decDigits]
    split
    · simpa using h1
    · rename_i h
      obtain ⟨j, rfl⟩ : ∃ j, k = j + 1 := ⟨k - 1, by omega⟩
      rw [Nat.pow_succ] at hk
      have hj : 1 ≤ j := by
        rcases Nat.eq_zero_or_pos j with h0 | h0
        · subst h0; simp at hk; omega
        · exact h0
      have := ih (u / 10) (by omega) j (by omega) hj
      simp; omega
theorem itoa_length {n : Int} (h1 : -9223372036854775808 ≤ n) (h2 : n ≤ 9223372036854775807) : (itoa n).length ≤ 20 ∧ 1 ≤ (itoa n).length := by
  have hp : (10 : Nat) ^ 19 = 10000000000000000000 := by decide
  have := itoa_ne_nil n
  have h0 : 1 ≤ (itoa n).length := by
    cases h : itoa n with
    | nil => exact absurd h this
    | cons c r => simp
  refine ⟨?_, h0⟩
  rcases itoa_cases n with ⟨_, h⟩ | ⟨_, h⟩ <;> rw [h]
  · have := dec_length n.toNat 19 (by omega) (by omega); omega
  · have := dec_length n.natAbs 19 (by omega) (by omega); simp; omega
def wf64 (a : Int) : Prop := -9223372036854775808 ≤ a ∧ a ≤ 9223372036854775807
def parseI (l : List UInt8) (lo hi : Int) : Option Int :=
  match Lib.atoiAll l with
  | .ok n => if Lib.itoa n = l ∧ lo ≤ n ∧ n ≤ hi then some n else none
  | _ => none
theorem parse_of {l : List UInt8} {lo hi m : Int} (h1 : itoa m = l) (h2 : wf64 m) (h3 : lo ≤ m) (h4 : m ≤ hi) : parseI l lo hi = some m := by
  unfold parseI
  rw [← h1, atoi_itoa h2.1 h2.2]
  simp only
  rw [if_pos ⟨trivial, h3, h4⟩]
theorem of_parse {l : List UInt8} {lo hi m : Int} (h : parseI l lo hi = some m) : itoa m = l ∧ wf64 m ∧ lo ≤ m ∧ m ≤ hi := by
  unfold parseI at h
  split at h
  · rename_i n hn
    have hb := atoiAll_bounds hn
    split at h
    · rename_i hc
      injection h with h
      subst h
      exact ⟨hc.1, hb, hc.2⟩
    · cases h
  · cases h
end Go.Proofs.YtjcaaiikccnpeaaDoor
