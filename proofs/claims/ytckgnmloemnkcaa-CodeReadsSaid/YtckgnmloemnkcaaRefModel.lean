/- The reference's way to read a varint: its length, then its value. -/
import Derived.Test.YtckgnmloemnkcaaPure
namespace Go.Proofs.Ytckgnmloemnkcaa
set_option linter.unusedVariables false

def lenF : Nat → Nat → List UInt8 → Nat
  | 0, _, _ => 0
  | _ + 1, _, [] => 0
  | k + 1, i, d :: r => if d.toNat < 128 then (if 0 < d.toNat ∨ i = 0 then i + 1 else 0) else lenF k (i + 1) r
def valF : List UInt8 → Nat
  | [] => 0
  | d :: r => d.toNat % 128 + 128 * valF r
theorem lenF_le (k : Nat) : ∀ i l, lenF k i l = 0 ∨ (i < lenF k i l ∧ lenF k i l ≤ i + l.length ∧ lenF k i l ≤ i + k) := by
  induction k with
  | zero => intro i l; left; rfl
  | succ k ih =>
    intro i l
    cases l with
    | nil => left; rfl
    | cons d r =>
      unfold lenF
      split
      · split
        · right; simp
        · left; rfl
      · rcases ih (i + 1) r with h | h
        · left; exact h
        · right; simp only [List.length_cons]; omega
theorem valF_lt (l : List UInt8) : valF l < 128 ^ l.length := by
  induction l with
  | nil => simp [valF]
  | cons d r ih =>
    unfold valF
    simp only [List.length_cons, Nat.pow_succ]
    omega
theorem take_len (k : Nat) : ∀ i n l, takeNum k i n l = if lenF k i l = 0 then none else some (n + valF (l.take (lenF k i l - i)) * 128 ^ i, l.drop (lenF k i l - i)) := by
  induction k with
  | zero => intro i n l; rfl
  | succ k ih =>
    intro i n l
    cases l with
    | nil => rfl
    | cons d r =>
      have hd : d.toNat < 256 := d.toNat_lt
      unfold takeNum lenF
      simp only
      by_cases h : d.toNat < 128
      · rw [if_neg (by omega), if_pos h]
        by_cases hz : 0 < d.toNat ∨ i = 0
        · rw [if_neg (by omega), if_pos hz, if_neg (by omega)]
          have e : i + 1 - i = 1 := by omega
          rw [e]
          simp [valF]
          rw [Nat.mod_eq_of_lt h]
        · rw [if_pos (by omega), if_neg hz, if_pos rfl]
      · rw [if_pos (by omega), if_neg h, ih]
        rcases lenF_le k (i + 1) r with h0 | ⟨h1, h2, h3⟩
        · rw [if_pos h0, if_pos h0]
        · rw [if_neg (by omega), if_neg (by omega)]
          obtain ⟨j, hj⟩ : ∃ j, lenF k (i + 1) r - i = j + 1 := ⟨lenF k (i + 1) r - i - 1, by omega⟩
          have hj' : lenF k (i + 1) r - (i + 1) = j := by omega
          rw [hj, hj']
          simp only [List.take_succ_cons, List.drop_succ_cons, valF, Option.some.injEq, Prod.mk.injEq, and_true]
          have e : d.toNat % 128 = d.toNat - 128 := by omega
          rw [e, Nat.pow_succ, Nat.add_mul, Nat.add_assoc]
          congr 2
          rw [Nat.mul_comm (128 ^ i), ← Nat.mul_assoc, Nat.mul_comm (valF _) 128]
theorem num_ref (r : Rd) : r.num = if lenF 9 0 r.rest = 0 then (0, Rd.fail) else (valF (r.rest.take (lenF 9 0 r.rest)), ⟨r.rest.drop (lenF 9 0 r.rest), r.bad⟩) := by
  unfold Rd.num
  rw [take_len]
  by_cases h : lenF 9 0 r.rest = 0
  · rw [if_pos h, if_pos h]
  · rw [if_neg h, if_neg h]; simp
end Go.Proofs.Ytckgnmloemnkcaa
