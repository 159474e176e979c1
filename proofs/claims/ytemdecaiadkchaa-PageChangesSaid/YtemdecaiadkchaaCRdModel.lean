/- The reader as plain mathematics. -/
import Derived.Test.YtemdecaiadkchaaCModel
namespace Go.Proofs.Ytemdecaiadkchaa

def unzig (z : Nat) : Int := if z % 2 = 1 then -((z / 2 : Nat) : Int) - 1 else ((z / 2 : Nat) : Int)
def Rd.int (r : Rd) : Int × Rd := if unzig r.num.1 < -lim ∨ lim < unzig r.num.1 then (0, Rd.fail) else (unzig r.num.1, r.num.2)
def Rd.take (r : Rd) (n : Int) : List UInt8 × Rd :=
  if r.bad = true ∨ n < 0 ∨ (r.rest.length : Int) < n then ([], Rd.fail) else (r.rest.take n.toNat, ⟨r.rest.drop n.toNat, r.bad⟩)
def Rd.text (r : Rd) : List UInt8 × Rd := r.num.2.take r.num.1
def readN {α : Type} (f : Rd → α × Rd) : Nat → Rd → List α × Rd
  | 0, r => ([], r)
  | k + 1, r => if r.bad = true then ([], r) else ((f r).1 :: (readN f k (f r).2).1, (readN f k (f r).2).2)
def Rd.counted (r : Rd) : Rd := if r.num.2.rest.length < r.num.1 then Rd.fail else r.num.2
def Rd.many {α : Type} (f : Rd → α × Rd) (r : Rd) : List α × Rd :=
  let q := readN f r.num.1 r.counted
  (if q.2.bad = true then [] else q.1, q.2)
def Rd.list (r : Rd) : List (List UInt8) × Rd := r.many Rd.text
def Rd.nums (r : Rd) : List Int × Rd := r.many Rd.int

theorem takeNum_len {k i n : Nat} {l r : List UInt8} {m : Nat} (h : takeNum k i n l = some (m, r)) : r.length < l.length := by
  induction k generalizing i n l with
  | zero => simp [takeNum] at h
  | succ k ih =>
    unfold takeNum at h
    split at h
    · simp at h
    · split at h
      · have := ih h; simp; omega
      · split at h
        · simp at h
        · simp at h; rw [← h.2]; simp
theorem takeNum_lt {k i n : Nat} {l r : List UInt8} {m : Nat} (hn : n < 128 ^ i) (h : takeNum k i n l = some (m, r)) : m < 128 ^ (i + k) := by
  induction k generalizing i n l with
  | zero => simp [takeNum] at h
  | succ k ih =>
    unfold takeNum at h
    have hp : 128 ^ (i + 1) = 128 * 128 ^ i := by rw [Nat.pow_succ, Nat.mul_comm]
    split at h
    · simp at h
    · rename_i d r'
      have hd : d.toNat < 256 := d.toNat_lt
      split at h
      · have := ih (i := i + 1) (n := n + (d.toNat - 128) * 128 ^ i) (by
          rw [hp]
          have : (d.toNat - 128) * 128 ^ i ≤ 127 * 128 ^ i := Nat.mul_le_mul_right _ (by omega)
          omega) h
        rw [show i + (k + 1) = i + 1 + k by omega]; exact this
      · split at h
        · simp at h
        · simp at h
          rw [← h.1]
          have h1 : d.toNat * 128 ^ i ≤ 127 * 128 ^ i := Nat.mul_le_mul_right _ (by omega)
          have h2 : 128 ^ (i + 1) ≤ 128 ^ (i + (k + 1)) := Nat.pow_le_pow_right (by omega) (by omega)
          omega
theorem Rd.num_len (r : Rd) : r.num.2.rest.length ≤ r.rest.length := by
  unfold Rd.num
  split
  · simp [Rd.fail]
  · next h => have := takeNum_len h; simp; omega
theorem Rd.num_lt (r : Rd) : r.num.1 < 9223372036854775808 := by
  unfold Rd.num
  split
  · simp
  · next h => have := takeNum_lt (i := 0) (by simp) h; simpa using this
theorem Rd.int_len (r : Rd) : r.int.2.rest.length ≤ r.rest.length := by
  unfold Rd.int
  split
  · simp [Rd.fail]
  · exact r.num_len
theorem Rd.int_wf (r : Rd) : -lim ≤ r.int.1 ∧ r.int.1 ≤ lim := by
  unfold Rd.int
  split
  · simp [lim]
  · simp only; omega
theorem Rd.take_len (r : Rd) (n : Int) : (r.take n).2.rest.length ≤ r.rest.length := by
  unfold Rd.take
  split
  · simp [Rd.fail]
  · simp
theorem Rd.text_len (r : Rd) : r.text.2.rest.length ≤ r.rest.length := Nat.le_trans (Rd.take_len _ _) r.num_len
theorem Rd.take_fst (r : Rd) (n : Int) : (r.take n).1.length ≤ r.rest.length := by
  unfold Rd.take
  split
  · simp
  · simp; omega
theorem Rd.text_fst (r : Rd) : r.text.1.length ≤ r.rest.length := Nat.le_trans (Rd.take_fst _ _) r.num_len
theorem readN_len {α : Type} (f : Rd → α × Rd) (hf : ∀ r, (f r).2.rest.length ≤ r.rest.length) (k : Nat) (r : Rd) : (readN f k r).2.rest.length ≤ r.rest.length ∧ (readN f k r).1.length ≤ k := by
  induction k generalizing r with
  | zero => simp [readN]
  | succ k ih =>
    unfold readN
    split
    · simp
    · have h1 := ih (f r).2
      have h2 := hf r
      simp only [List.length_cons]
      omega
theorem Rd.counted_len (r : Rd) : r.counted.rest.length ≤ r.rest.length := by
  unfold Rd.counted
  split
  · simp [Rd.fail]
  · exact r.num_len
end Go.Proofs.Ytemdecaiadkchaa
