/- The encoding read back: plain laws. -/
import Derived.Test.YtemdecaiadkchaaCRdModel
namespace Go.Proofs.Ytemdecaiadkchaa
set_option linter.unusedVariables false


theorem numF_step (k n : Nat) : numF (k + 1) n = if n < 128 then [UInt8.ofNat n] else UInt8.ofNat (128 + n % 128) :: numF k (n / 128) := rfl
theorem numF_grow (k n : Nat) (h : n < 128 ^ (k + 1)) : numF (k + 1) n = numF (k + 2) n := by
  induction k generalizing n with
  | zero => simp at h; rw [numF_step, numF_step, if_pos h, if_pos h]
  | succ k ih =>
    rw [numF_step (k + 1), numF_step (k + 2)]
    split
    · rfl
    · rw [ih (n / 128) (by rw [Nat.pow_succ] at h; omega)]
theorem numL_nine {n : Nat} (h : n < 9223372036854775808) : numL n = numF 9 n := (numF_grow 8 n (by omega)).symm
theorem byte_nat {n : Nat} (h : n < 256) : (UInt8.ofNat n).toNat = n := by simp [UInt8.toNat_ofNat']; omega
theorem digit_sum (n m i : Nat) : n + (128 + m % 128 - 128) * 128 ^ i + m / 128 * 128 ^ (i + 1) = n + m * 128 ^ i := by
  rw [Nat.pow_succ]
  generalize 128 ^ i = P
  obtain ⟨q, hq⟩ : ∃ q, q = m / 128 := ⟨_, rfl⟩
  obtain ⟨d, hd⟩ : ∃ d, d = m % 128 := ⟨_, rfl⟩
  rw [← hq, ← hd]
  have hm : m = 128 * q + d := by omega
  have e : 128 + d - 128 = d := by omega
  rw [e, hm, Nat.add_mul]
  have : q * (P * 128) = 128 * q * P := by rw [Nat.mul_comm P, ← Nat.mul_assoc, Nat.mul_comm q]
  omega
theorem enc_num (x : List UInt8) (k : Nat) : ∀ j i n m, k ≤ j → m < 128 ^ k → (0 < m ∨ i = 0) → 0 < k → takeNum j i n (numF k m ++ x) = some (n + m * 128 ^ i, x) := by
  induction k with
  | zero => intro j i n m _ _ _ h; omega
  | succ k ih =>
    intro j i n m hj hm h0 _
    obtain ⟨j', rfl⟩ : ∃ j', j = j' + 1 := ⟨j - 1, by omega⟩
    rw [numF_step]
    by_cases h128 : m < 128
    · rw [if_pos h128]
      simp only [List.cons_append, List.nil_append]
      unfold takeNum
      simp only
      rw [byte_nat (by omega), if_neg (by omega), if_neg (by omega)]
    · rw [if_neg h128]
      simp only [List.cons_append]
      unfold takeNum
      simp only
      rw [byte_nat (by omega), if_pos (by omega)]
      have hk : 0 < k := by
        rcases Nat.eq_zero_or_pos k with h | h
        · subst h; simp at hm; omega
        · exact h
      rw [ih j' (i + 1) _ (m / 128) (by omega) (by rw [Nat.pow_succ] at hm; omega) (by omega) hk]
      rw [digit_sum]
theorem dec_num (j : Nat) : ∀ i n l v r, takeNum j i n l = some (v, r) → ∃ m, l = numF j m ++ r ∧ v = n + m * 128 ^ i ∧ m < 128 ^ j ∧ (0 < m ∨ i = 0) := by
  induction j with
  | zero => intro i n l v r h; simp [takeNum] at h
  | succ j ih =>
    intro i n l v r h
    unfold takeNum at h
    split at h
    · simp at h
    · rename_i d r'
      have hd : d.toNat < 256 := d.toNat_lt
      have hdd : UInt8.ofNat d.toNat = d := by simp
      split at h
      · rename_i h128
        obtain ⟨m, rfl, rfl, hm, h0⟩ := ih _ _ _ _ _ h
        have hm0 : 0 < m := by omega
        refine ⟨(d.toNat - 128) + 128 * m, ?_, ?_, ?_, by omega⟩
        · rw [numF_step, if_neg (by omega), show 128 + (d.toNat - 128 + 128 * m) % 128 = d.toNat by omega, show (d.toNat - 128 + 128 * m) / 128 = m by omega, hdd]
          rfl
        · rw [Nat.pow_succ, Nat.add_mul, Nat.add_assoc]
          congr 1
          have : m * (128 ^ i * 128) = 128 * m * 128 ^ i := by rw [Nat.mul_comm (128 ^ i), ← Nat.mul_assoc, Nat.mul_comm m]
          rw [this]
        · rw [Nat.pow_succ]; omega
      · rename_i h128
        split at h
        · simp at h
        · rename_i hz
          simp at h
          obtain ⟨rfl, rfl⟩ := h
          refine ⟨d.toNat, ?_, rfl, ?_, by omega⟩
          · rw [numF_step, if_pos (by omega), hdd]; rfl
          · have : 128 ^ 1 ≤ 128 ^ (j + 1) := Nat.pow_le_pow_right (by omega) (by omega)
            omega
theorem num_enc {n : Nat} (h : n < 9223372036854775808) (x : List UInt8) : (Rd.mk (numL n ++ x) false).num = (n, ⟨x, false⟩) := by
  unfold Rd.num
  rw [numL_nine h]
  simp only
  rw [enc_num x 9 9 0 0 n (by omega) (by omega) (by omega) (by omega)]
  simp
theorem num_dec {r : Rd} (h : r.num.2.bad = false) : r.rest = numL r.num.1 ++ r.num.2.rest ∧ r.num.1 < 9223372036854775808 ∧ r.bad = false := by
  have hlt := r.num_lt
  refine ⟨?_, hlt, ?_⟩
  · unfold Rd.num at h hlt ⊢
    cases ht : takeNum 9 0 0 r.rest with
    | none => rw [ht] at h; simp [Rd.fail] at h
    | some q =>
      obtain ⟨v, rest⟩ := q
      rw [ht] at hlt
      simp only at hlt ⊢
      obtain ⟨m, hm, hv, hb, _⟩ := dec_num 9 0 0 _ _ _ ht
      simp at hv
      subst hv
      rw [numL_nine hlt]
      exact hm
  · unfold Rd.num at h
    cases ht : takeNum 9 0 0 r.rest with
    | none => rw [ht] at h; simp [Rd.fail] at h
    | some q => rw [ht] at h; exact h
theorem numF_nonempty (k n : Nat) : numF (k + 1) n ≠ [] := by rw [numF_step]; split <;> simp
theorem unzig_zig {n : Int} (h : -lim ≤ n) (h1 : n ≤ lim) : unzig (zig n) = n ∧ zig n < 9223372036854775808 := by
  unfold unzig zig lim at *
  by_cases h0 : n < 0
  · rw [if_pos h0]; split <;> omega
  · rw [if_neg h0]; split <;> omega
theorem zig_unzig (z : Nat) : zig (unzig z) = z := by
  unfold unzig zig
  split
  · rw [if_pos (by omega)]; omega
  · rw [if_neg (by omega)]; omega
theorem intI_in {n : Int} (h : -lim ≤ n) (h1 : n ≤ lim) : intI n = numL (zig n) := by unfold intI; rw [if_neg (by omega)]
theorem int_enc {n : Int} (h : -lim ≤ n) (h1 : n ≤ lim) (x : List UInt8) : (Rd.mk (intI n ++ x) false).int = (n, ⟨x, false⟩) := by
  obtain ⟨hu, hz⟩ := unzig_zig h h1
  unfold Rd.int
  rw [intI_in h h1, num_enc hz, hu, if_neg (by omega)]
theorem int_dec {r : Rd} (h : r.int.2.bad = false) : r.rest = intI r.int.1 ++ r.int.2.rest ∧ (-lim ≤ r.int.1 ∧ r.int.1 ≤ lim) ∧ r.bad = false := by
  unfold Rd.int at h ⊢
  split at h
  · simp [Rd.fail] at h
  · rename_i hr
    rw [if_neg hr]
    simp only at h ⊢
    obtain ⟨h1, h2, h3⟩ := num_dec h
    refine ⟨?_, by omega, h3⟩
    rw [intI_in (by omega) (by omega), zig_unzig]
    exact h1
theorem text_enc {s : List UInt8} (h : s.length < 9223372036854775808) (x : List UInt8) : (Rd.mk (textL s ++ x) false).text = (s, ⟨x, false⟩) := by
  unfold Rd.text textL
  rw [List.append_assoc, num_enc h]
  unfold Rd.take
  simp only
  rw [if_neg (by simp; omega)]
  simp
theorem take_ok {r : Rd} {n : Int} (h : (r.take n).2.bad = false) : r.bad = false ∧ 0 ≤ n ∧ n ≤ r.rest.length ∧ r.take n = (r.rest.take n.toNat, ⟨r.rest.drop n.toNat, r.bad⟩) := by
  unfold Rd.take at h ⊢
  split at h
  · simp [Rd.fail] at h
  · rename_i hr
    rw [if_neg hr]
    refine ⟨h, by omega, by omega, rfl⟩
theorem text_dec {r : Rd} (h : r.text.2.bad = false) : r.rest = textL r.text.1 ++ r.text.2.rest ∧ r.text.1.length < 9223372036854775808 ∧ r.bad = false := by
  obtain ⟨h1, h2, h3, h4⟩ := take_ok h
  obtain ⟨e1, e2, e3⟩ := num_dec h1
  have hlen : r.text.1.length = r.num.1 := by unfold Rd.text; rw [h4]; simp; omega
  refine ⟨?_, by omega, e3⟩
  unfold textL
  rw [hlen]
  unfold Rd.text
  rw [h4, List.append_assoc]
  simp
  exact e1
section
variable {α : Type} {enc : α → List UInt8} {dec : Rd → α × Rd} {ok : α → Prop}
structure Codec (enc : α → List UInt8) (dec : Rd → α × Rd) (ok : α → Prop) : Prop where
  fwd : ∀ v x, ok v → dec ⟨enc v ++ x, false⟩ = (v, ⟨x, false⟩)
  back : ∀ r, (dec r).2.bad = false → r.rest = enc (dec r).1 ++ (dec r).2.rest ∧ ok (dec r).1 ∧ r.bad = false
  ne : ∀ v, ok v → enc v ≠ []
theorem readN_enc (c : Codec enc dec ok) (l : List α) (h : ∀ v, v ∈ l → ok v) (x : List UInt8) : readN dec l.length ⟨l.flatMap enc ++ x, false⟩ = (l, ⟨x, false⟩) := by
  induction l with
  | nil => simp [readN]
  | cons a l ih =>
    simp only [List.length_cons, readN, List.flatMap_cons, List.append_assoc]
    rw [c.fwd a _ (h a (by simp)), ih (fun v hv => h v (by simp [hv]))]
    simp
theorem readN_dec (c : Codec enc dec ok) (k : Nat) (r : Rd) (h : (readN dec k r).2.bad = false) : r.rest = (readN dec k r).1.flatMap enc ++ (readN dec k r).2.rest ∧ (∀ v, v ∈ (readN dec k r).1 → ok v) ∧ (readN dec k r).1.length = k ∧ r.bad = false := by
  induction k generalizing r with
  | zero => simp [readN] at h ⊢; exact h
  | succ k ih =>
    unfold readN at h ⊢
    split at h
    · rename_i hb; rw [hb] at h; simp at h
    · rename_i hb
      rw [if_neg hb]
      simp only at h ⊢
      obtain ⟨h1, h2, h3, h4⟩ := ih _ h
      obtain ⟨e1, e2, e3⟩ := c.back r h4
      refine ⟨?_, ?_, by simp [h3], e3⟩
      · rw [List.flatMap_cons, List.append_assoc, ← h1]; exact e1
      · intro v hv
        rcases List.mem_cons.1 hv with rfl | hv
        · exact e2
        · exact h2 v hv
theorem flat_len (c : Codec enc dec ok) (l : List α) (h : ∀ v, v ∈ l → ok v) : l.length ≤ (l.flatMap enc).length := by
  induction l with
  | nil => simp
  | cons a l ih =>
    have h1 := ih (fun v hv => h v (by simp [hv]))
    have h2 : 0 < (enc a).length := List.length_pos_iff.2 (c.ne a (h a (by simp)))
    simp only [List.length_cons, List.flatMap_cons, List.length_append]
    omega
theorem many_enc (c : Codec enc dec ok) (l : List α) (h : ∀ v, v ∈ l → ok v) (hl : l.length < 9223372036854775808) (x : List UInt8) : (Rd.mk (numL l.length ++ (l.flatMap enc ++ x)) false).many dec = (l, ⟨x, false⟩) := by
  have hf := flat_len c l h
  unfold Rd.many Rd.counted
  rw [num_enc hl]
  simp only
  rw [if_neg (show ¬ (l.flatMap enc ++ x).length < l.length by rw [List.length_append]; omega), readN_enc c l h]
  simp
theorem many_dec (c : Codec enc dec ok) {r : Rd} (h : (r.many dec).2.bad = false) : r.rest = numL (r.many dec).1.length ++ ((r.many dec).1.flatMap enc ++ (r.many dec).2.rest) ∧ (∀ v, v ∈ (r.many dec).1 → ok v) ∧ (r.many dec).1.length < 9223372036854775808 ∧ r.bad = false := by
  unfold Rd.many at h ⊢
  simp only at h ⊢
  rw [if_neg (by rw [h]; simp)]
  obtain ⟨h1, h2, h3, h4⟩ := readN_dec c _ _ h
  have hc : r.counted = r.num.2 := by
    unfold Rd.counted at h4 ⊢
    split
    · rename_i hb; rw [if_pos hb] at h4; simp [Rd.fail] at h4
    · rfl
  rw [hc] at h4
  obtain ⟨e1, e2, e3⟩ := num_dec h4
  refine ⟨?_, h2, by rw [h3]; exact e2, e3⟩
  rw [h3, ← h1, hc]
  exact e1
end
theorem numL_nonempty (n : Nat) : numL n ≠ [] := numF_nonempty 9 n
theorem textCodec : Codec textL Rd.text (fun s => s.length < 9223372036854775808) :=
  ⟨fun v x h => text_enc h x, fun r h => text_dec h, fun v _ => by unfold textL; simp [numL_nonempty]⟩
theorem intCodec : Codec intI Rd.int (fun n => -lim ≤ n ∧ n ≤ lim) :=
  ⟨fun v x h => int_enc h.1 h.2 x, fun r h => int_dec h, fun v h => by rw [intI_in h.1 h.2]; exact numL_nonempty _⟩
/-- a failed reader has no rest -/
def Rd.ok (r : Rd) : Prop := r.bad = true → r.rest = []
theorem Rd.ok_fail : Rd.fail.ok := fun _ => rfl
theorem Rd.ok_false (s : List UInt8) : (Rd.mk s false).ok := by intro h; cases h
theorem Rd.num_ok {r : Rd} (h : r.ok) : r.num.2.ok := by
  unfold Rd.num
  cases ht : takeNum 9 0 0 r.rest with
  | none => exact Rd.ok_fail
  | some q =>
    intro hb
    have := h hb
    rw [this] at ht
    simp [takeNum] at ht
theorem Rd.int_ok {r : Rd} (h : r.ok) : r.int.2.ok := by
  unfold Rd.int
  split
  · exact Rd.ok_fail
  · exact Rd.num_ok h
theorem Rd.take_ok' {r : Rd} (n : Int) : (r.take n).2.ok := by
  unfold Rd.take
  split
  · exact Rd.ok_fail
  · rename_i h; intro hb; exact absurd (Or.inl hb) h
theorem Rd.text_ok {r : Rd} : r.text.2.ok := Rd.take_ok' _
theorem readN_ok {α : Type} {dec : Rd → α × Rd} (hd : ∀ r : Rd, r.ok → (dec r).2.ok) (k : Nat) (r : Rd) (h : r.ok) : (readN dec k r).2.ok := by
  induction k generalizing r with
  | zero => exact h
  | succ k ih =>
    unfold readN
    split
    · exact h
    · exact ih _ (hd _ h)
theorem Rd.counted_ok {r : Rd} (h : r.ok) : r.counted.ok := by
  unfold Rd.counted
  split
  · exact Rd.ok_fail
  · exact Rd.num_ok h
theorem Rd.many_ok {α : Type} {dec : Rd → α × Rd} (hd : ∀ r : Rd, r.ok → (dec r).2.ok) {r : Rd} (h : r.ok) : (r.many dec).2.ok := readN_ok hd _ _ (Rd.counted_ok h)
theorem Rd.list_ok {r : Rd} (h : r.ok) : r.list.2.ok := Rd.many_ok (fun _ _ => Rd.text_ok) h
theorem Rd.nums_ok {r : Rd} (h : r.ok) : r.nums.2.ok := Rd.many_ok (fun _ h => Rd.int_ok h) h


end Go.Proofs.Ytemdecaiadkchaa
