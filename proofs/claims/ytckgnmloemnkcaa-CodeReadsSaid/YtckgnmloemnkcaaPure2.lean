/- The law's values read back: plain laws. -/
import Derived.Test.YtckgnmloemnkcaaRead
import Derived.Test.YtckgnmloemnkcaaLenWalk
import Derived.Test.YtckgnmloemnkcaaPure
namespace Go.Proofs.Ytckgnmloemnkcaa
set_option linter.unusedVariables false

structure V.codec (v : V) : Prop where
  c0 : v.kind = 0 → 0 ≤ v.n ∧ v.n < 9223372036854775808
  c1 : v.kind = 1 → -lim ≤ v.n ∧ v.n ≤ lim
  c2 : v.kind = 2 → v.s.length < 9223372036854775808
  c3 : v.kind = 3 → (∀ s, s ∈ v.l → s.length < 9223372036854775808) ∧ v.l.length < 9223372036854775808
  c4 : v.kind = 4 → (∀ n, n ∈ v.m → -lim ≤ n ∧ n ≤ lim) ∧ v.m.length < 9223372036854775808
theorem intI_range {n : Int} (h : intI n ≠ []) : -lim ≤ n ∧ n ≤ lim := by
  by_cases ho : n < -lim ∨ lim < n
  · exact absurd (by unfold intI; rw [if_pos ho]) h
  · omega
theorem V.valid.codec {v : V} (hw : v.wf) (h : v.valid) : v.codec := by
  obtain ⟨⟨hm, hs, hl⟩, hi, h0, h1⟩ := h
  have hll : v.l.length ≤ 100 ∧ ∀ s, s ∈ v.l → s.length ≤ 1000 := by unfold lightB at hl; simpa using hl
  refine ⟨fun hk => ?_, fun hk => ?_, fun hk => by omega, fun hk => ⟨fun s hs => by have := hll.2 s hs; omega, by omega⟩, fun hk => ⟨fun n hn => intI_range (hi n hn), by omega⟩⟩
  · have := hw.n1
    constructor
    · rcases Int.lt_or_le v.n 0 with h | h
      · exact absurd ⟨hk, h⟩ h0
      · exact h
    · omega
  · exact intI_range fun h => h1 ⟨hk, h⟩
theorem V.kind_cases (v : V) : v.kind = 0 ∨ v.kind = 1 ∨ v.kind = 2 ∨ v.kind = 3 ∨ v.kind = 4 := by unfold V.kind; omega
theorem read_enc {v : V} (h : v.codec) (x : List UInt8) : ∃ u, (Rd.mk (v.write ++ x) false).read v.kind = (u, ⟨x, false⟩) ∧ v.same u := by
  rcases v.kind_cases with hk | hk | hk | hk | hk
  · obtain ⟨h1, h2⟩ := h.c0 hk
    have hn : numI v.n = numL v.n.toNat := by unfold numI; rw [if_neg (by omega)]
    unfold V.write Rd.read
    rw [if_pos hk, if_pos hk, hn, num_enc (by omega)]
    refine ⟨_, rfl, ?_⟩
    unfold V.same
    rw [hk]
    simp; omega
  · obtain ⟨h1, h2⟩ := h.c1 hk
    unfold V.write Rd.read
    rw [hk]
    simp only [show ¬ ((1 : Int) = 0) by omega, if_false, if_true]
    rw [int_enc h1 h2]
    refine ⟨_, rfl, ?_⟩
    unfold V.same
    rw [hk]
    simp
  · unfold V.write Rd.read
    rw [hk]
    simp only [show ¬ ((2 : Int) = 0) by omega, show ¬ ((2 : Int) = 1) by omega, if_false, if_true]
    rw [text_enc (h.c2 hk)]
    refine ⟨_, rfl, ?_⟩
    unfold V.same
    rw [hk]
    simp
  · obtain ⟨h1, h2⟩ := h.c3 hk
    unfold V.write Rd.read
    rw [hk]
    simp only [show ¬ ((3 : Int) = 0) by omega, show ¬ ((3 : Int) = 1) by omega, show ¬ ((3 : Int) = 2) by omega, if_false, if_true]
    unfold listL Rd.list
    rw [List.append_assoc, many_enc textCodec v.l h1 h2]
    refine ⟨_, rfl, ?_⟩
    unfold V.same
    rw [hk]
    simp
  · obtain ⟨h1, h2⟩ := h.c4 hk
    unfold V.write Rd.read
    rw [hk]
    simp only [show ¬ ((4 : Int) = 0) by omega, show ¬ ((4 : Int) = 1) by omega, show ¬ ((4 : Int) = 2) by omega, show ¬ ((4 : Int) = 3) by omega, if_false]
    unfold numsL Rd.nums
    rw [List.append_assoc, many_enc intCodec v.m h1 h2]
    refine ⟨_, rfl, ?_⟩
    unfold V.same
    rw [hk]
    simp
theorem read_kind (r : Rd) {k : Int} (h : 0 ≤ k ∧ k ≤ 4) : (r.read k).1.kind = k ∧ (r.read k).1.k = k := by
  have hd : k = 0 ∨ k = 1 ∨ k = 2 ∨ k = 3 ∨ k = 4 := by omega
  rcases hd with rfl | rfl | rfl | rfl | rfl <;> exact ⟨rfl, rfl⟩
theorem read_dec {r : Rd} {k : Int} (h : 0 ≤ k ∧ k ≤ 4) (hb : (r.read k).2.bad = false) : r.rest = (r.read k).1.write ++ (r.read k).2.rest ∧ (r.read k).1.codec ∧ r.bad = false := by
  have hd : k = 0 ∨ k = 1 ∨ k = 2 ∨ k = 3 ∨ k = 4 := by omega
  rcases hd with rfl | rfl | rfl | rfl | rfl
  · obtain ⟨h1, h2, h3⟩ := num_dec (r := r) hb
    refine ⟨?_, ⟨fun _ => ⟨Int.natCast_nonneg _, by show (r.num.1 : Int) < _; omega⟩, fun h => (by cases h), fun h => (by cases h), fun h => (by cases h), fun h => (by cases h)⟩, h3⟩
    have hn : numI (r.num.1 : Int) = numL r.num.1 := by unfold numI; rw [if_neg (by omega)]; simp
    show r.rest = numI (r.num.1 : Int) ++ r.num.2.rest
    rw [hn]; exact h1
  · obtain ⟨h1, h2, h3⟩ := int_dec (r := r) hb
    exact ⟨h1, ⟨fun h => (by cases h), fun _ => h2, fun h => (by cases h), fun h => (by cases h), fun h => (by cases h)⟩, h3⟩
  · obtain ⟨h1, h2, h3⟩ := text_dec (r := r) hb
    exact ⟨h1, ⟨fun h => (by cases h), fun h => (by cases h), fun _ => h2, fun h => (by cases h), fun h => (by cases h)⟩, h3⟩
  · obtain ⟨h1, h2, h3, h4⟩ := many_dec textCodec (r := r) hb
    refine ⟨?_, ⟨fun h => (by cases h), fun h => (by cases h), fun h => (by cases h), fun _ => ⟨h2, h3⟩, fun h => (by cases h)⟩, h4⟩
    show r.rest = listL r.list.1 ++ r.list.2.rest
    unfold listL Rd.list
    rw [List.append_assoc]; exact h1
  · obtain ⟨h1, h2, h3, h4⟩ := many_dec intCodec (r := r) hb
    refine ⟨?_, ⟨fun h => (by cases h), fun h => (by cases h), fun h => (by cases h), fun h => (by cases h), fun _ => ⟨h2, h3⟩⟩, h4⟩
    show r.rest = numsL r.nums.1 ++ r.nums.2.rest
    unfold numsL Rd.nums
    rw [List.append_assoc]; exact h1
theorem read_ok {r : Rd} {k : Int} (h : 0 ≤ k ∧ k ≤ 4) (hr : r.ok) : (r.read k).2.ok := by
  have hd : k = 0 ∨ k = 1 ∨ k = 2 ∨ k = 3 ∨ k = 4 := by omega
  rcases hd with rfl | rfl | rfl | rfl | rfl
  · exact Rd.num_ok hr
  · exact Rd.int_ok hr
  · exact Rd.text_ok
  · exact Rd.list_ok hr
  · exact Rd.nums_ok hr
theorem read_len {r : Rd} {k : Int} (h : 0 ≤ k ∧ k ≤ 4) : (r.read k).2.rest.length ≤ r.rest.length := by
  have hd : k = 0 ∨ k = 1 ∨ k = 2 ∨ k = 3 ∨ k = 4 := by omega
  rcases hd with rfl | rfl | rfl | rfl | rfl
  · exact Rd.num_len r
  · exact Rd.int_len r
  · exact Rd.text_len r
  · exact Nat.le_trans (readN_len _ Rd.text_len _ _).1 (Rd.counted_len r)
  · exact Nat.le_trans (readN_len _ Rd.int_len _ _).1 (Rd.counted_len r)
/-- the same values have the same encoding -/
theorem write_same {a b : V} (hk : a.kind = b.kind) (h : a.same b) : a.write = b.write := by
  obtain ⟨h0, h1, h2, h3, h4⟩ := h
  unfold V.write
  rw [← hk]
  rcases a.kind_cases with e | e | e | e | e
  · rw [h0 e, e]; rfl
  · rw [h1 e, e]; rfl
  · rw [h2 e, e]; rfl
  · rw [h3 e, e]; rfl
  · rw [h4 e, e]; rfl
/-- THE CUT: of fewer bytes the reader fails -/
theorem read_cut {v : V} (h : v.codec) {n : Nat} (hn : n < v.write.length) : ((Rd.mk (v.write.take n) false).read v.kind).2 = Rd.fail := by
  have hk : 0 ≤ v.kind ∧ v.kind ≤ 4 := by unfold V.kind; omega
  have hok := read_ok (r := Rd.mk (v.write.take n) false) hk (Rd.ok_false _)
  cases hb : ((Rd.mk (v.write.take n) false).read v.kind).2.bad
  · exfalso
    obtain ⟨e1, e2, _⟩ := read_dec hk hb
    have hkk := (read_kind (Rd.mk (v.write.take n) false) hk).1
    generalize (Rd.mk (v.write.take n) false).read v.kind = q at *
    simp only at e1
    obtain ⟨u, hu, _⟩ := read_enc e2 (q.2.rest ++ v.write.drop n)
    obtain ⟨u', hu', _⟩ := read_enc h []
    rw [hkk, ← List.append_assoc, ← e1, List.take_append_drop] at hu
    rw [List.append_nil, hu] at hu'
    simp at hu'
    have := hu'.2.2
    omega
  · have := hok hb
    cases hq : ((Rd.mk (v.write.take n) false).read v.kind).2 with
    | mk rest bad =>
      rw [hq] at this hb
      simp only at this hb
      rw [this, hb]; rfl
/-- THE PREFIX -/
theorem read_prefix {a b : V} (ha : a.codec) (hb : b.codec) (hk : a.kind = b.kind) {x : List UInt8} (h : b.write = a.write ++ x) : a.same b ∧ x = [] := by
  obtain ⟨u, hu, hs⟩ := read_enc ha x
  obtain ⟨u', hu', hs'⟩ := read_enc hb []
  rw [List.append_nil, h, ← hk, hu] at hu'
  simp at hu'
  obtain ⟨rfl, rfl⟩ := hu'
  refine ⟨?_, rfl⟩
  obtain ⟨h0, h1, h2, h3, h4⟩ := hs
  obtain ⟨g0, g1, g2, g3, g4⟩ := hs'
  rw [← hk] at g0 g1 g2 g3 g4
  exact ⟨fun e => (h0 e).trans (g0 e).symm, fun e => (h1 e).trans (g1 e).symm, fun e => (h2 e).trans (g2 e).symm, fun e => (h3 e).trans (g3 e).symm, fun e => (h4 e).trans (g4 e).symm⟩
end Go.Proofs.Ytckgnmloemnkcaa
