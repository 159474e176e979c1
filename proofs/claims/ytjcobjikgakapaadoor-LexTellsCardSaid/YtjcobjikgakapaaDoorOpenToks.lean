/- A slice of tokens that came in, opened. -/
import Derived.Test.YtjcobjikgakapaaDoorLexU
import Derived.Test.YtjcobjikgakapaaDoorLaid
import Derived.Deep.Slices
import Derived.Deep.Fields
import Derived.ChangeSame
namespace Go.Proofs.YtjcobjikgakapaaDoor
open Go.ChangeShapes Go.WideShapes Go.Deep
set_option linter.unusedVariables false
section
variable {H : Type} {enc : TypeId × Value → H} {P : Program} {w : World} {base : Nat} {spare : Nat → Bool} {held : Bool}
theorem open_slice_fields {t e : TypeId} {fs : Array Field} {fuel : Nat} {cs : List Value} {x : DataW H × List MemPlace} (ht : P.underlying t = some (.slice e)) (he : P.underlying e = some (.struct fs))
    (hone : oneCellFields P fs = true) (hC : P.cellsOf e = fs.size) (h : DataW.trod enc P w base spare held fuel t cs = some x) :
    (cs = [.slice none 0 0] ∧ x = (.nil, [])) ∨
    ∃ (a : Addr) (len cap m : Nat) (D : Nat → DataW H) (Pl : Nat → List MemPlace), cs = [.slice (some a) len cap] ∧ base ≤ a.block ∧ len ≤ cap ∧ cap ≤ maxLen ∧ m = (if spare a.block then cap else len) ∧
      x = (.slice ((List.range len).map D) ((List.range (m - len)).map fun j => D (len + j)), MemPlace.row a (m * fs.size) ++ (List.range m).flatMap Pl) ∧
      ∀ i, i < m → ∃ (ys : List (DataW H × List MemPlace)) (n : Nat), D i = .agg (ys.map (·.1)) ∧ Pl i = ys.flatMap (·.2) ∧ ys.length = fs.size ∧
        ∀ (j : Nat) (f : Field), fs[j]? = some f → ∃ (v : Value) (y : DataW H × List MemPlace), w.cell? (a.add (i * fs.size + j)) = some v ∧ ys[j]? = some y ∧ DataW.trod enc P w base spare held n f.type [v] = some y := by
  rcases open_slice ht h with h0 | ⟨a, len, cap, m, n, D, Pl, hcs, hb, hl, hm, hmm, hx, hi⟩
  · exact .inl h0
  · refine .inr ⟨a, len, cap, m, D, Pl, hcs, hb, hl, hm, hmm, by rw [hC] at hx; exact hx, fun i him => ?_⟩
    obtain ⟨cs', hc, ht'⟩ := hi i him
    rw [hC] at hc
    obtain ⟨ys, n', hn', hy, hlen, hyl, hf⟩ := DataW.trod_struct he ht'
    obtain ⟨_, hcl, hat⟩ := World.cells?_some hc
    simp only [Prod.mk.injEq] at hy
    refine ⟨ys, n', hy.1, hy.2, hyl, fun j f hj => ?_⟩
    obtain ⟨ho, hk⟩ := hone_of hone j f hj
    have hjl : j < fs.size := (Array.getElem?_eq_some_iff.1 hj).1
    have hcell := hat j hjl
    have hv : cs'[j]? = some (cs'[j]'(by omega)) := List.getElem?_eq_getElem (by omega)
    have h1 := hf j f hj
    rw [ho, hk] at h1
    have hone' : (cs'.drop j).take 1 = [cs'[j]'(by omega)] := by
      rw [List.drop_eq_getElem_cons (by omega)]
      rfl
    rw [hone'] at h1
    have hys : ys[j]? = some (ys[j]'(by omega)) := List.getElem?_eq_getElem (by omega)
    refine ⟨_, _, ?_, hys, h1.trans hys⟩
    rw [← Go.Deep.add_add, hcell, hv]
end

theorem choose_below {α : Type} (z : α) {n : Nat} {P : Nat → α → Prop} (h : ∀ i, i < n → ∃ x, P i x) : ∃ f : Nat → α, ∀ i, i < n → P i (f i) :=
  ⟨fun i => if hi : i < n then (h i hi).choose else z, fun i hi => by
    have := (h i hi).choose_spec
    simpa [hi] using this⟩
/-- .. as a list of that length -/
theorem list_below {α : Type} (z : α) {n : Nat} {P : Nat → α → Prop} (h : ∀ i, i < n → ∃ x, P i x) : ∃ l : List α, l.length = n ∧ (∀ i x, l[i]? = some x → P i x) ∧ ∀ x, x ∈ l → ∃ i, i < n ∧ P i x := by
  obtain ⟨f, hf⟩ := choose_below z h
  refine ⟨(List.range n).map f, by simp, fun i x hx => ?_, fun x hx => ?_⟩
  · simp only [List.getElem?_map] at hx
    have hil : i < n := by
      rcases Nat.lt_or_ge i n with h | h
      · exact h
      · rw [List.getElem?_eq_none (by simpa using h)] at hx; simp at hx
    rw [List.getElem?_range hil] at hx
    simp only [Option.map_some, Option.some.injEq] at hx
    subst hx
    exact hf i hil
  · obtain ⟨i, hi, rfl⟩ := List.mem_map.1 hx
    exact ⟨i, by simpa using hi, hf i (by simpa using hi)⟩
theorem spot_none {w : World} {a : Addr} {v : Value} (h : w.cell? a = some v) : a.spot = none := by
  unfold World.cell? at h
  split at h
  · cases hs : a.spot with
    | none => rfl
    | some x => simp [hs] at h
  · cases h
theorem add_eq {a : Addr} (h : a.spot = none) (n : Nat) : a.add n = ⟨a.block, a.off + n, none⟩ := by
  unfold Addr.add
  split
  · next e => subst e; cases a; simp_all
  · rfl
theorem maxLen_eq : maxLen = 9223372036854775807 := rfl
theorem open_toks {H : Type} {enc : TypeId × Value → H} {w : World} {base : Nat} {spare : Nat → Bool} {held : Bool} {r : Go.Reach} {b0 : Nat} {v : Value} {d : DataW H} {p : List MemPlace}
    (hv : Value.okWide Tryd.prog w r b0 22 v) (h : DataW.Trod enc Tryd.prog w base spare held 22 v d p) :
    ∃ A C l, v = .slice A l.length C ∧ TokR w A l ∧ (∀ t, t ∈ l → wf64 t.n ∧ wf64 t.kind ∧ t.text.length ≤ 9223372036854775807) ∧ l.length ≤ 9223372036854775807 := by
  obtain ⟨a, len, cap, rfl⟩ := okWide_slice Tryd.underlying22 hv
  obtain ⟨fuel, hf⟩ := h
  rcases open_slice_fields Tryd.underlying22 Tryd.underlying25 (by kernel_rfl) (by kernel_rfl) hf with ⟨hcs, hx⟩ | ⟨a', len', cap', m, D, Pl, hcs, _, hl, hm, hmm, hx, hi⟩
  · simp [Value.cells] at hcs
    obtain ⟨rfl, rfl, rfl⟩ := hcs
    exact ⟨none, 0, [], rfl, fun i t h => by simp at h, by simp, by simp⟩
  · simp [Value.cells] at hcs
    obtain ⟨rfl, rfl, rfl⟩ := hcs
    have hlm : len ≤ m := by rw [hmm]; split <;> omega
    have key : ∀ i, i < len → ∃ x : Tok, (wf64 x.n ∧ wf64 x.kind ∧ x.text.length ≤ 9223372036854775807) ∧ w.cell? (a'.add (i * 4 + 0)) = some (.int .i64 x.kind) ∧ w.cell? (a'.add (i * 4 + 1)) = some (.string (bs x.text)) ∧ w.cell? (a'.add (i * 4 + 2)) = some (.int .i64 x.n) ∧ w.cell? (a'.add (i * 4 + 3)) = some (.int .i64 x.off) := by
      intro i hil
      obtain ⟨ys, n, _, _, hyl, hg⟩ := hi i (by omega)
      obtain ⟨v0, y0, c0, _, t0⟩ := hg 0 _ rfl
      obtain ⟨v1, y1, c1, _, t1⟩ := hg 1 _ rfl
      obtain ⟨v2, y2, c2, _, t2⟩ := hg 2 _ rfl
      obtain ⟨v3, y3, c3, _, t3⟩ := hg 3 _ rfl
      obtain ⟨n0, e0, _, w0⟩ := DataW.trod_int Tryd.underlying3 t0
      obtain ⟨s1, e1, _, w1⟩ := DataW.trod_string Tryd.underlying9 t1
      obtain ⟨n2, e2, _, w2⟩ := DataW.trod_int Tryd.underlying3 t2
      obtain ⟨n3, e3, _, w3⟩ := DataW.trod_int Tryd.underlying3 t3
      obtain ⟨l1, rfl⟩ := bs_form s1
      rw [bs_size] at w1
      simp at e0 e1 e2 e3
      subst e0 e1 e2 e3
      exact ⟨⟨n0, l1, n2, n3⟩, ⟨of_wf w2, of_wf w0, w1⟩, c0, c1, c2, c3⟩
    obtain ⟨l, hll, hl1, hl2⟩ := list_below (⟨0, [], 0, 0⟩ : Tok) key
    subst hll
    refine ⟨some a', cap, l, rfl, ?_, fun x hx => ?_, by rw [maxLen_eq] at hm; omega⟩
    · intro i x hx
      obtain ⟨_, c0, c1, c2, c3⟩ := hl1 i x hx
      have hpos : 0 < l.length := by
        have := (List.getElem?_eq_some_iff.1 hx).1
        omega
      obtain ⟨_, _, c00, _⟩ := key 0 hpos
      have hsp' := spot_none (a := a') (by simpa [Addr.add] using c00)
      rw [add_eq hsp'] at c0 c1 c2 c3
      refine ⟨a'.block, a'.off, by rw [← hsp'], World.block_lt_of_cell? w (⟨a'.block, a'.off + (i * 4 + 0), none⟩ : Addr) c0, ?_, ?_, ?_, ?_⟩
      · rw [← c0]; rfl
      · rw [← c1]; rfl
      · rw [← c2]; rfl
      · rw [← c3]; rfl
    · obtain ⟨i, _, h, _⟩ := hl2 x hx
      exact h
end Go.Proofs.YtjcobjikgakapaaDoor
