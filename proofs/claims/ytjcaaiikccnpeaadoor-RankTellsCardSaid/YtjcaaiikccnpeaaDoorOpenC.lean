/- Weights, counts, cards and slices of cards that came in, opened. -/
import Derived.Test.YtjcaaiikccnpeaaDoorLaidR
import Derived.Lib.SmallJoins
import Derived.Deep.Slices
import Derived.Deep.Fields
import Derived.ChangeSame
namespace Go.Proofs.YtjcaaiikccnpeaaDoor
open Go.Joins Go.ChangeShapes Go.WideShapes Go.RowKit Go.Deep
set_option linter.unusedVariables false
section
variable {H : Type} {enc : TypeId × Value → H} {P : Program} {w : World} {base : Nat} {spare : Nat → Bool} {held : Bool}
theorem open_slice_fields {t e : TypeId} {fs : Array Field} {fuel : Nat} {cs : List Value} {x : DataW H × List MemPlace} (ht : P.underlying t = some (.slice e)) (he : P.underlying e = some (.struct fs))
    (hone : oneCellFields P fs = true) (hC : P.cellsOf e = fs.size) (h : DataW.trod enc P w base spare held fuel t cs = some x) :
    (cs = [.slice none 0 0] ∧ x = (.nil, [])) ∨
    ∃ (a : Addr) (len cap m : Nat) (D : Nat → DataW H) (Pl : Nat → List MemPlace), cs = [.slice (some a) len cap] ∧ base ≤ a.block ∧ len ≤ cap ∧ cap ≤ maxLen ∧ m = (if spare a.block then cap else len) ∧
      x = (.slice ((List.range len).map D) ((List.range (m - len)).map fun j => D (len + j)), MemPlace.row a (m * fs.size) ++ (List.range m).flatMap Pl) ∧
      ∀ i, i < m → ∃ (ys : List (DataW H × List MemPlace)) (n : Nat), D i = .agg (ys.map (·.1)) ∧ Pl i = ys.flatMap (·.2) ∧ ys.length = fs.size ∧
        ∀ (j : Nat) (f : Field), fs[j]? = some f → ∃ (v : Value) (y : DataW H × List MemPlace), w.cell? (a.add (i * fs.size + j)) = some v ∧ ys[j]? = some y ∧ DataW.trod enc P w base spare held n f.type [v] = some y := by
  rcases open_slice ht h with h0 | ⟨a, len, cap, m, n, D, Pl, hcs, hb, hl, hm, hmm, hx, hi⟩
  · exact .inl h0
  · refine .inr ⟨a, len, cap, m, D, Pl, hcs, hb, hl, hm, hmm, by rw [hC] at hx; exact hx, fun i him => ?_⟩
    obtain ⟨cs', hc, ht'⟩ := hi i him
    rw [hC] at hc
    obtain ⟨ys, n', hn', hy, hlen, hyl, hf⟩ := DataW.trod_struct he ht'
    obtain ⟨_, hcl, hat⟩ := World.cells?_some hc
    simp only [Prod.mk.injEq] at hy
    refine ⟨ys, n', hy.1, hy.2, hyl, fun j f hj => ?_⟩
    obtain ⟨ho, hk⟩ := hone_of hone j f hj
    have hjl : j < fs.size := (Array.getElem?_eq_some_iff.1 hj).1
    have hcell := hat j hjl
    have hv : cs'[j]? = some (cs'[j]'(by omega)) := List.getElem?_eq_getElem (by omega)
    have h1 := hf j f hj
    rw [ho, hk] at h1
    have hone' : (cs'.drop j).take 1 = [cs'[j]'(by omega)] := by
      rw [List.drop_eq_getElem_cons (by omega)]
      rfl
    rw [hone'] at h1
    have hys : ys[j]? = some (ys[j]'(by omega)) := List.getElem?_eq_getElem (by omega)
    refine ⟨_, _, ?_, hys, h1.trans hys⟩
    rw [← Go.Deep.add_add, hcell, hv]
end

theorem choose_below {α : Type} (z : α) {n : Nat} {P : Nat → α → Prop} (h : ∀ i, i < n → ∃ x, P i x) : ∃ f : Nat → α, ∀ i, i < n → P i (f i) :=
  ⟨fun i => if hi : i < n then (h i hi).choose else z, fun i hi => by
    have := (h i hi).choose_spec
    simpa [hi] using this⟩
/-- .. as a list of that length -/
theorem list_below {α : Type} (z : α) {n : Nat} {P : Nat → α → Prop} (h : ∀ i, i < n → ∃ x, P i x) : ∃ l : List α, l.length = n ∧ (∀ i x, l[i]? = some x → P i x) ∧ ∀ x, x ∈ l → ∃ i, i < n ∧ P i x := by
  obtain ⟨f, hf⟩ := choose_below z h
  refine ⟨(List.range n).map f, by simp, fun i x hx => ?_, fun x hx => ?_⟩
  · simp only [List.getElem?_map] at hx
    have hil : i < n := by
      rcases Nat.lt_or_ge i n with h | h
      · exact h
      · rw [List.getElem?_eq_none (by simpa using h)] at hx; simp at hx
    rw [List.getElem?_range hil] at hx
    simp only [Option.map_some, Option.some.injEq] at hx
    subst hx
    exact hf i hil
  · obtain ⟨i, hi, rfl⟩ := List.mem_map.1 hx
    exact ⟨i, by simpa using hi, hf i (by simpa using hi)⟩
theorem spot_none {w : World} {a : Addr} {v : Value} (h : w.cell? a = some v) : a.spot = none := by
  unfold World.cell? at h
  split at h
  · cases hs : a.spot with
    | none => rfl
    | some x => simp [hs] at h
  · cases h
theorem add_eq {a : Addr} (h : a.spot = none) (n : Nat) : a.add n = ⟨a.block, a.off + n, none⟩ := by
  unfold Addr.add
  split
  · next e => subst e; cases a; simp_all
  · rfl
theorem maxLen_eq : maxLen = 9223372036854775807 := rfl
set_option maxRecDepth 100000 in
theorem open_wts {H : Type} {enc : TypeId × Value → H} {w : World} {base : Nat} {spare : Nat → Bool} {held : Bool} {r : Go.Reach} {b0 : Nat} {v : Value} {d : DataW H} {p : List MemPlace}
    (hv : Value.okWide Tryd.prog w r b0 23 v) (h : DataW.Trod enc Tryd.prog w base spare held 23 v d p) :
    ∃ x : Wts, v = .agg (cellsW x) ∧ x.Wf := by
  obtain ⟨v0, v1, v2, v3, y0, y1, y2, y3, n, rfl, _, _, t0, t1, t2, t3⟩ := open_agg4 Tryd.underlying23 (by kernel_rfl) (by kernel_rfl) hv h
  obtain ⟨n0, e0, _, w0⟩ := DataW.trod_int Tryd.underlying3 t0
  obtain ⟨n1, e1, _, w1⟩ := DataW.trod_int Tryd.underlying3 t1
  obtain ⟨n2, e2, _, w2⟩ := DataW.trod_int Tryd.underlying3 t2
  obtain ⟨n3, e3, _, w3⟩ := DataW.trod_int Tryd.underlying3 t3
  simp at e0 e1 e2 e3
  subst e0 e1 e2 e3
  exact ⟨⟨n0, n1, n2, n3⟩, rfl, of_wf w0, of_wf w1, of_wf w2, of_wf w3⟩
set_option maxRecDepth 100000 in
theorem open_tal {H : Type} {enc : TypeId × Value → H} {w : World} {base : Nat} {spare : Nat → Bool} {held : Bool} {r : Go.Reach} {b0 : Nat} {v : Value} {d : DataW H} {p : List MemPlace}
    (hv : Value.okWide Tryd.prog w r b0 31 v) (h : DataW.Trod enc Tryd.prog w base spare held 31 v d p) :
    ∃ x : Tal, v = .agg (cellsT x) ∧ x.Wf := by
  obtain ⟨v0, v1, v2, y0, y1, y2, n, rfl, _, _, t0, t1, t2⟩ := open_agg3 Tryd.underlying31 (by kernel_rfl) (by kernel_rfl) hv h
  obtain ⟨n0, e0, _, w0⟩ := DataW.trod_int Tryd.underlying3 t0
  obtain ⟨n1, e1, _, w1⟩ := DataW.trod_int Tryd.underlying3 t1
  obtain ⟨n2, e2, _, w2⟩ := DataW.trod_int Tryd.underlying3 t2
  simp at e0 e1 e2
  subst e0 e1 e2
  exact ⟨⟨n0, n1, n2⟩, rfl, of_wf w0, of_wf w1, of_wf w2⟩
def Card.Wf (c : Card) : Prop := wf64 c.score ∧ wf64 c.time ∧ wf64 c.act ∧ c.id.length ≤ 9223372036854775807 ∧ c.by'.length ≤ 9223372036854775807 ∧ c.rea.length ≤ 9223372036854775807
section
variable {H : Type} {enc : TypeId × Value → H} {P : Program} {w : World} {base : Nat} {spare : Nat → Bool} {held : Bool}
theorem open_agg6 {r : Go.Reach} {b0 : Nat} {t : TypeId} {f0 f1 f2 f3 f4 f5 : Field} {v : Value} {d : DataW H} {p : List MemPlace} (hs : P.underlying t = some (.struct #[f0, f1, f2, f3, f4, f5])) (hone : oneCellFields P #[f0, f1, f2, f3, f4, f5] = true) (hC : P.cellsOf t = 6)
    (hv : Value.okWide P w r b0 t v) (h : DataW.Trod enc P w base spare held t v d p) :
    ∃ (v0 v1 v2 v3 v4 v5 : Value) (y0 y1 y2 y3 y4 y5 : DataW H × List MemPlace) (n : Nat), v = .agg #[v0, v1, v2, v3, v4, v5] ∧
      DataW.trod enc P w base spare held n f0.type [v0] = some y0 ∧ DataW.trod enc P w base spare held n f1.type [v1] = some y1 ∧ DataW.trod enc P w base spare held n f2.type [v2] = some y2 ∧ DataW.trod enc P w base spare held n f3.type [v3] = some y3 ∧ DataW.trod enc P w base spare held n f4.type [v4] = some y4 ∧ DataW.trod enc P w base spare held n f5.type [v5] = some y5 := by
  obtain ⟨cs, rfl, hsz⟩ := okWide_struct hs hv
  obtain ⟨l⟩ := cs
  match l, hsz.trans hC with
  | [c0, c1, c2, c3, c4, c5], _ =>
    obtain ⟨fuel, hf⟩ := h
    obtain ⟨xs, n, _, hx, _, hlen, hg⟩ := DataW.trod_struct hs hf
    obtain ⟨o0, k0⟩ := hone_of hone 0 f0 rfl
    obtain ⟨o1, k1⟩ := hone_of hone 1 f1 rfl
    obtain ⟨o2, k2⟩ := hone_of hone 2 f2 rfl
    obtain ⟨o3, k3⟩ := hone_of hone 3 f3 rfl
    obtain ⟨o4, k4⟩ := hone_of hone 4 f4 rfl
    obtain ⟨o5, k5⟩ := hone_of hone 5 f5 rfl
    match xs, hlen with
    | [y0, y1, y2, y3, y4, y5], _ =>
      exact ⟨c0, c1, c2, c3, c4, c5, y0, y1, y2, y3, y4, y5, n, rfl, by simpa [Value.cells, o0, k0] using hg 0 f0 rfl, by simpa [Value.cells, o1, k1] using hg 1 f1 rfl, by simpa [Value.cells, o2, k2] using hg 2 f2 rfl, by simpa [Value.cells, o3, k3] using hg 3 f3 rfl, by simpa [Value.cells, o4, k4] using hg 4 f4 rfl, by simpa [Value.cells, o5, k5] using hg 5 f5 rfl⟩
end
set_option maxRecDepth 100000 in
theorem card_of {H : Type} {enc : TypeId × Value → H} {w : World} {base : Nat} {spare : Nat → Bool} {held : Bool} {v0 v1 v2 v3 v4 v5 : Value} {y0 y1 y2 y3 y4 y5 : DataW H × List MemPlace} {n0 n1 n2 n3 n4 n5 : Nat}
    (t0 : DataW.trod enc Tryd.prog w base spare held n0 9 [v0] = some y0) (t1 : DataW.trod enc Tryd.prog w base spare held n1 9 [v1] = some y1) (t2 : DataW.trod enc Tryd.prog w base spare held n2 3 [v2] = some y2)
    (t3 : DataW.trod enc Tryd.prog w base spare held n3 3 [v3] = some y3) (t4 : DataW.trod enc Tryd.prog w base spare held n4 3 [v4] = some y4) (t5 : DataW.trod enc Tryd.prog w base spare held n5 9 [v5] = some y5) :
    ∃ x : Card, x.Wf ∧ v0 = .string (bs x.id) ∧ v1 = .string (bs x.by') ∧ v2 = .int .i64 x.score ∧ v3 = .int .i64 x.time ∧ v4 = .int .i64 x.act ∧ v5 = .string (bs x.rea) := by
  obtain ⟨s0, e0, _, w0⟩ := DataW.trod_string Tryd.underlying9 t0
  obtain ⟨s1, e1, _, w1⟩ := DataW.trod_string Tryd.underlying9 t1
  obtain ⟨n2, e2, _, w2⟩ := DataW.trod_int Tryd.underlying3 t2
  obtain ⟨n3, e3, _, w3⟩ := DataW.trod_int Tryd.underlying3 t3
  obtain ⟨n4, e4, _, w4⟩ := DataW.trod_int Tryd.underlying3 t4
  obtain ⟨s5, e5, _, w5⟩ := DataW.trod_string Tryd.underlying9 t5
  simp at e0 e1 e2 e3 e4 e5
  obtain ⟨l0, rfl⟩ := bs_form s0
  obtain ⟨l1, rfl⟩ := bs_form s1
  obtain ⟨l5, rfl⟩ := bs_form s5
  rw [bs_size] at w0 w1 w5
  subst e0 e1 e2 e3 e4 e5
  exact ⟨⟨l0, l1, n2, n3, n4, l5⟩, ⟨of_wf w2, of_wf w3, of_wf w4, w0, w1, w5⟩, rfl, rfl, rfl, rfl, rfl, rfl⟩
set_option maxRecDepth 100000 in
theorem open_card {H : Type} {enc : TypeId × Value → H} {w : World} {base : Nat} {spare : Nat → Bool} {held : Bool} {r : Go.Reach} {b0 : Nat} {v : Value} {d : DataW H} {p : List MemPlace}
    (hv : Value.okWide Tryd.prog w r b0 38 v) (h : DataW.Trod enc Tryd.prog w base spare held 38 v d p) :
    ∃ x : Card, v = .agg (cellsC x) ∧ x.Wf := by
  obtain ⟨v0, v1, v2, v3, v4, v5, y0, y1, y2, y3, y4, y5, n, rfl, t0, t1, t2, t3, t4, t5⟩ := open_agg6 Tryd.underlying38 (by kernel_rfl) (by kernel_rfl) hv h
  obtain ⟨x, hx, rfl, rfl, rfl, rfl, rfl, rfl⟩ := card_of t0 t1 t2 t3 t4 t5
  exact ⟨x, rfl, hx⟩
set_option maxRecDepth 100000 in
theorem open_cards {H : Type} {enc : TypeId × Value → H} {w : World} {base : Nat} {spare : Nat → Bool} {held : Bool} {r : Go.Reach} {b0 : Nat} {v : Value} {d : DataW H} {p : List MemPlace}
    (hv : Value.okWide Tryd.prog w r b0 35 v) (h : DataW.Trod enc Tryd.prog w base spare held 35 v d p) :
    ∃ A C l, v = .slice A l.length C ∧ CRow w A l ∧ (∀ t, t ∈ l → t.Wf) ∧ l.length ≤ 9223372036854775807 := by
  obtain ⟨a, len, cap, rfl⟩ := okWide_slice Tryd.underlying35 hv
  obtain ⟨fuel, hf⟩ := h
  rcases open_slice_fields Tryd.underlying35 Tryd.underlying38 (by kernel_rfl) (by kernel_rfl) hf with ⟨hcs, hx⟩ | ⟨a', len', cap', m, D, Pl, hcs, _, hl, hm, hmm, hx, hi⟩
  · simp [Value.cells] at hcs
    obtain ⟨rfl, rfl, rfl⟩ := hcs
    exact ⟨none, 0, [], rfl, fun h => by simp at h, by simp, by simp⟩
  · simp [Value.cells] at hcs
    obtain ⟨rfl, rfl, rfl⟩ := hcs
    have hlm : len ≤ m := by rw [hmm]; split <;> omega
    have key : ∀ i, i < len → ∃ x : Card, x.Wf ∧ w.cell? (a'.add (i * 6 + 0)) = some (.string (bs x.id)) ∧ w.cell? (a'.add (i * 6 + 1)) = some (.string (bs x.by')) ∧ w.cell? (a'.add (i * 6 + 2)) = some (.int .i64 x.score) ∧ w.cell? (a'.add (i * 6 + 3)) = some (.int .i64 x.time) ∧ w.cell? (a'.add (i * 6 + 4)) = some (.int .i64 x.act) ∧ w.cell? (a'.add (i * 6 + 5)) = some (.string (bs x.rea)) := by
      intro i hil
      obtain ⟨ys, n, _, _, hyl, hg⟩ := hi i (by omega)
      obtain ⟨v0, y0, c0, _, t0⟩ := hg 0 _ rfl
      obtain ⟨v1, y1, c1, _, t1⟩ := hg 1 _ rfl
      obtain ⟨v2, y2, c2, _, t2⟩ := hg 2 _ rfl
      obtain ⟨v3, y3, c3, _, t3⟩ := hg 3 _ rfl
      obtain ⟨v4, y4, c4, _, t4⟩ := hg 4 _ rfl
      obtain ⟨v5, y5, c5, _, t5⟩ := hg 5 _ rfl
      obtain ⟨x, hx, rfl, rfl, rfl, rfl, rfl, rfl⟩ := card_of t0 t1 t2 t3 t4 t5
      exact ⟨x, hx, c0, c1, c2, c3, c4, c5⟩
    obtain ⟨l, hll, hl1, hl2⟩ := list_below (⟨[], [], 0, 0, 0, []⟩ : Card) key
    subst hll
    refine ⟨some a', cap, l, rfl, ?_, fun x hx => ?_, by rw [maxLen_eq] at hm; omega⟩
    · intro hpos
      obtain ⟨_, _, c00, _⟩ := key 0 hpos
      have hsp' := spot_none (a := a') (by simpa [Addr.add] using c00)
      refine ⟨a'.block, a'.off, by rw [← hsp'], fun i v hv => ?_⟩
      have hlt := (List.getElem?_eq_some_iff.1 hv).1
      rw [cardCells_length] at hlt
      obtain ⟨j, t, rfl, ht⟩ : ∃ j t, i = j * 6 + t ∧ t < 6 := ⟨i / 6, i % 6, by omega, by omega⟩
      rw [cardCells_get l j t ht] at hv
      obtain ⟨x, hx, hv⟩ := Option.bind_eq_some_iff.1 hv
      obtain ⟨_, c0, c1, c2, c3, c4, c5⟩ := hl1 j x hx
      rw [add_eq hsp'] at c0 c1 c2 c3 c4 c5
      rcases (show t = 0 ∨ t = 1 ∨ t = 2 ∨ t = 3 ∨ t = 4 ∨ t = 5 by omega) with rfl | rfl | rfl | rfl | rfl | rfl
      · exact c0.trans hv
      · exact c1.trans hv
      · exact c2.trans hv
      · exact c3.trans hv
      · exact c4.trans hv
      · exact c5.trans hv
    · obtain ⟨i, _, h, _⟩ := hl2 x hx
      exact h
end Go.Proofs.YtjcaaiikccnpeaaDoor
