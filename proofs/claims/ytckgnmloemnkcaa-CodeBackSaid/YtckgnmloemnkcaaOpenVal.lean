/- Arguments opened: a Value, and a slice of Values. -/
import Derived.Test.YtckgnmloemnkcaaOpen
import Derived.Test.YtckgnmloemnkcaaVal
import Derived.Lib.SmallJoins
namespace Go.Proofs.Ytckgnmloemnkcaa
open Go.Joins Go.ChangeShapes Go.WideShapes Go.RowKit Go.Deep
set_option linter.unusedVariables false
section
variable {H : Type} {enc : TypeId × Value → H} {P : Program} {w : World} {base : Nat} {spare : Nat → Bool} {held : Bool}
theorem open_agg5 {r : Go.Reach} {b0 : Nat} {t : TypeId} {f0 f1 f2 f3 f4 : Field} {v : Value} {d : DataW H} {p : List MemPlace} (hs : P.underlying t = some (.struct #[f0, f1, f2, f3, f4])) (hone : oneCellFields P #[f0, f1, f2, f3, f4] = true) (hC : P.cellsOf t = 5)
    (hv : Value.okWide P w r b0 t v) (h : DataW.Trod enc P w base spare held t v d p) :
    ∃ (v0 v1 v2 v3 v4 : Value) (y0 y1 y2 y3 y4 : DataW H × List MemPlace) (n : Nat), v = .agg #[v0, v1, v2, v3, v4] ∧
      DataW.trod enc P w base spare held n f0.type [v0] = some y0 ∧ DataW.trod enc P w base spare held n f1.type [v1] = some y1 ∧ DataW.trod enc P w base spare held n f2.type [v2] = some y2 ∧ DataW.trod enc P w base spare held n f3.type [v3] = some y3 ∧ DataW.trod enc P w base spare held n f4.type [v4] = some y4 := by
  obtain ⟨cs, rfl, hsz⟩ := okWide_struct hs hv
  obtain ⟨l⟩ := cs
  match l, hsz.trans hC with
  | [c0, c1, c2, c3, c4], _ =>
    obtain ⟨fuel, hf⟩ := h
    obtain ⟨xs, n, _, hx, _, hlen, hg⟩ := DataW.trod_struct hs hf
    obtain ⟨o0, k0⟩ := hone_of hone 0 f0 rfl
    obtain ⟨o1, k1⟩ := hone_of hone 1 f1 rfl
    obtain ⟨o2, k2⟩ := hone_of hone 2 f2 rfl
    obtain ⟨o3, k3⟩ := hone_of hone 3 f3 rfl
    obtain ⟨o4, k4⟩ := hone_of hone 4 f4 rfl
    match xs, hlen with
    | [y0, y1, y2, y3, y4], _ =>
      exact ⟨c0, c1, c2, c3, c4, y0, y1, y2, y3, y4, n, rfl, by simpa [Value.cells, o0, k0] using hg 0 f0 rfl, by simpa [Value.cells, o1, k1] using hg 1 f1 rfl, by simpa [Value.cells, o2, k2] using hg 2 f2 rfl, by simpa [Value.cells, o3, k3] using hg 3 f3 rfl, by simpa [Value.cells, o4, k4] using hg 4 f4 rfl⟩
end
/-- five fields that read well are a value of the law's -/
theorem value_of {H : Type} {enc : TypeId × Value → H} {w : World} {base : Nat} {spare : Nat → Bool} {held : Bool} {v0 v1 v2 v3 v4 : Value} {y0 y1 y2 y3 y4 : DataW H × List MemPlace} {n0 n1 n2 n3 n4 : Nat}
    (t0 : DataW.trod enc Try.prog w base spare held n0 3 [v0] = some y0) (t1 : DataW.trod enc Try.prog w base spare held n1 3 [v1] = some y1) (t2 : DataW.trod enc Try.prog w base spare held n2 9 [v2] = some y2)
    (t3 : DataW.trod enc Try.prog w base spare held n3 22 [v3] = some y3) (t4 : DataW.trod enc Try.prog w base spare held n4 23 [v4] = some y4) :
    ∃ (v : V) (q : VP), v0 = .int .i64 v.k ∧ v1 = .int .i64 v.n ∧ v2 = .string (bs v.s) ∧ v3 = .slice q.A v.l.length q.C ∧ v4 = .slice q.B v.m.length q.D ∧ VAt w v q ∧ v.wf := by
  obtain ⟨k, e0, _, w0⟩ := DataW.trod_int Try.underlying3 t0
  obtain ⟨n, e1, _, w1⟩ := DataW.trod_int Try.underlying3 t1
  obtain ⟨s, e2, _, _⟩ := DataW.trod_string Try.underlying9 t2
  obtain ⟨A, C, l, e3, hl, _, _⟩ := open_texts t3
  obtain ⟨B, D, m, e4, hm, _, hmw⟩ := open_nums t4
  simp only [List.cons.injEq, and_true] at e0 e1 e2 e3 e4
  obtain ⟨s', rfl⟩ := bs_form s
  exact ⟨⟨k, n, s', l, m⟩, ⟨A, C, B, D⟩, e0, e1, e2, e3, e4, ⟨hl, hm⟩, ⟨(of_wf w0).1, (of_wf w0).2, (of_wf w1).1, (of_wf w1).2, hmw⟩⟩
theorem open_value_arg {H : Type} {enc : TypeId × Value → H} {w : World} {base : Nat} {spare : Nat → Bool} {held : Bool} {r : Go.Reach} {b0 : Nat} {v : Value} {d : DataW H} {p : List MemPlace}
    (hv : Value.okWide Try.prog w r b0 45 v) (h : DataW.Trod enc Try.prog w base spare held 45 v d p) :
    ∃ (x : V) (q : VP), v = .agg #[.int .i64 x.k, .int .i64 x.n, .string (bs x.s), .slice q.A x.l.length q.C, .slice q.B x.m.length q.D] ∧ VAt w x q ∧ x.wf := by
  obtain ⟨v0, v1, v2, v3, v4, y0, y1, y2, y3, y4, n, rfl, t0, t1, t2, t3, t4⟩ := open_agg5 Try.underlying45 (by kernel_rfl) (by kernel_rfl) hv h
  obtain ⟨x, q, rfl, rfl, rfl, rfl, rfl, hx⟩ := value_of t0 t1 t2 t3 t4
  exact ⟨x, q, rfl, hx⟩
/-- a slice of values -/
def ValsAt (w : World) (A : Option Addr) (l : List (V × VP)) : Prop := 0 < l.length → ∃ b o, A = some ⟨b, o, none⟩ ∧ ∀ i x, l[i]? = some x →
  w.cell? ⟨b, o + i * 5, none⟩ = some (.int .i64 x.1.k) ∧ w.cell? ⟨b, o + i * 5 + 1, none⟩ = some (.int .i64 x.1.n) ∧ w.cell? ⟨b, o + i * 5 + 2, none⟩ = some (.string (bs x.1.s)) ∧
  w.cell? ⟨b, o + i * 5 + 3, none⟩ = some (.slice x.2.A x.1.l.length x.2.C) ∧ w.cell? ⟨b, o + i * 5 + 4, none⟩ = some (.slice x.2.B x.1.m.length x.2.D) ∧ VAt w x.1 x.2
theorem ValsAt.below {w w' : World} {A : Option Addr} {l : List (V × VP)} (h : ValsAt w A l) (hb : Below w.heap.size w w') : ValsAt w' A l := by
  intro hp
  obtain ⟨b, o, hA, hc⟩ := h hp
  refine ⟨b, o, hA, fun i x hx => ?_⟩
  obtain ⟨c0, c1, c2, c3, c4, hv⟩ := hc i x hx
  have k := fun {p v} (h : w.cell? p = some v) => (hb.cell (lt_of_cell h)).trans h
  exact ⟨k c0, k c1, k c2, k c3, k c4, hv.below hb⟩
theorem open_values_arg {H : Type} {enc : TypeId × Value → H} {w : World} {base : Nat} {spare : Nat → Bool} {held : Bool} {r : Go.Reach} {b0 : Nat} {v : Value} {d : DataW H} {p : List MemPlace}
    (hv : Value.okWide Try.prog w r b0 42 v) (h : DataW.Trod enc Try.prog w base spare held 42 v d p) :
    ∃ A C l, v = .slice A l.length C ∧ ValsAt w A l ∧ (∀ x, x ∈ l → x.1.wf) ∧ l.length ≤ 9223372036854775807 := by
  obtain ⟨a, len, cap, rfl⟩ := okWide_slice Try.underlying42 hv
  obtain ⟨fuel, hf⟩ := h
  rcases open_slice_fields Try.underlying42 Try.underlying45 (by kernel_rfl) (by kernel_rfl) hf with ⟨hcs, hx⟩ | ⟨a', len', cap', m, D, Pl, hcs, _, hl, hm, hmm, hx, hi⟩
  · simp [Value.cells] at hcs
    obtain ⟨rfl, rfl, rfl⟩ := hcs
    exact ⟨none, 0, [], rfl, fun h => by simp at h, by simp, by simp⟩
  · simp [Value.cells] at hcs
    obtain ⟨rfl, rfl, rfl⟩ := hcs
    have hlm : len ≤ m := by rw [hmm]; split <;> omega
    have key : ∀ i, i < len → ∃ x : V × VP, x.1.wf ∧ w.cell? (a'.add (i * 5 + 0)) = some (.int .i64 x.1.k) ∧ w.cell? (a'.add (i * 5 + 1)) = some (.int .i64 x.1.n) ∧ w.cell? (a'.add (i * 5 + 2)) = some (.string (bs x.1.s)) ∧
        w.cell? (a'.add (i * 5 + 3)) = some (.slice x.2.A x.1.l.length x.2.C) ∧ w.cell? (a'.add (i * 5 + 4)) = some (.slice x.2.B x.1.m.length x.2.D) ∧ VAt w x.1 x.2 := by
      intro i hil
      obtain ⟨ys, n, _, _, hyl, hg⟩ := hi i (by omega)
      obtain ⟨v0, y0, c0, _, t0⟩ := hg 0 _ rfl
      obtain ⟨v1, y1, c1, _, t1⟩ := hg 1 _ rfl
      obtain ⟨v2, y2, c2, _, t2⟩ := hg 2 _ rfl
      obtain ⟨v3, y3, c3, _, t3⟩ := hg 3 _ rfl
      obtain ⟨v4, y4, c4, _, t4⟩ := hg 4 _ rfl
      obtain ⟨x, q, rfl, rfl, rfl, rfl, rfl, hx, hw⟩ := value_of t0 t1 t2 t3 t4
      exact ⟨(x, q), hw, c0, c1, c2, c3, c4, hx⟩
    obtain ⟨l, hll, hl1, hl2⟩ := list_below ((⟨0, 0, [], [], []⟩, ⟨none, 0, none, 0⟩) : V × VP) key
    subst hll
    refine ⟨some a', cap, l, rfl, ?_, fun x hx => ?_, by unfold maxLen at hm; omega⟩
    · intro hpos
      obtain ⟨_, _, c0, _⟩ := key 0 hpos
      have hsp := spot_none (a := a') (by simpa [Addr.add] using c0)
      refine ⟨a'.block, a'.off, by rw [← hsp], fun i x hx => ?_⟩
      obtain ⟨_, c0, c1, c2, c3, c4, hv⟩ := hl1 i x hx
      simp only [add_eq hsp, ← Nat.add_assoc, Nat.add_zero] at c0 c1 c2 c3 c4
      exact ⟨c0, c1, c2, c3, c4, hv⟩
    · obtain ⟨i, _, h, _⟩ := hl2 x hx
      exact h
end Go.Proofs.Ytckgnmloemnkcaa
