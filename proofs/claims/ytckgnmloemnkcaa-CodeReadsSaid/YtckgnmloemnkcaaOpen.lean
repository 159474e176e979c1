/- Arguments opened: slices of structs, slices of slices of numbers. -/
import Derived.Test.YtckgnmloemnkcaaLaw
import Derived.Test.YtckgnmloemnkcaaSmall
import Derived.SliceStrings
import Derived.ChangeSlices
import Derived.ChangeMaps5
import Derived.Deep.Slices
import Derived.Deep.Fields
namespace Go.Proofs.Ytckgnmloemnkcaa
open Go.ChangeShapes Go.WideShapes Go.Deep
section
variable {H : Type} {enc : TypeId × Value → H} {P : Program} {w : World} {base : Nat} {spare : Nat → Bool} {held : Bool}
theorem open_slice_fields {t e : TypeId} {fs : Array Field} {fuel : Nat} {cs : List Value} {x : DataW H × List MemPlace} (ht : P.underlying t = some (.slice e)) (he : P.underlying e = some (.struct fs))
    (hone : oneCellFields P fs = true) (hC : P.cellsOf e = fs.size) (h : DataW.trod enc P w base spare held fuel t cs = some x) :
    (cs = [.slice none 0 0] ∧ x = (.nil, [])) ∨
    ∃ (a : Addr) (len cap m : Nat) (D : Nat → DataW H) (Pl : Nat → List MemPlace), cs = [.slice (some a) len cap] ∧ base ≤ a.block ∧ len ≤ cap ∧ cap ≤ maxLen ∧ m = (if spare a.block then cap else len) ∧
      x = (.slice ((List.range len).map D) ((List.range (m - len)).map fun j => D (len + j)), MemPlace.row a (m * fs.size) ++ (List.range m).flatMap Pl) ∧
      ∀ i, i < m → ∃ (ys : List (DataW H × List MemPlace)) (n : Nat), D i = .agg (ys.map (·.1)) ∧ Pl i = ys.flatMap (·.2) ∧ ys.length = fs.size ∧
        ∀ (j : Nat) (f : Field), fs[j]? = some f → ∃ (v : Value) (y : DataW H × List MemPlace), w.cell? (a.add (i * fs.size + j)) = some v ∧ ys[j]? = some y ∧ DataW.trod enc P w base spare held n f.type [v] = some y := by
  rcases open_slice ht h with h0 | ⟨a, len, cap, m, n, D, Pl, hcs, hb, hl, hm, hmm, hx, hi⟩
  · exact .inl h0
  · refine .inr ⟨a, len, cap, m, D, Pl, hcs, hb, hl, hm, hmm, by rw [hC] at hx; exact hx, fun i him => ?_⟩
    obtain ⟨cs', hc, ht'⟩ := hi i him
    rw [hC] at hc
    obtain ⟨ys, n', hn', hy, hlen, hyl, hf⟩ := DataW.trod_struct he ht'
    obtain ⟨_, hcl, hat⟩ := World.cells?_some hc
    simp only [Prod.mk.injEq] at hy
    refine ⟨ys, n', hy.1, hy.2, hyl, fun j f hj => ?_⟩
    obtain ⟨ho, hk⟩ := hone_of hone j f hj
    have hjl : j < fs.size := (Array.getElem?_eq_some_iff.1 hj).1
    have hcell := hat j hjl
    have hv : cs'[j]? = some (cs'[j]'(by omega)) := List.getElem?_eq_getElem (by omega)
    have h1 := hf j f hj
    rw [ho, hk] at h1
    have hone' : (cs'.drop j).take 1 = [cs'[j]'(by omega)] := by
      rw [List.drop_eq_getElem_cons (by omega)]
      rfl
    rw [hone'] at h1
    have hys : ys[j]? = some (ys[j]'(by omega)) := List.getElem?_eq_getElem (by omega)
    refine ⟨_, _, ?_, hys, h1.trans hys⟩
    rw [← Go.Deep.add_add, hcell, hv]
end

theorem choose_below {α : Type} (z : α) {n : Nat} {P : Nat → α → Prop} (h : ∀ i, i < n → ∃ x, P i x) : ∃ f : Nat → α, ∀ i, i < n → P i (f i) :=
  ⟨fun i => if hi : i < n then (h i hi).choose else z, fun i hi => by
    have := (h i hi).choose_spec
    simpa [hi] using this⟩
/-- .. as a list of that length -/
theorem list_below {α : Type} (z : α) {n : Nat} {P : Nat → α → Prop} (h : ∀ i, i < n → ∃ x, P i x) : ∃ l : List α, l.length = n ∧ (∀ i x, l[i]? = some x → P i x) ∧ ∀ x, x ∈ l → ∃ i, i < n ∧ P i x := by
  obtain ⟨f, hf⟩ := choose_below z h
  refine ⟨(List.range n).map f, by simp, fun i x hx => ?_, fun x hx => ?_⟩
  · simp only [List.getElem?_map] at hx
    have hil : i < n := by
      rcases Nat.lt_or_ge i n with h | h
      · exact h
      · rw [List.getElem?_eq_none (by simpa using h)] at hx; simp at hx
    rw [List.getElem?_range hil] at hx
    simp only [Option.map_some, Option.some.injEq] at hx
    subst hx
    exact hf i hil
  · obtain ⟨i, hi, rfl⟩ := List.mem_map.1 hx
    exact ⟨i, by simpa using hi, hf i (by simpa using hi)⟩
theorem spot_none {w : World} {a : Addr} {v : Value} (h : w.cell? a = some v) : a.spot = none := by
  unfold World.cell? at h
  split at h
  · cases hs : a.spot with
    | none => rfl
    | some x => simp [hs] at h
  · cases h
theorem add_eq {a : Addr} (h : a.spot = none) (n : Nat) : a.add n = ⟨a.block, a.off + n, none⟩ := by
  unfold Addr.add
  split
  · next e => subst e; cases a; simp_all
  · rfl
theorem laidOut : laidOutB Try.prog = true := by kernel_rfl
theorem own : ownKnob Try.prog.godebug = none := by kernel_rfl
def wf64 (a : Int) : Prop := -9223372036854775808 ≤ a ∧ a ≤ 9223372036854775807
theorem of_wf {a : Int} (h : (Lit.int .i64 a).wf = true) : wf64 a := by
  unfold wf64; simp [Lit.wf, IntKind.min, IntKind.max, IntKind.signed, IntKind.bits] at h; omega
theorem cells3 : Try.prog.cellsOf 3 = 1 := by kernel_rfl
theorem cells9 : Try.prog.cellsOf 9 = 1 := by kernel_rfl
theorem row_of_cells {w : World} {a : Addr} {xs : List Value} (h : ∀ i x, xs[i]? = some x → w.cell? (a.add i) = some x) : RowAt w (some a) xs := by
  intro hp
  have hx0 : xs[0]? = some xs[0] := List.getElem?_eq_getElem hp
  have h0 := h 0 _ hx0
  have hsp := spot_none (a := a) (by simpa [Addr.add] using h0)
  refine ⟨a.block, a.off, by rw [← hsp], fun i x hx => ?_⟩
  have h1 := h i x hx
  rwa [add_eq hsp] at h1
theorem open_nums {H : Type} {enc : TypeId × Value → H} {w : World} {base fuel : Nat} {spare : Nat → Bool} {held : Bool} {cs : List Value} {x : DataW H × List MemPlace}
    (h : DataW.trod enc Try.prog w base spare held fuel 23 cs = some x) :
    ∃ A C l, cs = [.slice A l.length C] ∧ RowAt w A (ints l) ∧ l.length ≤ 9223372036854775807 ∧ ∀ x, x ∈ l → wf64 x := by
  rcases Go.ChangeShapes.open_ints Try.underlying23 Try.underlying3 cells3 h with ⟨rfl, _⟩ | ⟨a, len, cap, zs, rfl, _, hl, hm, hz, _, hc, hwf⟩
  · exact ⟨none, 0, [], rfl, fun h => by simp [ints] at h, by simp, by simp⟩
  · have hzl : len ≤ zs.length := by rw [hz]; split <;> omega
    have htl : (zs.take len).length = len := by simp; omega
    refine ⟨some a, cap, zs.take len, by rw [htl], row_of_cells fun i x hx => ?_, by rw [htl]; unfold maxLen at hm; omega, fun x hx => of_wf (hwf x (List.mem_of_mem_take hx))⟩
    have hi : i < len := by
      have := (List.getElem?_eq_some_iff.1 hx).1
      rw [ints_length, htl] at this
      exact this
    rw [hc i (by omega)]
    simp only [ints, List.getElem?_map, List.getElem?_take_of_lt hi] at hx
    have hzi : zs[i]? = some zs[i] := List.getElem?_eq_getElem (by omega)
    rw [hzi] at hx
    simp at hx
    rw [← hx]
    simp [List.getD, hzi]
theorem open_texts {H : Type} {enc : TypeId × Value → H} {w : World} {base fuel : Nat} {spare : Nat → Bool} {held : Bool} {cs : List Value} {x : DataW H × List MemPlace}
    (h : DataW.trod enc Try.prog w base spare held fuel 22 cs = some x) :
    ∃ A C l, cs = [.slice A l.length C] ∧ RowAt w A (strs l) ∧ l.length ≤ 9223372036854775807 ∧ ∀ x, x ∈ l → x.length ≤ 9223372036854775807 := by
  rcases Go.ChangeShapes.open_strings Try.underlying22 Try.underlying9 cells9 h with ⟨rfl, _⟩ | ⟨a, len, cap, zs, rfl, _, hl, hm, hz, _, hc, hwf⟩
  · exact ⟨none, 0, [], rfl, fun h => by simp [strs] at h, by simp, by simp⟩
  · have hzl : len ≤ zs.length := by rw [hz]; split <;> omega
    have htl : ((zs.take len).map fun s => s.data.toList).length = len := by simp; omega
    refine ⟨some a, cap, (zs.take len).map fun s => s.data.toList, by rw [htl], row_of_cells fun i x hx => ?_, by rw [htl]; unfold maxLen at hm; omega, fun x hx => ?_⟩
    · have hi : i < len := by
        have := (List.getElem?_eq_some_iff.1 hx).1
        rw [strs_length, htl] at this
        exact this
      rw [hc i (by omega)]
      have hzi : zs[i]? = some zs[i] := List.getElem?_eq_getElem (by omega)
      rw [strs, List.getElem?_map, List.getElem?_map, List.getElem?_take_of_lt hi, hzi] at hx
      rw [List.getD_eq_getElem?_getD, hzi]
      exact hx
    · obtain ⟨s, hs, rfl⟩ := List.mem_map.1 hx
      have := hwf s (List.mem_of_mem_take hs)
      unfold maxLen at this
      rw [Array.length_toList]
      exact this
/-- a slice argument -/
theorem open_nums_arg {H : Type} {enc : TypeId × Value → H} {w : World} {base : Nat} {spare : Nat → Bool} {held : Bool} {r : Go.Reach} {b0 : Nat} {v : Value} {d : DataW H} {p : List MemPlace}
    (hv : Value.okWide Try.prog w r b0 23 v) (h : DataW.Trod enc Try.prog w base spare held 23 v d p) :
    ∃ A C l, v = .slice A l.length C ∧ RowAt w A (ints l) ∧ l.length ≤ 9223372036854775807 ∧ ∀ x, x ∈ l → wf64 x := by
  obtain ⟨a, len, cap, rfl⟩ := okWide_slice Try.underlying23 hv
  obtain ⟨fuel, hf⟩ := h
  obtain ⟨A, C, l, hcs, h⟩ := open_nums hf
  simp [Value.cells] at hcs
  obtain ⟨rfl, rfl, rfl⟩ := hcs
  exact ⟨_, _, l, rfl, h⟩
theorem open_texts_arg {H : Type} {enc : TypeId × Value → H} {w : World} {base : Nat} {spare : Nat → Bool} {held : Bool} {r : Go.Reach} {b0 : Nat} {v : Value} {d : DataW H} {p : List MemPlace}
    (hv : Value.okWide Try.prog w r b0 22 v) (h : DataW.Trod enc Try.prog w base spare held 22 v d p) :
    ∃ A C l, v = .slice A l.length C ∧ RowAt w A (strs l) ∧ l.length ≤ 9223372036854775807 ∧ ∀ x, x ∈ l → x.length ≤ 9223372036854775807 := by
  obtain ⟨a, len, cap, rfl⟩ := okWide_slice Try.underlying22 hv
  obtain ⟨fuel, hf⟩ := h
  obtain ⟨A, C, l, hcs, h⟩ := open_texts hf
  simp [Value.cells] at hcs
  obtain ⟨rfl, rfl, rfl⟩ := hcs
  exact ⟨_, _, l, rfl, h⟩
theorem open_text_arg {H : Type} {enc : TypeId × Value → H} {w : World} {base : Nat} {spare : Nat → Bool} {held : Bool} {r : Go.Reach} {b0 : Nat} {v : Value} {d : DataW H} {p : List MemPlace}
    (hv : Value.okWide Try.prog w r b0 9 v) (h : DataW.Trod enc Try.prog w base spare held 9 v d p) :
    ∃ l, v = .string (bs l) ∧ l.length ≤ 9223372036854775807 := by
  obtain ⟨s, rfl, _, _, hs⟩ := Go.ChangeMaps.open_string Try.underlying9 hv h
  obtain ⟨l, rfl⟩ := bs_form s
  rw [bs_size] at hs
  exact ⟨l, rfl, by unfold maxLen at hs; omega⟩
end Go.Proofs.Ytckgnmloemnkcaa
