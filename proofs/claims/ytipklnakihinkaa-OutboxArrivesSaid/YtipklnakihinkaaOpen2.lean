/- Arguments opened: [][]int and []Act. -/
import Derived.Test.YtipklnakihinkaaOpen
import Derived.Test.YtipklnakihinkaaWaitsWalk
namespace Go.Proofs.Ytipklnakihinkaa
open Go.ChangeShapes Go.WideShapes Go.ChangeAt Go.RowKit Go.Deep
set_option linter.unusedVariables false

theorem open_row {H : Type} {enc : TypeId × Value → H} {w : World} {base fuel : Nat} {spare : Nat → Bool} {held : Bool} {cs : List Value} {x : DataW H × List MemPlace}
    (h : DataW.trod enc Try.prog w base spare held fuel 25 cs = some x) :
    ∃ v l, cs = [v] ∧ IntsAt w (fun b => b < w.heap.size) v l ∧ l.length ≤ 9223372036854775807 ∧ ∀ x, x ∈ l → wf64 x := by
  rcases open_ints Try.underlying25 Try.underlying3 cells3 h with ⟨rfl, _⟩ | ⟨a, len, cap, zs, rfl, _, hl, hm, hz, _, hc, hwf⟩
  · exact ⟨_, [], rfl, ⟨none, 0, rfl, fun h => by simp at h⟩, by simp, by simp⟩
  · have hzl : len ≤ zs.length := by rw [hz]; split <;> omega
    have htl : (zs.take len).length = len := by simp; omega
    refine ⟨_, zs.take len, rfl, ⟨some a, cap, by rw [htl], fun hp => ?_⟩, by rw [htl]; unfold maxLen at hm; omega, fun x hx => of_wf (hwf x (List.mem_of_mem_take hx))⟩
    rw [htl] at hp
    have h0 := hc 0 (by omega)
    have hsp := spot_none (a := a) (by simpa [Addr.add] using h0)
    refine ⟨a.block, a.off, by rw [← hsp], by simpa [Addr.add] using lt_of_cell h0, fun i x hx => ?_⟩
    have hi : i < len := by
      rcases Nat.lt_or_ge i len with h | h
      · exact h
      · rw [List.getElem?_eq_none (by omega)] at hx; simp at hx
    have h1 := hc i (by omega)
    rw [add_eq hsp] at h1
    rw [h1]
    rw [List.getElem?_take_of_lt hi] at hx
    simp [List.getD, hx]
theorem open_rows {H : Type} {enc : TypeId × Value → H} {w : World} {base : Nat} {spare : Nat → Bool} {held : Bool} {r : Go.Reach} {b0 : Nat} {v : Value} {d : DataW H} {p : List MemPlace}
    (hv : Value.okWide Try.prog w r b0 22 v) (h : DataW.Trod enc Try.prog w base spare held 22 v d p) :
    ∃ A C ends, v = .slice A ends.length C ∧ RowsAt w (fun b => b < w.heap.size) A ends ∧ EndsOk ends := by
  obtain ⟨a, len, cap, rfl⟩ := okWide_slice Try.underlying22 hv
  obtain ⟨fuel, hf⟩ := h
  rcases open_slice Try.underlying22 hf with ⟨hcs, hx⟩ | ⟨a', len', cap', m, n, D, Pl, hcs, _, hl, hm, hmm, hx, hi⟩
  · simp [Value.cells] at hcs
    obtain ⟨rfl, rfl, rfl⟩ := hcs
    exact ⟨none, 0, [], rfl, fun h => by simp at h, by simp, by simp⟩
  · simp [Value.cells] at hcs
    obtain ⟨rfl, rfl, rfl⟩ := hcs
    have hlm : len ≤ m := by rw [hmm]; split <;> omega
    have c25 : Try.prog.cellsOf 25 = 1 := by kernel_rfl
    have key : ∀ i, i < len → ∃ l : List Int, (∃ v, w.cell? (a'.add i) = some v ∧ IntsAt w (fun b => b < w.heap.size) v l) ∧ l.length ≤ 9223372036854775807 ∧ ∀ x, x ∈ l → wf64 x := by
      intro i hil
      obtain ⟨cs', hc, ht⟩ := hi i (by omega)
      rw [c25] at hc
      obtain ⟨_, hcl, hat⟩ := World.cells?_some hc
      obtain ⟨v, l, rfl, hv, hl2, hw⟩ := open_row ht
      refine ⟨l, ⟨v, ?_, hv⟩, hl2, hw⟩
      have := hat 0 (by omega)
      simpa [Addr.add] using this
    obtain ⟨ll, hll, hl1, hl2⟩ := list_below ([] : List Int) key
    subst hll
    refine ⟨some a', cap, ll, rfl, fun hpos => ?_, by unfold maxLen at hm; omega, fun l hml => ?_⟩
    · obtain ⟨_, ⟨v0, c0, _⟩, _⟩ := key 0 hpos
      have hsp := spot_none (a := a') (by simpa [Addr.add] using c0)
      refine ⟨a'.block, a'.off, by rw [← hsp], by simpa [Addr.add] using lt_of_cell c0, fun i l hil => ?_⟩
      obtain ⟨⟨v, hc, hv⟩, _⟩ := hl1 i l hil
      rw [add_eq hsp] at hc
      exact ⟨v, hc, hv⟩
    · obtain ⟨i, _, _, h⟩ := hl2 l hml
      exact h

theorem maxLen_eq : maxLen = 9223372036854775807 := rfl
theorem open_acts {H : Type} {enc : TypeId × Value → H} {w : World} {base : Nat} {spare : Nat → Bool} {held : Bool} {r : Go.Reach} {b0 : Nat} {v : Value} {d : DataW H} {p : List MemPlace}
    (hv : Value.okWide Try.prog w r b0 39 v) (h : DataW.Trod enc Try.prog w base spare held 39 v d p) :
    ∃ A C l, v = .slice A l.length C ∧ ActsAt w A l ∧ (∀ x, x ∈ l → x.wf) ∧ l.length ≤ 9223372036854775807 := by
  obtain ⟨a, len, cap, rfl⟩ := okWide_slice Try.underlying39 hv
  obtain ⟨fuel, hf⟩ := h
  rcases open_slice_fields Try.underlying39 Try.underlying41 (by kernel_rfl) (by kernel_rfl) hf with ⟨hcs, hx⟩ | ⟨a', len', cap', m, D, Pl, hcs, _, hl, hm, hmm, hx, hi⟩
  · simp [Value.cells] at hcs
    obtain ⟨rfl, rfl, rfl⟩ := hcs
    exact ⟨none, 0, [], rfl, fun h => by simp at h, by simp, by simp⟩
  · simp [Value.cells] at hcs
    obtain ⟨rfl, rfl, rfl⟩ := hcs
    have hlm : len ≤ m := by rw [hmm]; split <;> omega
    have key : ∀ i, i < len → ∃ x : Act, x.wf ∧ w.cell? (a'.add (i * 5 + 0)) = some (.int .i64 x.kind) ∧ w.cell? (a'.add (i * 5 + 1)) = some (.int .i64 x.peer) ∧ w.cell? (a'.add (i * 5 + 2)) = some (.int .i64 x.log) ∧ w.cell? (a'.add (i * 5 + 3)) = some (.int .i64 x.n) ∧ w.cell? (a'.add (i * 5 + 4)) = some (.int .i64 x.now) := by
      intro i hil
      obtain ⟨ys, n, _, _, hyl, hg⟩ := hi i (by omega)
      obtain ⟨v0, y0, c0, _, t0⟩ := hg 0 _ rfl
      obtain ⟨v1, y1, c1, _, t1⟩ := hg 1 _ rfl
      obtain ⟨v2, y2, c2, _, t2⟩ := hg 2 _ rfl
      obtain ⟨v3, y3, c3, _, t3⟩ := hg 3 _ rfl
      obtain ⟨v4, y4, c4, _, t4⟩ := hg 4 _ rfl
      obtain ⟨n0, e0, _, w0⟩ := DataW.trod_int Try.underlying3 t0
      obtain ⟨n1, e1, _, w1⟩ := DataW.trod_int Try.underlying3 t1
      obtain ⟨n2, e2, _, w2⟩ := DataW.trod_int Try.underlying3 t2
      obtain ⟨n3, e3, _, w3⟩ := DataW.trod_int Try.underlying3 t3
      obtain ⟨n4, e4, _, w4⟩ := DataW.trod_int Try.underlying3 t4
      simp at e0 e1 e2 e3 e4
      subst e0 e1 e2 e3 e4
      exact ⟨⟨n0, n1, n2, n3, n4⟩, ⟨of_wf w0, of_wf w1, of_wf w2, of_wf w3, of_wf w4⟩, c0, c1, c2, c3, c4⟩
    obtain ⟨l, hll, hl1, hl2⟩ := list_below (⟨0, 0, 0, 0, 0⟩ : Act) key
    subst hll
    refine ⟨some a', cap, l, rfl, ?_, fun x hx => ?_, by rw [maxLen_eq] at hm; omega⟩
    · intro hpos
      obtain ⟨_, _, c0, _⟩ := key 0 hpos
      have hsp := spot_none (a := a') (by simpa [Addr.add] using c0)
      refine ⟨a'.block, a'.off, by rw [← hsp], fun i x hx => ?_⟩
      obtain ⟨_, c0, c1, c2, c3, c4⟩ := hl1 i x hx
      simp only [add_eq hsp, ← Nat.add_assoc, Nat.add_zero] at c0 c1 c2 c3 c4
      exact ⟨c0, c1, c2, c3, c4⟩
    · obtain ⟨i, _, h, _⟩ := hl2 x hx
      exact h

theorem own : ownKnob Try.prog.godebug = none := by kernel_rfl
end Go.Proofs.Ytipklnakihinkaa
