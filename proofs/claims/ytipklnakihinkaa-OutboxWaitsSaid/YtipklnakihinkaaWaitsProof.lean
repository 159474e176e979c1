/- OutboxWaits answers true for every input. -/
import Derived.Test.YtipklnakihinkaaRows
import Derived.Test.YtipklnakihinkaaOpen
import Derived.Test.YtipklnakihinkaaWaitsWalk
namespace Go.Proofs.Ytipklnakihinkaa
open Go.ChangeShapes Go.WideShapes Go.ChangeAt Go.RowKit Go.Deep
set_option linter.unusedVariables false

theorem open_row {H : Type} {enc : TypeId × Value → H} {w : World} {base fuel : Nat} {spare : Nat → Bool} {held : Bool} {cs : List Value} {x : DataW H × List MemPlace}
    (h : DataW.trod enc Try.prog w base spare held fuel 25 cs = some x) :
    ∃ v l, cs = [v] ∧ IntsAt w (fun b => b < w.heap.size) v l ∧ l.length ≤ 9223372036854775807 ∧ ∀ x, x ∈ l → wf64 x := by
  rcases open_ints Try.underlying25 Try.underlying3 cells3 h with ⟨rfl, _⟩ | ⟨a, len, cap, zs, rfl, _, hl, hm, hz, _, hc, hwf⟩
  · exact ⟨_, [], rfl, ⟨none, 0, rfl, fun h => by simp at h⟩, by simp, by simp⟩
  · have hzl : len ≤ zs.length := by rw [hz]; split <;> omega
    have htl : (zs.take len).length = len := by simp; omega
    refine ⟨_, zs.take len, rfl, ⟨some a, cap, by rw [htl], fun hp => ?_⟩, by rw [htl]; unfold maxLen at hm; omega, fun x hx => of_wf (hwf x (List.mem_of_mem_take hx))⟩
    rw [htl] at hp
    have h0 := hc 0 (by omega)
    have hsp := spot_none (a := a) (by simpa [Addr.add] using h0)
    refine ⟨a.block, a.off, by rw [← hsp], by simpa [Addr.add] using lt_of_cell h0, fun i x hx => ?_⟩
    have hi : i < len := by
      rcases Nat.lt_or_ge i len with h | h
      · exact h
      · rw [List.getElem?_eq_none (by omega)] at hx; simp at hx
    have h1 := hc i (by omega)
    rw [add_eq hsp] at h1
    rw [h1]
    rw [List.getElem?_take_of_lt hi] at hx
    simp [List.getD, hx]
theorem open_rows {H : Type} {enc : TypeId × Value → H} {w : World} {base : Nat} {spare : Nat → Bool} {held : Bool} {r : Go.Reach} {b0 : Nat} {v : Value} {d : DataW H} {p : List MemPlace}
    (hv : Value.okWide Try.prog w r b0 22 v) (h : DataW.Trod enc Try.prog w base spare held 22 v d p) :
    ∃ A C ends, v = .slice A ends.length C ∧ RowsAt w (fun b => b < w.heap.size) A ends ∧ EndsOk ends := by
  obtain ⟨a, len, cap, rfl⟩ := okWide_slice Try.underlying22 hv
  obtain ⟨fuel, hf⟩ := h
  rcases open_slice Try.underlying22 hf with ⟨hcs, hx⟩ | ⟨a', len', cap', m, n, D, Pl, hcs, _, hl, hm, hmm, hx, hi⟩
  · simp [Value.cells] at hcs
    obtain ⟨rfl, rfl, rfl⟩ := hcs
    exact ⟨none, 0, [], rfl, fun h => by simp at h, by simp, by simp⟩
  · simp [Value.cells] at hcs
    obtain ⟨rfl, rfl, rfl⟩ := hcs
    have hlm : len ≤ m := by rw [hmm]; split <;> omega
    have c25 : Try.prog.cellsOf 25 = 1 := by kernel_rfl
    have key : ∀ i, i < len → ∃ l : List Int, (∃ v, w.cell? (a'.add i) = some v ∧ IntsAt w (fun b => b < w.heap.size) v l) ∧ l.length ≤ 9223372036854775807 ∧ ∀ x, x ∈ l → wf64 x := by
      intro i hil
      obtain ⟨cs', hc, ht⟩ := hi i (by omega)
      rw [c25] at hc
      obtain ⟨_, hcl, hat⟩ := World.cells?_some hc
      obtain ⟨v, l, rfl, hv, hl2, hw⟩ := open_row ht
      refine ⟨l, ⟨v, ?_, hv⟩, hl2, hw⟩
      have := hat 0 (by omega)
      simpa [Addr.add] using this
    obtain ⟨ll, hll, hl1, hl2⟩ := list_below ([] : List Int) key
    subst hll
    refine ⟨some a', cap, ll, rfl, fun hpos => ?_, by unfold maxLen at hm; omega, fun l hml => ?_⟩
    · obtain ⟨_, ⟨v0, c0, _⟩, _⟩ := key 0 hpos
      have hsp := spot_none (a := a') (by simpa [Addr.add] using c0)
      refine ⟨a'.block, a'.off, by rw [← hsp], by simpa [Addr.add] using lt_of_cell c0, fun i l hil => ?_⟩
      obtain ⟨⟨v, hc, hv⟩, _⟩ := hl1 i l hil
      rw [add_eq hsp] at hc
      exact ⟨v, hc, hv⟩
    · obtain ⟨i, _, _, h⟩ := hl2 l hml
      exact h

theorem own : ownKnob Try.prog.godebug = none := by kernel_rfl
set_option maxRecDepth 100000 in
theorem waits_lifted (os : Os) (started : os.Started) (H : Type) (enc : TypeId × Value → H) :
    ReturnsInHanded {} Try.checked os 4 .any (Rows.outboxWaitsSpec.pre6 enc Try.prog Try.f4 Rows.outboxWaitsRow.domain false) (Rows.outboxWaitsSpec.post enc Try.prog Try.f4 false true false false) := by
  refine returnsInHanded_of_change (C := Try.checked) own started (by kernel_rfl) Try.func4
    (ChangeSpec.witness6 (enc := enc) (C := Try.checked) false ⟨#[], #[.int .i64 0, .int .i64 0, .slice none 0 0, .int .i64 0, .int .i64 0], []⟩ 8 (by kernel_rfl) (by kernel_rfl) (by kernel_rfl) (by kernel_rfl)) ?_
  intro W base args ds gs before hval0 hW hcnd _
  have hval : ∀ (j : Nat) t v, Try.f4.params[j]? = some t → args[j]? = some v → Value.okWide Try.prog W .any base t v := hval0
  have hW' := hW
  obtain ⟨p, q, hA0, hV, rfl, hfz, hnd⟩ := hW
  have hA : DataW.TrodAll enc Try.prog W 0 (fun _ => true) true Try.f4.params.toList args.toList ds p := hA0
  rw [Try.params4] at hA hval
  obtain ⟨v0, vs0, d0, ds0, p0, q0, hargs, rfl, rfl, h0, r0⟩ := trodAll_cons hA
  obtain ⟨v1, vs1, d1, ds1, p1, q1, rfl, rfl, rfl, h1, r1⟩ := trodAll_cons r0
  obtain ⟨v2, vs2, d2, ds2, p2, q2, rfl, rfl, rfl, h2, r2⟩ := trodAll_cons r1
  obtain ⟨v3, vs3, d3, ds3, p3, q3, rfl, rfl, rfl, h3, r3⟩ := trodAll_cons r2
  obtain ⟨v4, vs4, d4, ds4, p4, q4, rfl, rfl, rfl, h4, r4⟩ := trodAll_cons r3
  obtain ⟨rfl, rfl, rfl⟩ := trodAll_nil r4
  obtain rfl : args = #[v0, v1, v2, v3, v4] := by cases args; simp_all
  obtain ⟨rfl, rfl⟩ := trodVars_none hV
  obtain ⟨a, rfl, rfl, rfl, wa⟩ := open_int Try.underlying3 (hval 0 3 v0 rfl rfl) h0
  obtain ⟨b, rfl, rfl, rfl, wb⟩ := open_int Try.underlying3 (hval 1 3 v1 rfl rfl) h1
  obtain ⟨A, C, ends, rfl, hrows, hok⟩ := open_rows (hval 2 22 v2 rfl rfl) h2
  obtain ⟨c, rfl, rfl, rfl, wc⟩ := open_int Try.underlying3 (hval 3 3 v3 rfl rfl) h3
  obtain ⟨d, rfl, rfl, rfl, wd⟩ := open_int Try.underlying3 (hval 4 3 v4 rfl rfl) h4
  refine (waits_any a b ends c d A C W hrows hok (of_wf wb) (of_wf wd) (of_wf wc)).mono fun e W' hp => ?_
  obtain ⟨rfl, hB⟩ := hp
  exact ⟨_, rfl, law_post laidOut (by kernel_rfl) rfl Try.underlying4 rfl hW' rfl hB⟩

theorem waits_holds : Rows.OutboxWaitsSaid :=
  OpenClaim.holds_of_wide 4 Try.f4 rfl rfl rfl rfl rfl rfl rfl ⟨rfl, rfl, rfl, rfl, rfl⟩ rfl rfl rfl rfl rfl (by kernel_rfl) Try.func4 (by kernel_rfl)
    (of_decide_eq_true (by kernel_rfl)) (by unfold Func.isWrapper; first | (rw [if_pos (by decide +kernel)]; kernel_rfl) | (rw [if_neg (by decide +kernel)]; exact ⟨rfl, rfl⟩))
    (fun os started H enc _ => waits_lifted os started H enc)
end Go.Proofs.Ytipklnakihinkaa
