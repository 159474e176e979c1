/- Rows of strings of the call's own; slices of a row that came in. -/
import Derived.Test.YtgmlhgojkmpkkaaDoorIdsAll
import Derived.Laws.Slices
namespace Go.Proofs.YtgmlhgojkmpkkaaDoor
open Go.ChangeShapes Go.WideShapes Go.ChangeAt Go.RowKit Go.Lib
set_option linter.unusedVariables false

theorem infoStr : (Tryd.prog.info? 9).map (fun i => (i.zero, i.size, i.bytes)) = some (some (.string ⟨#[]⟩), 1, 16) := by kernel_rfl
def SRow (w : World) (base : Nat) (a : Option Addr) (c : Nat) (l : List (List UInt8)) : Prop := w.ownsRow base 9 1 (.slice a l.length c) l.length (strs l)
theorem SRow.below {w w' : World} {base : Nat} {a : Option Addr} {c : Nat} {l : List (List UInt8)} (h : SRow w base a c l) (hb : Below w.heap.size w w') : SRow w' base a c l := by
  refine ⟨h.1, ?_⟩
  rcases h.2 with hn | ⟨g, cap, cur, hv, hbg, hg, rest⟩
  · exact .inl hn
  · exact .inr ⟨g, cap, cur, hv, hbg, by rw [hb.block g (lt_heap hg)]; exact hg, rest⟩
theorem SRow.at {w : World} {base : Nat} {a : Option Addr} {c : Nat} {l : List (List UInt8)} (h : SRow w base a c l) (hn : 0 < l.length) : ∃ g, a = some ⟨g, 0, none⟩ ∧ base ≤ g ∧ g < w.heap.size ∧ l.length ≤ c ∧ ∀ i x, l[i]? = some x → w.cell? ⟨g, i, none⟩ = some (.string (bs x)) := by
  rcases h.2 with ⟨hv, h0⟩ | ⟨g, cap, cur, hv, hbg, hg, hnc, hcm, hcs, htake⟩
  · omega
  · simp only [Value.slice.injEq] at hv
    obtain ⟨rfl, _, rfl⟩ := hv
    refine ⟨g, rfl, hbg, lt_heap hg, hnc, fun i x hx => ?_⟩
    have := h.cells (g := g) rfl i (.string (bs x)) (strs_get hx)
    have hadd : (⟨g, 0, none⟩ : Addr).add i = ⟨g, i, none⟩ := by unfold Addr.add; split <;> simp_all
    rw [hadd] at this
    exact this
theorem SRow.row {w : World} {base : Nat} {a : Option Addr} {c : Nat} {l : List (List UInt8)} (h : SRow w base a c l) : RowAt w a (strs l) := by
  intro hp
  rw [strs_length] at hp
  obtain ⟨g, rfl, _, _, _, hc⟩ := h.at hp
  refine ⟨g, 0, rfl, fun i x hx => ?_⟩
  rw [Nat.zero_add]
  simp only [strs, List.getElem?_map, Option.map_eq_some_iff] at hx
  obtain ⟨y, hy, rfl⟩ := hx
  exact hc i y hy
theorem SRow.free {w : World} {base g c : Nat} {l : List (List UInt8)} (h : SRow w base (some ⟨g, 0, none⟩) c l) (i : Nat) : w.frozen? ⟨g, i, none⟩ = false := by
  rcases h.2 with ⟨hv, _⟩ | ⟨g', cap, cur, hv, hbg, hg, _⟩
  · cases hv
  · simp only [Value.slice.injEq, Option.some.injEq, Addr.mk.injEq] at hv
    obtain ⟨⟨rfl, _⟩, _⟩ := hv
    exact frozen_of_row _ _ _ _ _ hg
theorem SRow.set {w : World} {base g c : Nat} {l : List (List UInt8)} (h : SRow w base (some ⟨g, 0, none⟩) c l) {k : Nat} (hk : k < l.length) (x : List UInt8) : SRow (w.setCell ⟨g, k, none⟩ (.string (bs x))) base (some ⟨g, 0, none⟩) c (l.set k x) := by
  refine ⟨by simp [strs], ?_⟩
  rcases h.2 with ⟨hv, _⟩ | ⟨g', cap, cur, hv, hbg, hg, hnc, hcm, hcs, htake⟩
  · cases hv
  · simp only [Value.slice.injEq, Option.some.injEq, Addr.mk.injEq] at hv
    obtain ⟨⟨rfl, _⟩, _, rfl⟩ := hv
    refine .inr ⟨g, c, cur.setIfInBounds k (.string (bs x)), by simp, hbg, heap_setCell_same _ _ _ _ _ _ hg, by simpa using hnc, hcm, by simpa using hcs, ?_⟩
    rw [Array.toList_setIfInBounds]
    simp only [Nat.mul_one, List.length_set] at htake ⊢
    rw [List.take_set, htake]
    simp [strs, List.map_set]
theorem SRow.fresh (w : World) (base : Nat) (hb : base ≤ w.heap.size) : SRow (w.alloc (.cells #[] 9)) base (some ⟨w.heap.size, 0, none⟩) 0 [] :=
  ⟨by simp [strs], .inr ⟨w.heap.size, 0, #[], rfl, hb, heap_alloc_new w _, by simp, by unfold maxLen; omega, by simp, by simp [strs]⟩⟩
theorem run_append_s (ty : TypeId) (w : World) (base : Nat) (a : Option Addr) (c : Nat) (l new : List (List UInt8)) (hown : SRow w base a c l) (ad : Addr) (m cc : Nat) (hm : new.length = m)
    (hnews : ∀ j u, (strs new)[j]? = some u → w.cell? (ad.add j) = some u) (h63 : l.length + m ≤ 1000000) (hbase : base ≤ w.heap.size) :
    ∃ a' c' w' l', (Builtin.append_ #[29, 29] ty #[.slice a l.length c, .slice (some ad) m cc]).run Tryd.prog w = .ok (.slice a' l'.length c') w' ∧ Hid (l' = l ++ new) ∧ SRow w' base a' c' l' ∧ Below base w w' ∧ w.grownBy w' (Value.slice a l.length c).ownBlock := by
  obtain ⟨i0, hi, hz0, hz1, hz2⟩ := info_parts infoStr
  obtain ⟨v', w', hr, hown', hgr, _⟩ := run_append_own (P := Tryd.prog) w base 29 ty 9 i0 (.string ⟨#[]⟩) 1 16 Tryd.underlying29 hi hz0 hz1 hz2 rfl (by omega) _ _ _ hown ad m cc (strs new) (by rw [strs_length]; omega) hnews (by intro u hu; simp only [strs, List.mem_map] at hu; obtain ⟨b, _, rfl⟩ := hu; rfl) (by unfold maxLen; omega) (by omega) hbase
  have e1 : strs l ++ strs new = strs (l ++ new) := by simp [strs]
  have e2 : l.length + m = (l ++ new).length := by rw [List.length_append]; omega
  rw [e1, e2] at hown'
  have hv : ∃ a' c', v' = .slice a' (l ++ new).length c' := by
    rcases hown'.2 with ⟨h1, h0⟩ | ⟨g, cap, cur, hv, _⟩
    · exact ⟨none, 0, by rw [h1, h0]⟩
    · exact ⟨some ⟨g, 0, none⟩, cap, hv⟩
  obtain ⟨a', c', rfl⟩ := hv
  exact ⟨a', c', w', _, hr, rfl, hown', (Below.refl _ _).grown hgr hbase (fun b hb => (hown.lt b hb).1), hgr⟩
section
variable {ops : Array Oper} {o : Oper} {ac : Act} {Q : Exit → Act → World → Prop}
theorem wpList_append_s {rest : List Oper} (w : World) (hgd : o.guard = none) (s x : Operand) (ho : o.op = .call { callee := .builtin .append, args := #[s, x], argTypes := #[29, 29] })
    (base : Nat) (a : Option Addr) (c : Nat) (l new : List (List UInt8)) (hs : ac.eval s = .slice a l.length c) (hown : SRow w base a c l) (ad : Addr) (m cc : Nat) (hx : ac.eval x = .slice (some ad) m cc) (hm : new.length = m)
    (hnews : ∀ j u, (strs new)[j]? = some u → w.cell? (ad.add j) = some u) (h63 : l.length + m ≤ 1000000) (hbase : base ≤ w.heap.size)
    (h : ∀ a' c' w' l', Hid (l' = l ++ new) → SRow w' base a' c' l' → Below base w w' → w.grownBy w' (Value.slice a l.length c).ownBlock → wpList Tryd.prog ops Q rest (ac.put o.dst (.slice a' l'.length c')) w') : wpList Tryd.prog ops Q (o :: rest) ac w :=
  wpList_plain hgd fun K hK => by
    obtain ⟨a', c', w', l', hr, h1, h2, h3, h4⟩ := run_append_s o.type w base a c l new hown ad m cc hm hnews h63 hbase
    unfold Oper.wp execOp
    simp only [ho, resolve, invoke, builtin, Sem.run_bind, Sem.run_pure, Result.andThen_ok, List.map_toArray, List.map_cons, List.map_nil, hs, hx, hr]
    exact hK _ _ (h a' c' w' l' h1 h2 h3 h4)
theorem step_append_s {K : Act → World → Prop} {E : Prop} (w : World) (hgd : o.guard = none) (s x : Operand) (ho : o.op = .call { callee := .builtin .append, args := #[s, x], argTypes := #[29, 29] })
    (base : Nat) (a : Option Addr) (c : Nat) (l new : List (List UInt8)) (hs : ac.eval s = .slice a l.length c) (hown : SRow w base a c l) (ad : Addr) (m cc : Nat) (hx : ac.eval x = .slice (some ad) m cc) (hm : new.length = m)
    (hnews : ∀ j u, (strs new)[j]? = some u → w.cell? (ad.add j) = some u) (h63 : l.length + m ≤ 1000000) (hbase : base ≤ w.heap.size)
    (h : ∀ a' c' w' l', Hid (l' = l ++ new) → SRow w' base a' c' l' → Below base w w' → w.grownBy w' (Value.slice a l.length c).ownBlock → K (ac.put o.dst (.slice a' l'.length c')) w') :
    if Region.wanted o (yielded ops ac.tmps) = true then Oper.wp Tryd.prog o ac w K Q else E := by
  have hw : Region.wanted o (yielded ops ac.tmps) = true := by simp [Region.wanted, hgd]
  rw [if_pos hw]
  obtain ⟨a', c', w', l', hr, h1, h2, h3, h4⟩ := run_append_s o.type w base a c l new hown ad m cc hm hnews h63 hbase
  unfold Oper.wp execOp
  simp only [ho, resolve, invoke, builtin, Sem.run_bind, Sem.run_pure, Result.andThen_ok, List.map_toArray, List.map_cons, List.map_nil, hs, hx, hr]
  exact h a' c' w' l' h1 h2 h3 h4
end
theorem SRow.drew {w : World} {base : Nat} {a : Option Addr} {c : Nat} {l : List (List UInt8)} (h : SRow w base a c l) : SRow w.drew base a c l := h
theorem SRow.alloc {w : World} {base : Nat} {a : Option Addr} {c : Nat} {l : List (List UInt8)} (h : SRow w base a c l) (o : Obj) : SRow (w.alloc o) base a c l := h.below ((Below.refl w.heap.size w).alloc (Nat.le_refl _) o)
theorem SRow.fresh_at (W : World) (base n : Nat) (hn : W.heap.size = n) (hb : base ≤ n) : SRow (W.alloc (.cells #[] 9)) base (some ⟨n, 0, none⟩) 0 [] := by
  subst hn
  exact SRow.fresh W base hb
theorem new_str (W : World) (n : Nat) (hn : W.heap.size = n) (x : List UInt8) : ∀ j u, (strs [x])[j]? = some u → (W.alloc (.cells #[.string (bs x)] 9)).cell? ((⟨n, 0, none⟩ : Addr).add j) = some u := by
  subst hn
  exact cells_new W [.string (bs x)] 9
theorem new_alloc {W : World} {n : Nat} {x : List UInt8} (h : ∀ j u, (strs [x])[j]? = some u → W.cell? ((⟨n, 0, none⟩ : Addr).add j) = some u) (o : Obj) : ∀ j u, (strs [x])[j]? = some u → (W.alloc o).cell? ((⟨n, 0, none⟩ : Addr).add j) = some u := fun j u hu => by
  have h1 := h j u hu
  rw [World.cell?_alloc_lt W o _ (World.block_lt_of_cell? W _ h1)]
  exact h1
theorem new_drew {W : World} {n : Nat} {x : List UInt8} (h : ∀ j u, (strs [x])[j]? = some u → W.cell? ((⟨n, 0, none⟩ : Addr).add j) = some u) : ∀ j u, (strs [x])[j]? = some u → W.drew.cell? ((⟨n, 0, none⟩ : Addr).add j) = some u := h
theorem new_kept {W W' : World} {g n m c : Nat} {x : List UInt8} (hg : W.grownBy W' (Value.slice (some ⟨g, 0, none⟩) m c).ownBlock) (hne : n ≠ g) (h : ∀ j u, (strs [x])[j]? = some u → W.cell? ((⟨n, 0, none⟩ : Addr).add j) = some u) : ∀ j u, (strs [x])[j]? = some u → W'.cell? ((⟨n, 0, none⟩ : Addr).add j) = some u := fun j u hu => by
  have hadd : (⟨n, 0, none⟩ : Addr).add j = ⟨n, 0 + j, none⟩ := by unfold Addr.add; split <;> simp_all
  have h1 := h j u hu
  rw [hadd] at h1 ⊢
  exact hg.cell h1 (by simp [Value.ownBlock]; exact hne)
theorem elemStr : Tryd.prog.elem 29 = 9 := by kernel_rfl
theorem sizeStr (w : World) : (sizeOf 9).run Tryd.prog w = .ok 1 w := by
  obtain ⟨i0, hi, hz0, hz1, hz2⟩ := info_parts infoStr
  simp [sizeOf, typeInfo, hi, hz1]
/-- l[:i] -/
theorem sl_to (b o n C i : Nat) (z : Int) (hz : z = i) (hi : i ≤ C) (w : World) : (Instr.slice 29 (.slice (some ⟨b, o, none⟩) n C) none (some (.int .i64 z)) none).run Tryd.prog w = .ok (.slice (some ⟨b, o, none⟩) i C) w := by
  subst hz
  rw [run_slice_h (P := Tryd.prog) w 29 (some ⟨b, o, none⟩) n C (by rw [elemStr]; exact Tryd.underlying29) .i64 (i : Int) (by omega) (by omega)]
  rw [elemStr, sizeStr]
  simp [sliced, Addr.add]
/-- l[k:] -/
theorem sl_from (b o n C k : Nat) (z : Int) (hz : z = k) (hk : k ≤ n) (w : World) : (Instr.slice 29 (.slice (some ⟨b, o, none⟩) n C) (some (.int .i64 z)) none none).run Tryd.prog w = .ok (.slice (some (if C = k then ⟨b, o, none⟩ else ⟨b, o + k, none⟩)) (n - k) (C - k)) w := by
  subst hz
  rw [run_slice_l (P := Tryd.prog) w 29 (some ⟨b, o, none⟩) n C (by rw [elemStr]; exact Tryd.underlying29) .i64 (k : Int) (by omega) (by omega)]
  rw [elemStr, sizeStr]
  have hadd : (⟨b, o, none⟩ : Addr).add k = ⟨b, o + k, none⟩ := by unfold Addr.add; split <;> simp_all
  by_cases h : C = k
  · subst h; simp [sliced]
  · simp [sliced, h, hadd]
end Go.Proofs.YtgmlhgojkmpkkaaDoor
