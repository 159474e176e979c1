/- The reference's tables and schedule, walked. -/
import Derived.Test.YtgmlhgojkmpkkaaDoorRTurn
import Derived.Deep.RegionHeld3
namespace Go.Proofs.YtgmlhgojkmpkkaaDoor
open Go.ChangeShapes Go.WideShapes Go.ChangeAt Go.RowKit Go.Lib
set_option linter.unusedVariables false

def wCells (l : List Int) : List Value := l.map fun x => Value.int .u32 x
theorem wCells_length (l : List Int) : (wCells l).length = l.length := by simp [wCells]
theorem wCells_get {l : List Int} {i : Nat} {x : Int} (h : l[i]? = some x) : (wCells l)[i]? = some (.int .u32 x) := by simp [wCells, h]
theorem infoWord : (Tryd.prog.info? 42).map (fun i => (i.zero, i.size, i.bytes)) = some (some (.int .u32 0), 1, 4) := by kernel_rfl
/-- a list of words of the call's own: nil or a row -/
def WRow (w : World) (base : Nat) (a : Option Addr) (c : Nat) (l : List Int) : Prop := w.ownsRow base 42 1 (.slice a l.length c) l.length (wCells l)
theorem WRow.below {w w' : World} {base : Nat} {a : Option Addr} {c : Nat} {l : List Int} (h : WRow w base a c l) (hb : Below w.heap.size w w') : WRow w' base a c l := by
  refine ⟨h.1, ?_⟩
  rcases h.2 with hn | ⟨g, cap, cur, hv, hbg, hg, rest⟩
  · exact .inl hn
  · exact .inr ⟨g, cap, cur, hv, hbg, by rw [hb.block g (lt_heap hg)]; exact hg, rest⟩
theorem WRow.at {w : World} {base : Nat} {a : Option Addr} {c : Nat} {l : List Int} (h : WRow w base a c l) (hn : 0 < l.length) : ∃ g, a = some ⟨g, 0, none⟩ ∧ base ≤ g ∧ g < w.heap.size ∧ l.length ≤ c ∧ ∀ i x, l[i]? = some x → w.cell? ⟨g, i, none⟩ = some (.int .u32 x) := by
  rcases h.2 with ⟨hv, h0⟩ | ⟨g, cap, cur, hv, hbg, hg, hnc, hcm, hcs, htake⟩
  · omega
  · simp only [Value.slice.injEq] at hv
    obtain ⟨rfl, _, rfl⟩ := hv
    refine ⟨g, rfl, hbg, lt_heap hg, hnc, fun i x hx => ?_⟩
    have := h.cells (g := g) rfl i (.int .u32 x) (wCells_get hx)
    have hadd : (⟨g, 0, none⟩ : Addr).add i = ⟨g, i, none⟩ := by unfold Addr.add; split <;> simp_all
    rw [hadd] at this
    exact this
theorem WRow.nil (w : World) (base : Nat) : WRow w base none 0 [] := World.ownsRow_nil _ _ _ _
section
variable {ops : Array Oper} {o : Oper} {ac : Act} {Q : Exit → Act → World → Prop}
theorem run_append_w (ty : TypeId) (w : World) (base : Nat) (a : Option Addr) (c : Nat) (l new : List Int) (hown : WRow w base a c l) (ad : Addr) (m cc : Nat) (hm : new.length = m) (hm0 : 0 < m)
    (hnews : ∀ j u, (wCells new)[j]? = some u → w.cell? (ad.add j) = some u) (h63 : l.length + m ≤ 1000000) (hbase : base ≤ w.heap.size) :
    ∃ g c' w' l', (Builtin.append_ #[52, 52] ty #[.slice a l.length c, .slice (some ad) m cc]).run Tryd.prog w = .ok (.slice (some ⟨g, 0, none⟩) l'.length c') w' ∧ Hid (l' = l ++ new) ∧ WRow w' base (some ⟨g, 0, none⟩) c' l' ∧ Below base w w' := by
  obtain ⟨i0, hi, hz0, hz1, hz2⟩ := info_parts infoWord
  obtain ⟨v', w', hr, hown', hgr, _⟩ := run_append_own (P := Tryd.prog) w base 52 ty 42 i0 (.int .u32 0) 1 4 Tryd.underlying52 hi hz0 hz1 hz2 rfl (by omega) _ _ _ hown ad m cc (wCells new) (by rw [wCells_length]; omega) hnews (by intro u hu; simp only [wCells, List.mem_map] at hu; obtain ⟨b, _, rfl⟩ := hu; rfl) (by unfold maxLen; omega) (by omega) hbase
  have e1 : wCells l ++ wCells new = wCells (l ++ new) := by simp [wCells]
  have e2 : l.length + m = (l ++ new).length := by rw [List.length_append]; omega
  rw [e1, e2] at hown'
  have hv : ∃ g c', v' = .slice (some ⟨g, 0, none⟩) (l ++ new).length c' := by
    rcases hown'.2 with ⟨_, h0⟩ | ⟨g, cap, cur, hv, _⟩
    · rw [List.length_append] at h0; omega
    · exact ⟨g, cap, hv⟩
  obtain ⟨g, c', rfl⟩ := hv
  exact ⟨g, c', w', _, hr, rfl, hown', (Below.refl _ _).grown hgr hbase (fun b hb => (hown.lt b hb).1)⟩
theorem wpList_append_w {rest : List Oper} (w : World) (hgd : o.guard = none) (s x : Operand) (ho : o.op = .call { callee := .builtin .append, args := #[s, x], argTypes := #[52, 52] })
    (base : Nat) (a : Option Addr) (c : Nat) (l new : List Int) (hs : ac.eval s = .slice a l.length c) (hown : WRow w base a c l) (ad : Addr) (m cc : Nat) (hx : ac.eval x = .slice (some ad) m cc) (hm : new.length = m) (hm0 : 0 < m)
    (hnews : ∀ j u, (wCells new)[j]? = some u → w.cell? (ad.add j) = some u) (h63 : l.length + m ≤ 1000000) (hbase : base ≤ w.heap.size)
    (h : ∀ g c' w' l', Hid (l' = l ++ new) → WRow w' base (some ⟨g, 0, none⟩) c' l' → Below base w w' → wpList Tryd.prog ops Q rest (ac.put o.dst (.slice (some ⟨g, 0, none⟩) l'.length c')) w') : wpList Tryd.prog ops Q (o :: rest) ac w :=
  wpList_plain hgd fun K hK => by
    obtain ⟨g, c', w', l', hr, h1, h2, h3⟩ := run_append_w o.type w base a c l new hown ad m cc hm hm0 hnews h63 hbase
    unfold Oper.wp execOp
    simp only [ho, resolve, invoke, builtin, Sem.run_bind, Sem.run_pure, Result.andThen_ok, List.map_toArray, List.map_cons, List.map_nil, hs, hx, hr]
    exact hK _ _ (h g c' w' l' h1 h2 h3)
theorem step_append_w {K : Act → World → Prop} {E : Prop} (w : World) (hgd : o.guard = none) (s x : Operand) (ho : o.op = .call { callee := .builtin .append, args := #[s, x], argTypes := #[52, 52] })
    (base : Nat) (a : Option Addr) (c : Nat) (l new : List Int) (hs : ac.eval s = .slice a l.length c) (hown : WRow w base a c l) (ad : Addr) (m cc : Nat) (hx : ac.eval x = .slice (some ad) m cc) (hm : new.length = m) (hm0 : 0 < m)
    (hnews : ∀ j u, (wCells new)[j]? = some u → w.cell? (ad.add j) = some u) (h63 : l.length + m ≤ 1000000) (hbase : base ≤ w.heap.size)
    (h : ∀ g c' w' l', Hid (l' = l ++ new) → WRow w' base (some ⟨g, 0, none⟩) c' l' → Below base w w' → K (ac.put o.dst (.slice (some ⟨g, 0, none⟩) l'.length c')) w') :
    if Region.wanted o (yielded ops ac.tmps) = true then Oper.wp Tryd.prog o ac w K Q else E := by
  have hw : Region.wanted o (yielded ops ac.tmps) = true := by simp [Region.wanted, hgd]
  rw [if_pos hw]
  obtain ⟨g, c', w', l', hr, h1, h2, h3⟩ := run_append_w o.type w base a c l new hown ad m cc hm hm0 hnews h63 hbase
  unfold Oper.wp execOp
  simp only [ho, resolve, invoke, builtin, Sem.run_bind, Sem.run_pure, Result.andThen_ok, List.map_toArray, List.map_cons, List.map_nil, hs, hx, hr]
  exact h g c' w' l' h1 h2 h3
end
theorem wcell_one (w : World) (x : Int) : ∀ j u, (wCells [x])[j]? = some u → (w.alloc (.cells #[.int .u32 x] 42)).cell? ((⟨w.heap.size, 0, none⟩ : Addr).add j) = some u :=
  cells_new w [.int .u32 x] 42
/-- a new row of known cells -/
def RowPost (w : World) (l : List Int) (e : Ending) (w' : World) : Prop := ∃ g c, e = .returned (.slice (some ⟨g, 0, none⟩) l.length c) ∧ WRow w' w.heap.size (some ⟨g, 0, none⟩) c l ∧ Below w.heap.size w w'
theorem row_new (w : World) (l : List Int) (cs : Array Value) (h : cs = (wCells l).toArray) (hl : l.length ≤ 1000) : WRow (w.alloc (.cells cs 42)) w.heap.size (some ⟨w.heap.size, 0, none⟩) l.length l := by
  subst h
  exact ⟨by simp [wCells], .inr ⟨w.heap.size, l.length, _, rfl, Nat.le_refl _, heap_alloc_new w _, Nat.le_refl _, by unfold maxLen; omega, by simp [wCells], by rw [List.take_of_length_le (by simp [wCells])]⟩⟩
theorem firsts_any (w : World) : Calls Tryd.prog 41 #[] w (RowPost w st0.toL) := by
  have hr := row_new w st0.toL #[.int .u32 1779033703, .int .u32 3144134277, .int .u32 1013904242, .int .u32 2773480762, .int .u32 1359893119, .int .u32 2600822924, .int .u32 528734635, .int .u32 1541459225] (by kernel_rfl) (by decide)
  have HR := Lib.hid hr
  clear hr
  go_enter Tryd.func41, Tryd.ntmps41
  go_wp2
  go_ret
  exact ⟨_, _, rfl, HR.out, (Below.refl _ _).alloc (Nat.le_refl _) _⟩
set_option maxRecDepth 100000 in
theorem adds_any (w : World) : Calls Tryd.prog 50 #[] w (RowPost w kL) := by
  have hr := row_new w kL (wCells kL).toArray rfl (by decide)
  have HR := Lib.hid hr
  clear hr
  go_enter Tryd.func50, Tryd.ntmps50
  go_wp2
  go_ret
  exact ⟨_, _, rfl, HR.out, (Below.refl _ _).alloc (Nat.le_refl _) _⟩
def schL (b : List UInt8) (k : Nat) : List Int := (List.range k).map (sch b)
theorem schL_length (b : List UInt8) (k : Nat) : (schL b k).length = k := by simp [schL]
theorem schL_succ (b : List UInt8) (k : Nat) : schL b (k + 1) = schL b k ++ [sch b k] := by simp [schL, List.range_succ]
theorem schL_get (b : List UInt8) {k i : Nat} (h : i < k) : (schL b k)[i]? = some (sch b i) := by simp [schL, h]
/-- the bytes lie in a row -/
def BytesAt (w : World) (g : Nat) (l : List UInt8) : Prop := ∀ j, j < l.length → w.cell? ⟨g, j, none⟩ = some (.int .u8 (byN l j))
theorem BytesAt.below {w w' : World} {g : Nat} {l : List UInt8} (h : BytesAt w g l) (hb : Below w.heap.size w w') : BytesAt w' g l := fun j hj => by
  rw [hb.cell (World.block_lt_of_cell? w _ (h j hj))]; exact h j hj
end Go.Proofs.YtgmlhgojkmpkkaaDoor
