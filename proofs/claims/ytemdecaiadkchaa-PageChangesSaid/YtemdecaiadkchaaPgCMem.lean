/- The walk over lists that change: its memory. -/
import Derived.Test.YtemdecaiadkchaaPgHas
namespace Go.Proofs.Ytemdecaiadkchaa
open Go.ChangeShapes Go.WideShapes Go.ChangeAt Go.RowKit Go.Lib
set_option linter.unusedVariables false

theorem own_new (w : World) : (w.alloc (.cells #[] 39)).ownsRow w.heap.size 39 6 (.slice (some ⟨w.heap.size, 0, none⟩) 0 0) 0 [] :=
  ⟨by simp, .inr ⟨w.heap.size, 0, #[], rfl, Nat.le_refl _, heap_alloc_new w _, by simp, by unfold maxLen; omega, by simp, by simp⟩⟩
def Apart (v : Value) (A : Option Addr) (L : List Card) : Prop := 0 < L.length → ∀ g b o f, v.ownBlock = some g → A = some ⟨b, o, f⟩ → g ≠ b
theorem crow_ne {w : World} {Bm b o : Nat} {k : Mk} {L : List Card} (hm : w.heap[Bm]? = some (.cells (cellsM k) 23 (0, 0))) (h : CRow w (some ⟨b, o, none⟩) L) (h0 : 0 < L.length) : b ≠ Bm := by
  intro e
  subst e
  obtain ⟨c, hc⟩ : ∃ c, L[0]? = some c := ⟨_, List.getElem?_eq_getElem h0⟩
  obtain ⟨_, _, _, _, _, h5⟩ := h.sixA hc
  unfold World.cell? at h5
  rw [hm] at h5
  simp only [cellsM, Nat.zero_mul, Nat.add_zero] at h5
  rw [Array.getElem?_eq_none (by simp)] at h5
  cases h5
theorem crow_lt {w : World} {b o : Nat} {f : Option Nat} {L : List Card} (h : CRow w (some ⟨b, o, f⟩) L) (h0 : 0 < L.length) : b < w.heap.size := by
  obtain ⟨b', o', e, _⟩ := h h0
  simp only [Option.some.injEq, Addr.mk.injEq] at e
  obtain ⟨rfl, rfl, rfl⟩ := e
  obtain ⟨c, hc⟩ : ∃ c, L[0]? = some c := ⟨_, List.getElem?_eq_getElem h0⟩
  exact World.block_lt_of_cell? w _ (h.sixA hc).1
/-- the walk's memory: the mark's box, the cards seen, the round's cards, its page -/
structure PT (w : World) (Bm : Nat) (k : Mk) (v9 : Value) (seen : List Card) (A12 : Option Addr) (now : List Card) (A14 : Option Addr) (pg : List Card) (wq : World) : Prop where
  m : wq.heap[Bm]? = some (.cells (cellsM k) 23 (0, 0))
  bel : Below w.heap.size w wq
  lo : w.heap.size ≤ Bm
  own : wq.ownsRow (Bm + 1) 39 6 v9 seen.length (cardCells seen)
  rn : CRow wq A12 now
  rp : CRow wq A14 pg
  an : Apart v9 A12 now
  ap : Apart v9 A14 pg
section Mem
variable {w wq wq' : World} {Bm : Nat} {k : Mk} {v9 : Value} {seen now pg : List Card} {A12 A14 : Option Addr}
theorem PT.below (h : PT w Bm k v9 seen A12 now A14 pg wq) (hb : Below wq.heap.size wq wq') : PT w Bm k v9 seen A12 now A14 pg wq' :=
  ⟨keep_blkP hb h.m, h.bel.trans (hb.mono h.bel.size), h.lo, own_below h.own hb, h.rn.below hb, h.rp.below hb, h.an, h.ap⟩
theorem PT.alloc (h : PT w Bm k v9 seen A12 now A14 pg wq) (X : Obj) : PT w Bm k v9 seen A12 now A14 pg (wq.alloc X) := h.below ((Below.refl _ _).alloc (Nat.le_refl _) X)
theorem apart_none (v : Value) (L : List Card) : Apart v none L := fun _ _ _ _ _ _ e => by cases e
theorem apart_nil (v : Value) (A : Option Addr) : Apart v A [] := fun h => absurd h (Nat.lt_irrefl 0)
theorem crow_nil (w : World) (A : Option Addr) : CRow w A [] := fun h => absurd h (Nat.lt_irrefl 0)
theorem PT.drop (h : PT w Bm k v9 seen A12 now A14 pg wq) : PT w Bm k v9 seen none [] none [] wq :=
  ⟨h.m, h.bel, h.lo, h.own, crow_nil _ _, crow_nil _ _, apart_nil _ _, apart_nil _ _⟩
theorem PT.list (h : PT w Bm k v9 seen none [] none [] wq) {L : List Card} {A : Option Addr} (hr : CRow wq A L) (ha : Apart v9 A L) : PT w Bm k v9 seen A L none [] wq :=
  ⟨h.m, h.bel, h.lo, h.own, hr, crow_nil _ _, ha, apart_nil _ _⟩
theorem PT.page (h : PT w Bm k v9 seen A12 now none [] wq) {L : List Card} {A : Option Addr} (hr : CRow wq A L) (ha : Apart v9 A L) : PT w Bm k v9 seen A12 now A L wq :=
  ⟨h.m, h.bel, h.lo, h.own, h.rn, hr, h.an, ha⟩
theorem PT.set (h : PT w Bm k v9 seen A12 now A14 pg wq) (k' : Mk) : PT w Bm k' v9 seen A12 now A14 pg (markW wq Bm k') := by
  have hc : Chg [Bm] wq (markW wq Bm k') := markW_chg (by simp)
  have row : ∀ (A : Option Addr) (L : List Card), CRow wq A L → CRow (markW wq Bm k') A L := fun A L hr => hr.of_block fun h0 b o e => by
    subst e
    exact hc.block b (crow_lt hr h0) (by simpa using crow_ne h.m hr h0)
  exact ⟨markW_heap h.m, h.bel.trans (markW_below h.lo), h.lo, own_chg h.own (by simp) hc, row _ _ h.rn, row _ _ h.rp, h.an, h.ap⟩
theorem PT.app {v' : Value} {x : Card} {X : Obj} (h : PT w Bm k v9 seen A12 now A14 pg wq) (h1 : wq'.ownsRow (Bm + 1) 39 6 v' (seen.length + 1) (cardCells seen ++ (cellsC x).toList))
    (hg : (wq.alloc X).grownBy wq' v9.ownBlock) (h5 : v'.ownBlock = v9.ownBlock ∨ v'.ownBlock = some (wq.heap.size + 1)) : PT w Bm k v' (seen ++ [x]) A12 now A14 pg wq' := by
  have hA := h.alloc X
  have hsz : (wq.alloc X).heap.size = wq.heap.size + 1 := by simp
  have hmlt : Bm < (wq.alloc X).heap.size := (Array.getElem?_eq_some_iff.1 hA.m).1
  have hown : ∀ g, v9.ownBlock = some g → Bm + 1 ≤ g := fun g e => (own_lt h.own e).2
  have row : ∀ (A : Option Addr) (L : List Card), CRow (wq.alloc X) A L → Apart v9 A L → CRow wq' A L := fun A L hr ha => hr.of_block fun h0 b o e => by
    subst e
    exact hg.block b (crow_lt hr h0) (fun e => ha h0 b b o none e.symm rfl rfl)
  have apt : ∀ (A : Option Addr) (L : List Card), CRow wq A L → Apart v9 A L → Apart v' A L := fun A L hr ha h0 g b o f hv e => by
    rcases h5 with h5 | h5
    · exact ha h0 g b o f (h5.symm.trans hv) e
    · rw [h5] at hv
      obtain rfl := Option.some.inj hv
      subst e
      have := crow_lt hr h0
      omega
  refine ⟨(hg.block Bm hmlt (fun e => ?_)).trans hA.m, hA.bel.trans ?_, h.lo, ?_, row _ _ hA.rn h.an, row _ _ hA.rp h.ap, apt _ _ h.rn h.an, apt _ _ h.rp h.ap⟩
  · have := hown Bm e.symm; omega
  · exact (Below.refl _ _).grown hg (by have := hA.bel.size; exact this) (fun g e => by have := hown g e; have := h.lo; omega)
  · rw [List.length_append, cardCells_snoc]; exact h1
end Mem
/-- between two rounds -/
def LS (w : World) (l o : List Card) (Bm i : Nat) (more : Bool) (v9 : Value) (wr : World) : Prop :=
  i ≤ 60 ∧ ∃ seen k, Walk l o i seen k more ∧ PT w Bm k v9 seen none [] none [] wr
/-- while the round's list is made -/
def NB (wr : World) (l o : List Card) (i j : Nat) (v : Value) (wq : World) : Prop :=
  wq.ownsRow wr.heap.size 39 6 v (l ++ pickO i o j).length (cardCells (l ++ pickO i o j)) ∧ Below wr.heap.size wr wq
def NextG (W : World) (k : Mk) (X : List Card) (e : Ending) (w' : World) : Prop :=
  ∃ (q : Nat) (pg : List Card) (k' : Mk) (mo : Bool) (A : Option Addr) (C : Nat), Hid (1 ≤ q ∧ pageL k X q = pg ∧ nextM k pg = k' ∧ moreB k X q = mo) ∧
    e = .returned (.tuple #[.slice A pg.length C, .agg #[.int .i64 k'.now, .int .i64 k'.score, .int .i64 k'.time, .string (bs k'.id), .bool k'.beg], .bool mo]) ∧ CIn0 w' A pg ∧ (∀ b, A = some ⟨b, 0, none⟩ → W.heap.size ≤ b) ∧ Below W.heap.size W w'
theorem next_g (k : Mk) (X : List Card) (n : Nat) (hn : X.length = n) (A : Option Addr) (C z : Nat) (W : World) (hz : 1 ≤ z) (hX : n ≤ 1000000) (hr : CRow W A X) :
    Calls Try.prog 15 #[.slice A n C, .agg #[.int .i64 k.now, .int .i64 k.score, .int .i64 k.time, .string (bs k.id), .bool k.beg], .int .i64 z] W (NextG W k X) := by
  have := next_any2 k A C X z W (by omega) hr
  rw [hn] at this
  refine this.mono fun e w' ⟨A', C', h1, h2, _, h4, h5⟩ => ⟨(min (z : Int) 50).toNat, _, _, _, A', C', ⟨by omega, rfl, rfl, rfl⟩, h1, h2, h4, h5⟩
/-- behind the page -/
def F17 (w : World) (Bm : Nat) (k : Mk) (v9 : Value) (seen : List Card) (A12 : Option Addr) (now X : List Card) (v14 v10 : Value) (wx : World) : Prop :=
  ∃ (q : Nat) (pg : List Card) (k' : Mk) (mo : Bool) (A : Option Addr) (C : Nat), (1 ≤ q ∧ pageL k X q = pg ∧ nextM k pg = k' ∧ moreB k X q = mo) ∧ v14 = .slice A pg.length C ∧ v10 = .bool mo ∧ PT w Bm k' v9 seen A12 now A pg wx
theorem PT.next {w wq : World} {Bm : Nat} {k : Mk} {v9 : Value} {seen now : List Card} {A12 : Option Addr} (h : PT w Bm k v9 seen A12 now none [] wq) {w' : World} {X pg : List Card} {k' : Mk} {mo : Bool} {q : Nat} {A : Option Addr} {C : Nat} (h1 : Hid (1 ≤ q ∧ pageL k X q = pg ∧ nextM k pg = k' ∧ moreB k X q = mo))
    (hb : Below wq.heap.size wq w') (hc : CIn0 w' A pg) (hf : ∀ b, A = some ⟨b, 0, none⟩ → wq.heap.size ≤ b) : F17 w Bm k v9 seen A12 now X (.slice A pg.length C) (.bool mo) (markW w' Bm k') := by
  refine ⟨q, pg, k', mo, A, C, h1, rfl, rfl, PT.set ((h.below hb).page hc.crow fun h0 g b o f hv e => ?_) k'⟩
  obtain ⟨b', e', _⟩ := hc.row h0
  rw [e'] at e
  simp only [Option.some.injEq, Addr.mk.injEq] at e
  obtain ⟨rfl, _, _⟩ := e
  have := hf b' e'
  have := (own_lt h.own hv).1
  omega
end Go.Proofs.Ytemdecaiadkchaa
