/- page.Next, walked. -/
import Derived.Test.YtemdecaiadkchaaPgIter
import Derived.Test.YtemdecaiadkchaaSortA
import Derived.Test.YtemdecaiadkchaaCBase
import Derived.Maps.AppendAt
namespace Go.Proofs.Ytemdecaiadkchaa
open Go.ChangeShapes Go.WideShapes Go.ChangeAt Go.RowKit Go.Lib
set_option linter.unusedVariables false
attribute [local go_sem] Oper.semAt_some

/-- the mark behind some cards -/
def nextM (k : Mk) (l : List Card) : Mk := match l.getLast? with
  | none => k
  | some c => ⟨k.now, c.score, c.time, c.id, false⟩
theorem nextM_nil (k : Mk) : nextM k [] = k := rfl
theorem nextM_snoc (k : Mk) (l : List Card) (c : Card) : nextM k (l ++ [c]) = ⟨k.now, c.score, c.time, c.id, false⟩ := by unfold nextM; simp
def zeroM : Mk := ⟨0, 0, 0, [], false⟩
theorem hcells_kept {W W' : World} {row : Option Nat} {B n : Nat} {cs : Array Value} {t : TypeId} {fr : Nat × Nat} (h : W.heap[B]? = some (.cells cs t fr)) (hg : W.grownBy W' row) (hr : ∀ r, row = some r → n ≤ r ∧ ∃ o : Obj, W.heap[r]? = some o ∧ o.isCells = false) : W'.heap[B]? = some (.cells cs t fr) :=
  (hg.block B (Array.getElem?_eq_some_iff.1 h).1 (fun e => by obtain ⟨_, o, ho, hc⟩ := hr B e.symm; rw [h] at ho; cases ho; cases hc)).trans h
theorem own_kept {W W' : World} {row : Option Nat} {base e size m n : Nat} {v : Value} {xs : List Value} (h : W.ownsRow base e size v m xs) (hg : W.grownBy W' row) (hr : ∀ r, row = some r → n ≤ r ∧ ∃ o : Obj, W.heap[r]? = some o ∧ o.isCells = false) : W'.ownsRow base e size v m xs := by
  refine h.kept hg ?_
  rcases h.2 with ⟨rfl, _⟩ | ⟨g, cap, cur, rfl, _, hgb, _⟩
  · exact .inl rfl
  · refine .inr fun e' => ?_
    obtain ⟨_, o, ho, hc⟩ := hr g (by simpa [Value.ownBlock] using e'.symm)
    rw [hgb] at ho; cases ho; cases hc
theorem own_putObj {W : World} {base e size m l : Nat} {v : Value} {xs : List Value} {o : Obj} (h : W.ownsRow base e size v m xs) (hl : W.heap[l]? = some o) (hc : o.isCells = false) (o' : Obj) : (W.putObj l o').ownsRow base e size v m xs :=
  own_kept (n := 0) h (grownBy_putObj' W l o') (fun r e => by cases e; exact ⟨Nat.zero_le _, o, hl, hc⟩)
theorem heap_putObj {W : World} {l B : Nat} {o : Obj} {cs : Array Value} {t : TypeId} {fr : Nat × Nat} (h : W.heap[B]? = some (.cells cs t fr)) (hl : W.heap[l]? = some o) (hc : o.isCells = false) (o' : Obj) : (W.putObj l o').heap[B]? = some (.cells cs t fr) :=
  hcells_kept (n := 0) h (grownBy_putObj' W l o') (fun r e => by cases e; exact ⟨Nat.zero_le _, o, hl, hc⟩)
theorem own_lt {w : World} {base e size n : Nat} {v : Value} {xs : List Value} (h : w.ownsRow base e size v n xs) {g : Nat} (hg : v.ownBlock = some g) : g < w.heap.size ∧ base ≤ g := by
  rcases h.2 with ⟨rfl, _⟩ | ⟨g', cap, cur, rfl, hbg, hg', _⟩
  · cases hg
  · simp only [Value.ownBlock, Option.some.injEq] at hg
    subst hg
    exact ⟨(Array.getElem?_eq_some_iff.1 hg').1, hbg⟩
/-- between two rounds -/
structure NI (w : World) (Z n₁ : Nat) (k : Mk) (q : Int) (Q : Nat) (pre : List Card) (W : World) : Prop where
  c0 : W.heap[Z]? = some (.cells (cellsM k) 23 (0, 0))
  c1 : Boxed W (Z + 1) 3 (.int .i64 q)
  c2 : Boxed W (Z + 2) 30 (.slice none 0 0)
  c3 : W.heap[Z + 3]? = some (.cells (cellsM zeroM) 23 (0, 0))
  c4 : Boxed W (Z + 4) 4 (.bool false)
  c5 : ∃ A c, Boxed W (Z + 5) 30 (.slice A pre.length c) ∧ W.ownsRow n₁ 39 6 (.slice A pre.length c) pre.length (cardCells pre)
  c6 : W.heap[Z + 6]? = some (.cells (cellsM (nextM k pre)) 23 (0, 0))
  len : pre.length ≤ Q
  bel : Below w.heap.size w W
  sz : n₁ ≤ W.heap.size
theorem NI_own {w : World} {Z n₁ B : Nat} {k : Mk} {q : Int} {Q : Nat} (hB : w.heap.size ≤ B) : OwnFrom B (NI w Z n₁ k q Q) := fun pre W W' row h hg hr =>
  ⟨hcells_kept h.c0 hg hr, hcells_kept h.c1 hg hr, hcells_kept h.c2 hg hr, hcells_kept h.c3 hg hr, hcells_kept h.c4 hg hr,
    by obtain ⟨A, c, h1, h2⟩ := h.c5; exact ⟨A, c, hcells_kept h1 hg hr, own_kept h2 hg hr⟩, hcells_kept h.c6 hg hr, h.len,
    h.bel.grown hg h.bel.size (fun r e => Nat.le_trans hB (hr r e).1), Nat.le_trans h.sz hg.size⟩
theorem NI.alloc {w : World} {Z n₁ : Nat} {k : Mk} {q : Int} {Q : Nat} {pre : List Card} {W : World} (h : NI w Z n₁ k q Q pre W) (X : Obj) : NI w Z n₁ k q Q pre (W.alloc X) :=
  NI_own (B := w.heap.size) (Nat.le_refl _) pre W _ none h (World.grownBy_alloc W X none) (fun r e => by cases e)
/-- a round has left by its return -/
structure NX (w : World) (Z n₁ : Nat) (k : Mk) (Q : Nat) (c : Code) (ps : List Card) (W : World) : Prop where
  c2 : ∃ A C, Boxed W (Z + 2) 30 (.slice A ps.dropLast.length C) ∧ W.ownsRow n₁ 39 6 (.slice A ps.dropLast.length C) ps.dropLast.length (cardCells ps.dropLast)
  c3 : W.heap[Z + 3]? = some (.cells (cellsM (nextM k ps.dropLast)) 23 (0, 0))
  c4 : Boxed W (Z + 4) 4 (.bool true)
  bel : Below w.heap.size w W
  ret : c = .ret
  len : ps.dropLast.length = Q
  ne : ps ≠ []
theorem NX_own {w : World} {Z n₁ B : Nat} {k : Mk} {Q : Nat} (hB : w.heap.size ≤ B) (c : Code) : OwnFrom B (NX w Z n₁ k Q c) := fun ps W W' row h hg hr =>
  ⟨by obtain ⟨A, c, h1, h2⟩ := h.c2; exact ⟨A, c, hcells_kept h1 hg hr, own_kept h2 hg hr⟩, hcells_kept h.c3 hg hr, hcells_kept h.c4 hg hr,
    h.bel.grown hg h.bel.size (fun r e => Nat.le_trans hB (hr r e).1), h.ret, h.len, h.ne⟩
theorem alloc_heap (w : World) (o : Obj) : (w.alloc o).heap = w.heap.push o := rfl
/-- the world in which the loop begins -/
theorem start_world (w : World) (k : Mk) (A : Option Addr) (C : Nat) (L : List Card) (q : Int) (Q : Nat) (W0 : World) (hr : CRow w A L)
    (h : W0 = (((((((((w.alloc (.cells (cellsM k) 23)).alloc (.cells #[.int .i64 q] 3)).alloc (.cells #[.slice none 0 0] 30)).alloc (.cells (cellsM zeroM) 23)).alloc (.cells #[.bool false] 4)).alloc (.cells #[.slice none 0 0] 30)).alloc (.cells (cellsM k) 23)).alloc (.cells #[.slice A L.length C] 30)).alloc (.cells (cellsM k) 23)).alloc (.cells (cellsC (atC k)) 39)) :
    W0.heap.size = w.heap.size + 10 ∧ NI w w.heap.size (w.heap.size + 10) k q Q [] W0 ∧ W0.cell? ⟨w.heap.size + 7, 0, none⟩ = some (.slice A L.length C) ∧ Src W0 (w.heap.size + 8) (w.heap.size + 9) k A L := by
  have e : W0.heap = w.heap ++ (#[(.cells (cellsM k) 23), (.cells #[.int .i64 q] 3), (.cells #[.slice none 0 0] 30), (.cells (cellsM zeroM) 23), (.cells #[.bool false] 4), (.cells #[.slice none 0 0] 30), (.cells (cellsM k) 23), (.cells #[.slice A L.length C] 30), (.cells (cellsM k) 23), (.cells (cellsC (atC k)) 39)] : Array Obj) := by
    subst h
    simp only [alloc_heap]
    apply Array.ext'
    simp
  have hsz : W0.heap.size = w.heap.size + 10 := by rw [e]; simp
  have hbel : Below w.heap.size w W0 := ⟨by subst h; rfl, by subst h; rfl, by subst h; rfl, by omega, fun k hk => by rw [e]; exact Array.getElem?_append_left hk⟩
  have hc : ∀ i, W0.heap[w.heap.size + i]? = (#[(.cells (cellsM k) 23), (.cells #[.int .i64 q] 3), (.cells #[.slice none 0 0] 30), (.cells (cellsM zeroM) 23), (.cells #[.bool false] 4), (.cells #[.slice none 0 0] 30), (.cells (cellsM k) 23), (.cells #[.slice A L.length C] 30), (.cells (cellsM k) 23), (.cells (cellsC (atC k)) 39)] : Array Obj)[i]? := by
    intro i
    rw [e, Array.getElem?_append_right (by omega)]
    congr 1
    omega
  have hc0 := hc 0
  rw [Nat.add_zero] at hc0
  refine ⟨hsz, ⟨hc0, hc 1, hc 2, hc 3, hc 4, ⟨none, 0, hc 5, by simp [cardCells], .inl ⟨rfl, rfl⟩⟩, hc 6, Nat.zero_le _, hbel, by omega⟩, ?_, hc 8, hc 9, hr.below hbel⟩
  rw [cell_of_row _ _ _ _ _ _ (hc 7)]; rfl
/-- a mark stored -/
def markW (W : World) (B : Nat) (K : Mk) : World := ((((W.setCell ⟨B, 0, none⟩ (.int .i64 K.now)).setCell ⟨B, 1, none⟩ (.int .i64 K.score)).setCell ⟨B, 2, none⟩ (.int .i64 K.time)).setCell ⟨B, 3, none⟩ (.string (bs K.id))).setCell ⟨B, 4, none⟩ (.bool K.beg)
theorem markW_heap {W : World} {B : Nat} {K K0 : Mk} {t : TypeId} (h : W.heap[B]? = some (.cells (cellsM K0) t (0, 0))) : (markW W B K).heap[B]? = some (.cells (cellsM K) t (0, 0)) := by
  unfold markW
  rw [set_row (set_row (set_row (set_row (set_row h 0 _) 1 _) 2 _) 3 _) 4 _]
  rfl
theorem markW_chg {S : List Nat} {W : World} {B : Nat} {K : Mk} (hB : B ∈ S) : Chg S W (markW W B K) :=
  (((((Chg.refl S W).setCell (.inl hB) _).setCell (.inl hB) _).setCell (.inl hB) _).setCell (.inl hB) _).setCell (.inl hB) _
theorem markW_below {n : Nat} {W : World} {B : Nat} {K : Mk} (hB : n ≤ B) : Below n W (markW W B K) := by
  unfold markW
  exact (((((Below.refl n W).setCell (p := ⟨B, 0, none⟩) hB _).setCell (p := ⟨B, 1, none⟩) hB _).setCell (p := ⟨B, 2, none⟩) hB _).setCell (p := ⟨B, 3, none⟩) hB _).setCell (p := ⟨B, 4, none⟩) hB _
theorem markW_keeps (W : World) (B : Nat) (K : Mk) : KeepsOthers W (markW W B K) :=
  ((((KeepsOthers.setCell _ _ _).trans (KeepsOthers.setCell _ _ _)).trans (KeepsOthers.setCell _ _ _)).trans (KeepsOthers.setCell _ _ _)).trans (KeepsOthers.setCell _ _ _)
theorem own_chg {S : List Nat} {w w' : World} {base n size : Nat} {e : TypeId} {v : Value} {xs : List Value} (h : w.ownsRow base e size v n xs) (hp : ∀ p ∈ S, p < base) (hc : Chg S w w') : w'.ownsRow base e size v n xs := by
  refine ⟨h.1, ?_⟩
  rcases h.2 with h2 | ⟨g, cap, cur, hv, hbg, hg, h3⟩
  · exact .inl h2
  · exact .inr ⟨g, cap, cur, hv, hbg, hc.heap_some (fun hm => by have := hp g hm; omega) hg, h3⟩
/-- the results stored -/
def outW (W : World) (Z : Nat) (v : Value) (K : Mk) (b : Bool) : World := ((markW (W.setCell ⟨Z + 2, 0, none⟩ v) (Z + 3) K).setCell ⟨Z + 4, 0, none⟩ (.bool b)).drew
theorem outW_chg (W : World) (Z : Nat) (v : Value) (K : Mk) (b : Bool) : Chg [Z + 2, Z + 3, Z + 4] W (outW W Z v K b) := by
  unfold outW
  have h1 : Chg [Z + 2, Z + 3, Z + 4] W (W.setCell ⟨Z + 2, 0, none⟩ v) := (Chg.refl _ W).setCell (.inl (by simp)) _
  have h2 : Chg [Z + 2, Z + 3, Z + 4] W (markW (W.setCell ⟨Z + 2, 0, none⟩ v) (Z + 3) K) := h1.trans (markW_chg (by simp))
  generalize markW (W.setCell ⟨Z + 2, 0, none⟩ v) (Z + 3) K = V at h2
  have h3 : Chg [Z + 2, Z + 3, Z + 4] W (V.setCell ⟨Z + 4, 0, none⟩ (.bool b)) := h2.setCell (.inl (by simp)) _
  exact h3.drew
theorem outW_keeps (W : World) (Z : Nat) (v : Value) (K : Mk) (b : Bool) : KeepsOthers W (outW W Z v K b) :=
  (((KeepsOthers.setCell _ _ _).trans (markW_keeps _ _ _)).trans (KeepsOthers.setCell _ _ _)).trans (KeepsOthers.drew _)
theorem outW_cells {W : World} {Z : Nat} {v v0 : Value} {K K0 : Mk} {b b0 : Bool} (h2 : Boxed W (Z + 2) 30 v0) (h3 : W.heap[Z + 3]? = some (.cells (cellsM K0) 23 (0, 0))) (h4 : Boxed W (Z + 4) 4 (.bool b0)) :
    Boxed (outW W Z v K b) (Z + 2) 30 v ∧ (outW W Z v K b).heap[Z + 3]? = some (.cells (cellsM K) 23 (0, 0)) ∧ Boxed (outW W Z v K b) (Z + 4) 4 (.bool b) := by
  have c4 : Boxed (markW (W.setCell ⟨Z + 2, 0, none⟩ v) (Z + 3) K) (Z + 4) 4 (.bool b0) :=
    (markW_chg (S := [Z + 3]) (by simp)).heap_some (by simp) (set_row_other h4 (by simp) v)
  have c2 : Boxed (markW (W.setCell ⟨Z + 2, 0, none⟩ v) (Z + 3) K) (Z + 2) 30 v :=
    (markW_chg (S := [Z + 3]) (by simp)).heap_some (by simp) (Boxed.set v h2)
  have c3 : (markW (W.setCell ⟨Z + 2, 0, none⟩ v) (Z + 3) K).heap[Z + 3]? = some (.cells (cellsM K) 23 (0, 0)) := markW_heap (set_row_other h3 (by simp) v)
  unfold outW
  generalize markW (W.setCell ⟨Z + 2, 0, none⟩ v) (Z + 3) K = V at c2 c4 c3
  have d2 := set_row_other (p := ⟨Z + 4, 0, none⟩) c2 (by simp) (.bool b)
  have d3 := set_row_other (p := ⟨Z + 4, 0, none⟩) c3 (by simp) (.bool b)
  have d4 := Boxed.set (.bool b) c4
  generalize V.setCell ⟨Z + 4, 0, none⟩ (.bool b) = V2 at d2 d3 d4
  exact ⟨d2, d3, d4⟩
theorem info39 : (Try.prog.info? 39).map (fun i => (i.zero, i.size, i.bytes)) = some (some (.agg (cellsC noC)), 6, 72) := by kernel_rfl
theorem new_cells (w : World) (y : Card) : ∀ (j : Nat) u, (cellsC y).toList[j]? = some u → (w.alloc (.cells (cellsC y) 39)).cell? ((⟨w.heap.size, 0, none⟩ : Addr).add j) = some u := fun j u h => by
  rw [show (⟨w.heap.size, 0, none⟩ : Addr).add j = ⟨w.heap.size, j, none⟩ by unfold Addr.add; split <;> simp_all, cell_of_row _ _ j _ _ _ (heap_alloc_new w _)]
  simpa using h
theorem cells_one (y : Card) : ∀ u ∈ (cellsC y).toList, u.oneCell' = true := by
  intro u hu
  simp only [cellsC, List.mem_cons, List.not_mem_nil, or_false] at hu
  rcases hu with rfl | rfl | rfl | rfl | rfl | rfl <;> rfl
theorem cardCells_snoc (l : List Card) (y : Card) : cardCells (l ++ [y]) = cardCells l ++ (cellsC y).toList := by unfold cardCells; simp
theorem app_block {W w1 : World} {X : Obj} {v5 v' : Value} {Z B : Nat} {o : Obj} (hb : W.heap[B]? = some o) (hg : (W.alloc X).grownBy w1 v5.ownBlock) (hne : v5.ownBlock ≠ some B) (hB : B ≠ Z + 5) : (w1.setCell ⟨Z + 5, 0, none⟩ v').heap[B]? = some o :=
  set_row_other (p := ⟨Z + 5, 0, none⟩) ((hg.block B (by have := lt_of_heap hb; rw [World.size_alloc]; omega) (fun e => hne e.symm)).trans ((Below.heap_alloc W X B (lt_of_heap hb)).trans hb)) hB v'
/-- a card appended, the cards' box stored -/
theorem app_all {w : World} {n₁ : Nat} {k : Mk} {q : Int} {Q : Nat} {pre : List Card} {x : Card} {W w1 : World} {v5 v' : Value} {Bx : Nat} {X : Obj} (hn : n₁ = w.heap.size + 10) (h : NI w w.heap.size n₁ k q Q pre W) (h5 : Boxed W (w.heap.size + 5) 30 v5) (ho : W.ownsRow n₁ 39 6 v5 pre.length (cardCells pre))
    (hcx : W.heap[Bx]? = some (.cells (cellsC x) 39 (0, 0))) (hBx : n₁ ≤ Bx) (hne : v5.ownBlock ≠ some Bx)
    (ho' : w1.ownsRow n₁ 39 6 v' (pre.length + 1) (cardCells pre ++ (cellsC x).toList)) (hg : (W.alloc X).grownBy w1 v5.ownBlock) :
    Boxed w1 (w.heap.size + 5) 30 v5 ∧ (w1.setCell ⟨w.heap.size + 5, 0, none⟩ v').heap[Bx]? = some (.cells (cellsC x) 39 (0, 0)) ∧ (w1.setCell ⟨w.heap.size + 5, 0, none⟩ v').heap[w.heap.size]? = some (.cells (cellsM k) 23 (0, 0)) ∧
    (w1.setCell ⟨w.heap.size + 5, 0, none⟩ v').heap[w.heap.size + 6]? = some (.cells (cellsM (nextM k pre)) 23 (0, 0)) ∧
    (∀ K, K = nextM k (pre ++ [x]) → pre.length + 1 ≤ Q → (∃ A c, v' = .slice A (pre.length + 1) c) → ∀ B0, KeepsFrom B0 W (markW (w1.setCell ⟨w.heap.size + 5, 0, none⟩ v') (w.heap.size + 6) K) ∧ Kept n₁ [w.heap.size + 5, w.heap.size + 6] W (markW (w1.setCell ⟨w.heap.size + 5, 0, none⟩ v') (w.heap.size + 6) K) ∧
      NI w w.heap.size n₁ k q Q (pre ++ [x]) (markW (w1.setCell ⟨w.heap.size + 5, 0, none⟩ v') (w.heap.size + 6) K)) := by
  have hlow : ∀ B, B < n₁ → v5.ownBlock ≠ some B := fun B hB e => by have := (own_lt ho e).2; omega
  have g : ∀ {B : Nat} {o : Obj}, B < n₁ → B ≠ w.heap.size + 5 → W.heap[B]? = some o → (w1.setCell ⟨w.heap.size + 5, 0, none⟩ v').heap[B]? = some o := fun hB hB5 hb => app_block hb hg (hlow _ hB) hB5
  have b5 : Boxed w1 (w.heap.size + 5) 30 v5 := (hg.block _ (by have := lt_of_heap h5; rw [World.size_alloc]; omega) (fun e => hlow _ (by omega) e.symm)).trans ((Below.heap_alloc W X _ (lt_of_heap h5)).trans h5)
  have c6 := g (by omega) (by omega) h.c6
  have hsz : W.heap.size ≤ (w1.setCell ⟨w.heap.size + 5, 0, none⟩ v').heap.size := by have := hg.size; rw [World.size_alloc] at this; have := (KeepsOthers.setCell w1 ⟨w.heap.size + 5, 0, none⟩ v').size; omega
  have hkept : Kept n₁ [w.heap.size + 5, w.heap.size + 6] W (w1.setCell ⟨w.heap.size + 5, 0, none⟩ v') := ⟨hsz, fun B hB hS => by
    have hlt : B < W.heap.size := by have := h.sz; omega
    obtain ⟨o, ho⟩ : ∃ o, W.heap[B]? = some o := ⟨_, Array.getElem?_eq_getElem hlt⟩
    rw [ho]
    exact g hB (fun e => hS (by simp [e])) ho⟩
  have hbel : Below w.heap.size W w1 := ((Below.refl _ W).alloc (by have := h.bel.size; omega) X).grown hg (by rw [World.size_alloc]; have := h.bel.size; omega) (fun r e => by have := (own_lt ho e).2; omega)
  have hbel2 : Below w.heap.size W (w1.setCell ⟨w.heap.size + 5, 0, none⟩ v') := hbel.setCell (p := ⟨w.heap.size + 5, 0, none⟩) (by simp) v'
  have hk : KeepsOthers W (w1.setCell ⟨w.heap.size + 5, 0, none⟩ v') := by
    refine ((KeepsOthers.alloc W X).trans (KeepsOthers.of_grownBy hg fun j o ej hj => ?_)).trans (KeepsOthers.setCell _ _ _)
    rcases (ho.alloc X).2 with ⟨rfl, _⟩ | ⟨g, cap, cur, rfl, _, hgb, _⟩
    · simp [Value.ownBlock] at ej
    · obtain rfl : g = j := by simpa [Value.ownBlock] using ej
      rw [hgb] at hj; cases hj; rfl
  refine ⟨b5, app_block hcx hg hne (by omega), g (by omega) (by omega) h.c0, c6, fun K hK hQ hv B0 => ?_⟩
  have hm : Chg [w.heap.size + 6] (w1.setCell ⟨w.heap.size + 5, 0, none⟩ v') (markW (w1.setCell ⟨w.heap.size + 5, 0, none⟩ v') (w.heap.size + 6) K) := markW_chg (by simp)
  refine ⟨(hk.trans (markW_keeps _ _ _)).from B0, hkept.trans ⟨hm.size, fun B hB hS => ?_⟩, ?_⟩
  · by_cases hlt : B < (w1.setCell ⟨w.heap.size + 5, 0, none⟩ v').heap.size
    · exact hm.block B hlt (fun e => hS (by simp at e; simp [e]))
    · exact absurd (by have := h.sz; omega) hlt
  · obtain ⟨A', c', rfl⟩ := hv
    have hn' : n₁ ≤ w1.heap.size := by have := hg.size; have := h.sz; rw [World.size_alloc] at *; omega
    have hl : (pre ++ [x]).length = pre.length + 1 := by simp
    refine ⟨hm.heap_some (by simp) (g (by omega) (by omega) h.c0), hm.heap_some (by simp) (g (by omega) (by omega) h.c1), hm.heap_some (by simp) (g (by omega) (by omega) h.c2), hm.heap_some (by simp) (g (by omega) (by omega) h.c3), hm.heap_some (by simp) (g (by omega) (by omega) h.c4),
      ⟨A', c', by rw [hl]; exact hm.heap_some (by simp) (Boxed.set _ b5), ?_⟩, by rw [← hK]; exact markW_heap c6, by rw [hl]; exact hQ, h.bel.trans (hbel2.trans (markW_below (by omega))), by have := hsz; have := hm.size; have := h.sz; omega⟩
    rw [hl, cardCells_snoc]
    exact own_chg (S := [w.heap.size + 6]) (own_chg (S := [w.heap.size + 5]) ho' (by simp; omega) ((Chg.refl _ _).setCell (.inl (by simp)) _)) (by simp; omega) hm
theorem nx_ret {w : World} {n₁ : Nat} {k : Mk} {q : Int} {Q : Nat} {pre : List Card} {x : Card} {W : World} {A : Option Addr} {c : Nat} (h : NI w w.heap.size n₁ k q Q pre W) (h5 : Boxed W (w.heap.size + 5) 30 (.slice A pre.length c)) (ho : W.ownsRow n₁ 39 6 (.slice A pre.length c) pre.length (cardCells pre)) (hQ : pre.length = Q) (hn : n₁ = w.heap.size + 10 := by rfl) :
    NX w w.heap.size n₁ k Q .ret (pre ++ [x]) (outW W w.heap.size (.slice A pre.length c) (nextM k pre) true) := by
  have hd : (pre ++ [x]).dropLast = pre := by simp
  obtain ⟨g2, g3, g4⟩ := outW_cells (v := .slice A pre.length c) (K := nextM k pre) (b := true) h.c2 h.c3 h.c4
  have hch := outW_chg W w.heap.size (.slice A pre.length c) (nextM k pre) true
  refine ⟨⟨A, c, by rw [hd]; exact g2, by rw [hd]; exact own_chg ho (by simp; omega) hch⟩, by rw [hd]; exact g3, g4, Chg.below (((Chg.of_below h.bel []).step hch (fun b hb => ?_))), rfl, by rw [hd]; exact hQ, by simp⟩
  right
  simp at hb
  omega
def CIn0 (w : World) (A : Option Addr) (l : List Card) : Prop := (A = none ∧ l = []) ∨ ∃ b, A = some ⟨b, 0, none⟩ ∧ CRow w A l
theorem CIn0.cin {w : World} {A : Option Addr} {l : List Card} (h : CIn0 w A l) : CIn w A l := by
  rcases h with h | ⟨b, h1, h2⟩
  · exact .inl h
  · exact .inr ⟨b, 0, h1, h2⟩
theorem CIn0.row {w : World} {A : Option Addr} {l : List Card} (h : CIn0 w A l) (h0 : 0 < l.length) : ∃ b, A = some ⟨b, 0, none⟩ ∧ CRow w (some ⟨b, 0, none⟩) l := by
  rcases h with ⟨_, rfl⟩ | ⟨b, rfl, h⟩
  · simp at h0
  · exact ⟨b, rfl, h⟩
theorem CIn0.crow {w : World} {A : Option Addr} {l : List Card} (h : CIn0 w A l) : CRow w A l := by
  rcases h with ⟨_, rfl⟩ | ⟨b, rfl, h⟩
  · exact fun h => by simp at h
  · exact h
/-- what Next hands back -/
def pageL (k : Mk) (L : List Card) (Q : Nat) : List Card := (L.filter (passB k)).take Q
def moreB (k : Mk) (L : List Card) (Q : Nat) : Bool := decide (Q < (L.filter (passB k)).length)
def NextP (w : World) (k : Mk) (L : List Card) (Q : Nat) (e : Ending) (w' : World) : Prop :=
  ∃ A C, e = .returned (.tuple #[.slice A (pageL k L Q).length C, .agg (cellsM (nextM k (pageL k L Q))), .bool (moreB k L Q)]) ∧ CIn0 w' A (pageL k L Q) ∧ Below w.heap.size w w'
def NextP' (w : World) (k : Mk) (L : List Card) (Q : Nat) (e : Ending) (w' : World) : Prop :=
  ∃ A C, e = .returned (.tuple #[.slice A (pageL k L Q).length C, .agg (cellsM (nextM k (pageL k L Q))), .bool (moreB k L Q)]) ∧ CIn0 w' A (pageL k L Q) ∧ (A = none → C = 0) ∧ Below w.heap.size w w'
def NextF (w : World) (k : Mk) (L : List Card) (Q : Nat) (e : Ending) (w' : World) : Prop :=
  ∃ A C, e = .returned (.tuple #[.slice A (pageL k L Q).length C, .agg (cellsM (nextM k (pageL k L Q))), .bool (moreB k L Q)]) ∧ CIn0 w' A (pageL k L Q) ∧ (A = none → C = 0) ∧ (∀ b, A = some ⟨b, 0, none⟩ → w.heap.size ≤ b) ∧ Below w.heap.size w w'
theorem own_from {w : World} {base e size n b o c m : Nat} {f : Option Nat} {xs : List Value} (h : w.ownsRow base e size (.slice (some ⟨b, o, f⟩) m c) n xs) : base ≤ b := by
  rcases h.2 with ⟨h1, _⟩ | ⟨g, cap, cur, hv, hg, _⟩
  · cases h1
  · simp only [Value.slice.injEq, Option.some.injEq, Addr.mk.injEq] at hv
    obtain ⟨⟨rfl, _, _⟩, _, _⟩ := hv
    exact hg
theorem cin_own {w : World} {base n : Nat} {v : Value} {l : List Card} (hn : l.length = n) (h : w.ownsRow base 39 6 v l.length (cardCells l)) : ∃ A c, v = .slice A n c ∧ CIn0 w A l ∧ (A = none → c = 0) := by
  subst hn
  rcases h.2 with ⟨h1, h0⟩ | ⟨g, cap, cur, hv, _⟩
  · exact ⟨none, 0, by rw [h1, h0], .inl ⟨rfl, List.eq_nil_of_length_eq_zero h0⟩, fun _ => rfl⟩
  · subst hv
    exact ⟨some ⟨g, 0, none⟩, cap, rfl, .inr ⟨g, rfl, crow_of_cat (cat_of_own h).1⟩, fun e => by cases e⟩
theorem pre_last {F ps : List Card} {Q : Nat} (h : ps <+: F) (hne : ps ≠ []) (hQ : ps.dropLast.length = Q) : F.take Q = ps.dropLast ∧ Q < F.length := by
  obtain ⟨t, rfl⟩ := h
  have h1 : 0 < ps.length := List.length_pos_iff.2 hne
  rw [List.length_dropLast] at hQ
  refine ⟨?_, by rw [List.length_append]; omega⟩
  rw [List.take_append_of_le_length (by omega), List.dropLast_eq_take, hQ]
/-- the results read at the return -/
theorem next_fin {w : World} {k : Mk} {L : List Card} {Q n₁ D : Nat} {pg : List Card} {b : Bool} {A : Option Addr} {C : Nat} {W : World} (hpg : pageL k L Q = pg) (hb : moreB k L Q = b)
    (h2 : Boxed W (w.heap.size + 2) 30 (.slice A pg.length C)) (h3 : W.heap[w.heap.size + 3]? = some (.cells (cellsM (nextM k pg)) 23 (0, 0))) (h4 : Boxed W (w.heap.size + 4) 4 (.bool b))
    (ho : W.ownsRow n₁ 39 6 (.slice A pg.length C) pg.length (cardCells pg)) (hbel : Below w.heap.size w W) (hn1 : w.heap.size ≤ n₁) (hK : W.heap[D]? = some (.deferred (some []))) (hD : w.heap.size ≤ D) :
    (W.putObj D (.deferred none)).cell? ⟨w.heap.size + 2, 0, none⟩ = some (.slice A pg.length C) ∧ ((W.putObj D (.deferred none)).cell? ⟨w.heap.size + 3, 0, none⟩ = some (.int .i64 (nextM k pg).now) ∧ (W.putObj D (.deferred none)).cell? ⟨w.heap.size + 3, 1, none⟩ = some (.int .i64 (nextM k pg).score) ∧ (W.putObj D (.deferred none)).cell? ⟨w.heap.size + 3, 2, none⟩ = some (.int .i64 (nextM k pg).time) ∧ (W.putObj D (.deferred none)).cell? ⟨w.heap.size + 3, 3, none⟩ = some (.string (bs (nextM k pg).id)) ∧ (W.putObj D (.deferred none)).cell? ⟨w.heap.size + 3, 4, none⟩ = some (.bool (nextM k pg).beg)) ∧
      (W.putObj D (.deferred none)).cell? ⟨w.heap.size + 4, 0, none⟩ = some (.bool b) ∧ Hid (NextF w k L Q (.returned (.tuple #[.slice A pg.length C, .agg (cellsM (nextM k pg)), .bool b])) (W.putObj D (.deferred none))) := by
  refine ⟨Boxed.cell (heap_putObj h2 hK rfl _), fiveM (heap_putObj h3 hK rfl _), Boxed.cell (heap_putObj h4 hK rfl _), ?_⟩
  obtain ⟨A', C', e, hin, hcz⟩ := cin_own (n := pg.length) rfl (own_putObj ho hK rfl (.deferred none))
  simp only [Value.slice.injEq] at e
  obtain ⟨rfl, _, rfl⟩ := e
  refine ⟨A, C, by rw [hpg, hb], by rw [hpg]; exact hin, hcz, fun bb e => by subst e; exact Nat.le_trans hn1 (own_from ho), hbel.trans ((Below.refl _ W).grown (grownBy_putObj' W D _) hbel.size (fun r e => by cases e; exact hD))⟩
set_option maxRecDepth 100000 in
set_option maxHeartbeats 4000000 in
theorem next_any2 (k : Mk) (A : Option Addr) (C : Nat) (L : List Card) (most : Int) (w : World) (hL : L.length ≤ 1000000) (hr : CRow w A L) :
    Calls Try.prog 15 #[.slice A L.length C, .agg (cellsM k), .int .i64 most] w (NextF w k L (min most 50).toNat) := by
  have hA : 0 < L.length → ∀ b o, A = some ⟨b, o, none⟩ → b < w.heap.size := fun h0 b o e => by
    obtain ⟨c, hc⟩ : ∃ c, L[0]? = some c := ⟨_, List.getElem?_eq_getElem h0⟩
    subst e
    exact World.block_lt_of_cell? w _ (hr.sixA hc).1
  obtain ⟨q, hq⟩ : ∃ q, min most 50 = q := ⟨_, rfl⟩
  obtain ⟨Q, hQ⟩ : ∃ Q, q.toNat = Q := ⟨_, rfl⟩
  have hq50 : q ≤ 50 := by omega
  rw [hq, hQ]
  refine (callsIn_wide (n := 3)).1 ?_
  refine callsIn_of_wp_marks Try.func15 rfl trivial ?_ rfl
  simp only [Try.ntmps15, List.size_toArray, List.length_cons, List.length_nil, Nat.reduceAdd, Nat.reduceSub, Array.replicate_succ, Array.replicate_zero, List.push_toArray, List.append_toArray, List.nil_append, List.cons_append]
  obtain ⟨kn, ks, kt, ki, kb⟩ := k
  have cb := fun W => callsIn_wide (n := 2) |>.2 (behind_any ⟨kn, ks, kt, ki, kb⟩ A C L.length W)
  have hst := fun W0 => start_world w ⟨kn, ks, kt, ki, kb⟩ A C L q Q W0 hr
  unfold cellsM at cb ⊢
  simp only at cb
  gi_wp2_with fail
  refine ⟨trivial, ?_⟩
  refine (cb _).mono ?_
  rintro e w' ⟨rfl, rfl⟩
  obtain ⟨W0, hW0⟩ : ∃ W0, (((((((((w.alloc (.cells (cellsM ⟨kn, ks, kt, ki, kb⟩) 23)).alloc (.cells #[.int .i64 q] 3)).alloc (.cells #[.slice none 0 0] 30)).alloc (.cells (cellsM zeroM) 23)).alloc (.cells #[.bool false] 4)).alloc (.cells #[.slice none 0 0] 30)).alloc (.cells (cellsM ⟨kn, ks, kt, ki, kb⟩) 23)).alloc (.cells #[.slice A L.length C] 30)).alloc (.cells (cellsM ⟨kn, ks, kt, ki, kb⟩) 23)).alloc (.cells (cellsC (atC ⟨kn, ks, kt, ki, kb⟩)) 39) = W0 := ⟨_, rfl⟩
  obtain ⟨hsz, hni, hcl, hsrc⟩ := hst W0 hW0.symm
  simp only [World.size_alloc, Nat.add_assoc, Nat.reduceAdd]
  unfold cellsM zeroM at hW0
  simp only at hW0
  have hnil : bs [] = ⟨#[]⟩ := rfl
  rw [hnil] at hW0
  rw [hW0]
  clear hst cb hW0
  gi_wp2
  have hbel0 := hni.bel
  refine wpIn_rangeFunc_ownH rfl (by decide) (gf := 39) (lb := #[.pointer (some ⟨w.heap.size + 7, 0, none⟩), .pointer (some ⟨w.heap.size + 8, 0, none⟩), .pointer (some ⟨w.heap.size + 9, 0, none⟩)]) rfl trivial (enters_of Try.func39 (by kernel_rfl) rfl)
    (behind_stops _ (w.heap.size + 7) (w.heap.size + 8) (w.heap.size + 9) (w.heap.size + 10) [w.heap.size + 5, w.heap.size + 6] ⟨kn, ks, kt, ki, kb⟩ A C L W0 (by decide) hL ⟨by omega, by simp⟩ ⟨by omega, by simp⟩ (fun h0 b o e => ⟨by have := hA h0 b o e; omega, by have := hA h0 b o e; simp; omega⟩) hcl hsrc)
    Kept.trans (Kept.b (by omega)) (Below.refl _ _) (fun _ => rfl)
    (NI w w.heap.size (w.heap.size + 10) ⟨kn, ks, kt, ki, kb⟩ q Q) (NX w w.heap.size (w.heap.size + 10) ⟨kn, ks, kt, ki, kb⟩ Q) (NI_own (by omega)) (NX_own (by omega)) hni
    (fun x a' W => ∃ Bx v, w.heap.size + 10 ≤ Bx ∧ W.heap[Bx]? = some (.cells (cellsC x) 39 (0, 0)) ∧ Boxed W (w.heap.size + 5) 30 v ∧ v.ownBlock ≠ some Bx ∧
      a' = { tmps := #[.slice A L.length C, .agg #[.int .i64 kn, .int .i64 ks, .int .i64 kt, .string (bs ki), .bool kb], .int .i64 most, undef, .pointer (some ⟨w.heap.size, 0, none⟩), .pointer (some ⟨w.heap.size + 1, 0, none⟩), .pointer (some ⟨w.heap.size + 2, 0, none⟩), .pointer (some ⟨w.heap.size + 3, 0, none⟩), .pointer (some ⟨w.heap.size + 4, 0, none⟩), .pointer (some ⟨w.heap.size + 5, 0, none⟩), .pointer (some ⟨w.heap.size + 6, 0, none⟩), .pointer (some ⟨Bx, 0, none⟩), .int .i64 most, .int .i64 q, .agg #[.int .i64 kn, .int .i64 ks, .int .i64 kt, .string (bs ki), .bool kb], .slice A L.length C, .agg #[.int .i64 kn, .int .i64 ks, .int .i64 kt, .string (bs ki), .bool kb], .func (.func 39) #[] #[.pointer (some ⟨w.heap.size + 7, 0, none⟩), .pointer (some ⟨w.heap.size + 8, 0, none⟩), .pointer (some ⟨w.heap.size + 9, 0, none⟩)], .agg (cellsC x), undef, undef, undef, undef, undef, undef, undef, undef, undef, undef, undef, undef, undef, undef, undef, undef, undef, undef, undef, undef, undef], defers := [] })
    (fun x a' _ X Y row hs hg hr => by obtain ⟨Bx, v, e1, e2, e3, e4, e5⟩ := hs; exact ⟨Bx, v, e1, hcells_kept e2 hg hr, hcells_kept e3 hg hr, e4, e5⟩)
    ?assign ?body ?done ?stop
  case assign =>
    rintro l pre ⟨xi, xb, xs, xt, xa, xr⟩ W K hI hK
    have hsW := hI.sz
    unfold cellsC
    gi_wp2
    refine hK _ _ ((KeepsOthers.alloc _ _).from _) (.of_below ((Below.refl _ W).alloc hsW _)) (hI.alloc _) ?_
    obtain ⟨A5, c5, h5, ho⟩ := hI.c5
    exact ⟨W.heap.size, _, hsW, World.alloc_heap_new W _, h5.alloc _, fun e => by have := (own_lt ho e).1; omega, rfl⟩
  case body =>
    rintro l pre ⟨xi, xb, xs, xt, xa, xr⟩ a' W hl hrl hI ⟨Bx, v5, hBx, hcx, h5, hne5, rfl⟩ hlt
    obtain ⟨A5, c5, h5', ho5⟩ := hI.c5
    obtain rfl : v5 = .slice A5 pre.length c5 := by
      have := h5.symm.trans h5'
      simpa using this
    obtain ⟨x0, x1, x2, x3, x4, x5⟩ := sixC hcx
    obtain ⟨m0, m1, m2, m3, m4⟩ := fiveM hI.c0
    obtain ⟨n0, n1, n2, n3, n4⟩ := fiveM hI.c6
    have c1 := hI.c1.cell
    have c5c := h5.cell
    have hplen := hI.len
    by_cases hfull : q ≤ (pre.length : Int)
    · have dful : decide (q ≤ (pre.length : Int)) = true := decide_eq_true hfull
      have c2 := hI.c2.cell
      have f2 := hI.c2.frozen
      have c4 := hI.c4.cell
      have f4 := hI.c4.frozen
      obtain ⟨z0, z1, z2, z3, z4⟩ := fiveM hI.c3
      have g3 : ∀ j, W.frozen? ⟨w.heap.size + 3, j, none⟩ = false := fun j => frozen_row hI.c3 j
      have g30 := g3 0
      have g31 := g3 1
      have g32 := g3 2
      have g33 := g3 3
      have g34 := g3 4
      unfold cellsC
      gi_wp2
      gi_region
      all_goals gi_wp2
      all_goals exact ⟨(outW_keeps W w.heap.size (.slice A5 pre.length c5) (nextM ⟨kn, ks, kt, ki, kb⟩ pre) true).from _, nx_ret hI h5 ho5 (by omega)⟩
    · have dful : decide (q ≤ (pre.length : Int)) = false := decide_eq_false hfull
      have hlen50 : pre.length ≤ 50 := by omega
      obtain ⟨i0, hi0, hz0, hz1, hz2⟩ := info_parts info39
      have hnc := new_cells W ⟨xi, xb, xs, xt, xa, xr⟩
      have hco := cells_one ⟨xi, xb, xs, xt, xa, xr⟩
      have hoa := ho5.alloc (.cells (cellsC ⟨xi, xb, xs, xt, xa, xr⟩) 39)
      unfold cellsC at hnc hco hoa ⊢
      simp only at hnc hco hoa
      gi_wp2_with (gi_at_builtin; refine wpListIn_append_own _ rfl _ _ 30 rfl (w.heap.size + 10) 39 i0 (.agg (cellsC noC)) 6 72 Try.underlying30 hi0 hz0 hz1 hz2 rfl (by decide) _ _ _ rfl hoa ⟨W.heap.size, 0, none⟩ 1 1 _ rfl rfl hnc hco ?c3 ?c4 ?c5 ?_)
      case c3 => unfold maxLen; omega
      case c4 => omega
      case c5 => have := hI.sz; omega
      intro v' w1 hown' hgrow' _
      obtain ⟨g', cap', rfl⟩ := ownsRow_succ hown'
      obtain ⟨b5, bx, b0, b6, hfin⟩ := app_all rfl hI h5 ho5 hcx hBx hne5 hown' hgrow'
      have c5a := b5.cell
      have f5a := b5.frozen
      obtain ⟨y0, y1, y2, y3, y4, y5⟩ := sixC bx
      obtain ⟨k0, k1, k2, k3, k4⟩ := fiveM b0
      obtain ⟨s0, s1, s2, s3, s4⟩ := fiveM b6
      have gf := fun j => frozen_row b6 j
      have gf0 := gf 0
      have gf1 := gf 1
      have gf2 := gf 2
      have gf3 := gf 3
      have gf4 := gf 4
      have HF := Lib.hid (hfin ⟨kn, xs, xt, xi, false⟩ (nextM_snoc ⟨kn, ks, kt, ki, kb⟩ pre ⟨xi, xb, xs, xt, xa, xr⟩).symm (by omega) ⟨_, _, rfl⟩ (w.heap.size + 10))
      clear hfin gf hown' hgrow' bx b0 b6 b5 hnc hco hoa
      gi_wp2
      exact HF.out
  case done =>
    rintro D ys W hD rfl hI hK
    obtain ⟨A5, c5, h5, ho5⟩ := hI.c5
    obtain ⟨n0, n1, n2, n3, n4⟩ := fiveM hI.c6
    have c5c := h5.cell
    have c2 := hI.c2.cell
    have f2 := hI.c2.frozen
    have c4 := hI.c4.cell
    have f4 := hI.c4.frozen
    obtain ⟨z0, z1, z2, z3, z4⟩ := fiveM hI.c3
    have g3 : ∀ j, W.frozen? ⟨w.heap.size + 3, j, none⟩ = false := fun j => frozen_row hI.c3 j
    have g30 := g3 0
    have g31 := g3 1
    have g32 := g3 2
    have g33 := g3 3
    have g34 := g3 4
    clear g3
    have hK' := (outW_keeps W w.heap.size (.slice A5 (L.filter (passB ⟨kn, ks, kt, ki, kb⟩)).length c5) (nextM ⟨kn, ks, kt, ki, kb⟩ (L.filter (passB ⟨kn, ks, kt, ki, kb⟩))) false).same D _ hK rfl
    obtain ⟨o2, o3, o4⟩ := outW_cells (v := .slice A5 (L.filter (passB ⟨kn, ks, kt, ki, kb⟩)).length c5) (K := nextM ⟨kn, ks, kt, ki, kb⟩ (L.filter (passB ⟨kn, ks, kt, ki, kb⟩))) (b := false) hI.c2 hI.c3 hI.c4
    have hfin := next_fin (k := ⟨kn, ks, kt, ki, kb⟩) (L := L) (Q := Q) (D := D) (by rw [pageL, List.take_of_length_le hI.len]) (by unfold moreB; rw [decide_eq_false (by have := hI.len; omega)]) o2 o3 o4 (own_chg ho5 (by simp) (outW_chg W w.heap.size (.slice A5 (L.filter (passB ⟨kn, ks, kt, ki, kb⟩)).length c5) (nextM ⟨kn, ks, kt, ki, kb⟩ (L.filter (passB ⟨kn, ks, kt, ki, kb⟩))) false))
      (Chg.below ((Chg.of_below hI.bel []).step (outW_chg W w.heap.size (.slice A5 (L.filter (passB ⟨kn, ks, kt, ki, kb⟩)).length c5) (nextM ⟨kn, ks, kt, ki, kb⟩ (L.filter (passB ⟨kn, ks, kt, ki, kb⟩))) false) (fun b hb => .inr (by simp at hb; omega)))) (by omega) hK' (by omega)
    have HF := Lib.hid hfin
    have HK := Lib.hid hK'
    clear hfin hK' o2 o3 o4 ho5
    gi_wp2
    gi_region
    all_goals gi_wp2
    all_goals refine ⟨by simp, .inl ⟨_, _, rfl, run_takeDeferred HK.out, ?_⟩⟩
    all_goals
      obtain ⟨r2, ⟨r30, r31, r32, r33, r34⟩, r4, hP⟩ := HF.out
      refine ⟨_, ?_, hP.out⟩
      unfold outW markW at r2 r30 r31 r32 r33 r34 r4
      simp [results, Try.f15, go_sem, r2, r30, r31, r32, r33, r34, r4, cellsM]
  case stop =>
    rintro D c ps W hD hps hX hK
    obtain rfl := hX.ret
    obtain ⟨A5, c5, h5, ho5⟩ := hX.c2
    obtain ⟨e1, e2⟩ := pre_last hps hX.ne hX.len
    have hfin := next_fin (k := ⟨kn, ks, kt, ki, kb⟩) (L := L) (Q := Q) (D := D) e1 (by unfold moreB; rw [decide_eq_true e2]) h5 hX.c3 hX.c4 ho5 hX.bel (by omega) hK (by omega)
    gi_wp2
    refine ⟨by simp, .inl ⟨_, _, rfl, run_takeDeferred hK, ?_⟩⟩
    obtain ⟨r2, ⟨r30, r31, r32, r33, r34⟩, r4, hP⟩ := hfin
    refine ⟨_, ?_, hP.out⟩
    simp [results, Try.f15, go_sem, r2, r30, r31, r32, r33, r34, r4, cellsM]
theorem next_any' (k : Mk) (A : Option Addr) (C : Nat) (L : List Card) (most : Int) (w : World) (hL : L.length ≤ 1000000) (hr : CRow w A L) :
    Calls Try.prog 15 #[.slice A L.length C, .agg (cellsM k), .int .i64 most] w (NextP' w k L (min most 50).toNat) :=
  (next_any2 k A C L most w hL hr).mono fun e w' ⟨A', C', h1, h2, h3, _, h4⟩ => ⟨A', C', h1, h2, h3, h4⟩
theorem next_any (k : Mk) (A : Option Addr) (C : Nat) (L : List Card) (most : Int) (w : World) (hL : L.length ≤ 1000000) (hr : CRow w A L) :
    Calls Try.prog 15 #[.slice A L.length C, .agg (cellsM k), .int .i64 most] w (NextP w k L (min most 50).toNat) :=
  (next_any' k A C L most w hL hr).mono fun e w' ⟨A', C', h1, h2, _, h3⟩ => ⟨A', C', h1, h2, h3⟩
end Go.Proofs.Ytemdecaiadkchaa
