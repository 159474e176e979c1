/- PageParts, walked: it answers true. -/
import Derived.Test.YtemdecaiadkchaaPgPPure
import Derived.Deep.RegionHeld3
import Derived.Laws.AppendOwnNone
import Derived.Maps.AppendAt
namespace Go.Proofs.Ytemdecaiadkchaa
open Go.ChangeShapes Go.WideShapes Go.ChangeAt Go.RowKit Go.Lib
set_option linter.unusedVariables false
set_option linter.unusedSimpArgs false

theorem same_any (L : List Card) (n : Nat) (A1 A2 : Option Addr) (C1 C2 : Nat) (w : World) (hn : L.length = n) (hb : n ≤ 1000000) (h1 : CRow w A1 L) (h2 : CRow w A2 L) : Calls Try.prog 18 #[.slice A1 n C1, .slice A2 n C2] w (BoolPost w true) := by
  have HM := Lib.hid hn
  have H6 := Lib.hid h1
  have H7 := Lib.hid h2
  clear hn h1 h2
  go_enter Try.func18, Try.ntmps18
  go_wp2
  go_loopw [5] (fun v5 wr => ∃ k : Nat, v5 = .int .i64 k ∧ k ≤ n ∧ Below w.heap.size w wr) (fun v _ => n - (intOf v).toNat)
  case atStart => exact ⟨0, rfl, Nat.zero_le _, Below.refl _ _⟩
  case round =>
    obtain ⟨k, rfl, hk, hbk⟩ := hrel
    by_cases hkm : k < n
    · have dk : decide ((k : Int) < (n : Int)) = true := decide_eq_true (by omega)
      have dkN : decide (k < n) = true := decide_eq_true hkm
      have bk : (k : Int) < (n : Int) := by omega
      have wk : IntKind.i64.wrap ((k : Int) + 1) = (k : Int) + 1 := IntWalk.i64_in _ (by omega)
      obtain ⟨⟨xi, xb, xs, xt, xa, xr⟩, hxk⟩ : ∃ c, L[k]? = some c := ⟨_, List.getElem?_eq_getElem (by have := HM.out; omega)⟩
      obtain ⟨b6, o6, rfl, _⟩ := H6.out (by have := HM.out; omega)
      obtain ⟨b7, o7, rfl, _⟩ := H7.out (by have := HM.out; omega)
      obtain ⟨p0, p1, p2, p3, p4, p5⟩ := (H6.out.below hbk).cells hxk
      obtain ⟨q0, q1, q2, q3, q4, q5⟩ := (H7.out.below hbk).cells hxk
      have hne : ∀ W, (binOp .neq 39 (.agg #[.string (bs xi), .string (bs xb), .int .i64 xs, .int .i64 xt, .int .i64 xa, .string (bs xr)]) (.agg #[.string (bs xi), .string (bs xb), .int .i64 xs, .int .i64 xt, .int .i64 xa, .string (bs xr)])).run Try.prog W = .ok (.bool false) W := fun W => by
        have := neq_cards ⟨xi, xb, xs, xt, xa, xr⟩ ⟨xi, xb, xs, xt, xa, xr⟩ W
        rw [decide_eq_true rfl] at this
        exact this
      have HBK := Lib.hid hbk
      clear hxk H6 H7 HM hbk
      go_wp2
      go_quiet (fail)
      go_wp2
      go_roundw
      case rel => exact ⟨k + 1, by go_num, hkm, below_drewN HBK.out _⟩
      case measure => simp [intOf]; omega
    · have dk : decide ((k : Int) < (n : Int)) = false := decide_eq_false (by omega)
      have dkN : decide (k < n) = false := decide_eq_false hkm
      go_wp2
      go_ret
      exact ⟨rfl, hbk⟩
theorem CIn0.below {w w' : World} {A : Option Addr} {l : List Card} (h : CIn0 w A l) (hb : Below w.heap.size w w') : CIn0 w' A l := by
  rcases h with h | ⟨b, h1, h2⟩
  · exact .inl h
  · exact .inr ⟨b, h1, h2.below hb⟩
def NextS (W : World) (pg : List Card) (k' : Mk) (mo : Bool) (e : Ending) (w' : World) : Prop :=
  ∃ A C, e = .returned (.tuple #[.slice A pg.length C, .agg #[.int .i64 k'.now, .int .i64 k'.score, .int .i64 k'.time, .string (bs k'.id), .bool k'.beg], .bool mo]) ∧ CIn0 w' A pg ∧ (A = none → C = 0) ∧ Below W.heap.size W w'
def backR (w wr : World) (v : Value) (a : List Card) : Prop := wr.ownsRow w.heap.size 39 6 v a.length (cardCells a) ∧ Below w.heap.size w wr
theorem back_app {w wr w' : World} {va v' : Value} {a : List Card} {y : Card} {X : Obj} (h : backR w wr va a) (h1 : w'.ownsRow w.heap.size 39 6 v' (a.length + 1) (cardCells a ++ (cellsC y).toList)) (hg : (wr.alloc X).grownBy w' va.ownBlock) : backR w w' v' (a ++ [y]) := by
  obtain ⟨g1, g5⟩ := h
  have gA : Below wr.heap.size wr (wr.alloc X) := (Below.refl _ _).alloc (Nat.le_refl _) _
  refine ⟨?_, ?_⟩
  · rw [List.length_append, cardCells_snoc]; exact h1
  · refine (g5.trans (gA.mono g5.size)).grown hg (by have := g5.size; simp; omega) (fun k hk => ?_)
    exact (own_lt g1 hk).2
theorem crow_cells {W : World} {b o : Nat} {l : List Card} (h : CRow W (some ⟨b, o, none⟩) l) : ∀ j u, (cardCells l)[j]? = some u → W.cell? ((⟨b, o, none⟩ : Addr).add j) = some u := by
  intro j u hu
  have hlen := (List.getElem?_eq_some_iff.1 hu).1
  rw [cardCells_length] at hlen
  obtain ⟨b', o', hA, hc⟩ := h (by omega)
  simp only [Option.some.injEq, Addr.mk.injEq] at hA
  obtain ⟨rfl, rfl, _⟩ := hA
  rw [show (⟨b, o, none⟩ : Addr).add j = ⟨b, o + j, none⟩ by unfold Addr.add; split <;> simp_all]
  exact hc j u hu
theorem cardCells_app (a b : List Card) : cardCells (a ++ b) = cardCells a ++ cardCells b := by unfold cardCells; simp
theorem cards_one' (l : List Card) : ∀ u ∈ cardCells l, u.oneCell' = true := by
  intro u hu
  simp only [cardCells, List.mem_flatMap] at hu
  obtain ⟨c, _, hu⟩ := hu
  exact cells_one c u hu
theorem own_below {w w' : World} {base e size n : Nat} {v : Value} {xs : List Value} (h : w.ownsRow base e size v n xs) (hb : Below w.heap.size w w') : w'.ownsRow base e size v n xs := by
  refine ⟨h.1, ?_⟩
  rcases h.2 with h2 | ⟨g, cap, cur, hv, hbg, hg, h3⟩
  · exact .inl h2
  · exact .inr ⟨g, cap, cur, hv, hbg, (hb.block g (Array.getElem?_eq_some_iff.1 hg).1).trans hg, h3⟩
set_option maxRecDepth 100000 in
theorem parts_l0 (l : List Card) (A0 : Option Addr) (C0 : Nat) (m : Mk) (a b : Int) (w : World)  (h0 : ¬ l.length ≤ 100) : Calls Try.prog 6 #[.slice A0 l.length C0, .agg (cellsM m), .int .i64 a, .int .i64 b] w (BoolPost w true) := by
  have cs := fun W => small_any W
  have d0 : decide (100 < (l.length : Int)) = true := decide_eq_true (by omega)
  have d0N : decide (100 < l.length) = true := decide_eq_true (by omega)
  have hB0 := (Below.refl w.heap.size w).alloc (Nat.le_refl _) (.cells (cellsM m) 23)
  have HB := Lib.hid hB0
  clear hB0 h0
  simp only [cellsM]
  go_enter Try.func6, Try.ntmps6
  go_wp2_with fail
  refine (cs _).mono ?_
  rintro e w1 ⟨rfl, hbx⟩
  replace HB := Lib.hid (HB.out.trans (hbx.mono HB.out.size))
  clear hbx
  go_wp2
  go_ret
  exact ⟨rfl, HB.out⟩
set_option maxRecDepth 100000 in
theorem parts_l1 (l : List Card) (A0 : Option Addr) (C0 : Nat) (m : Mk) (a b : Int) (w : World) (h0 : l.length ≤ 100) (h1 : a < 1) : Calls Try.prog 6 #[.slice A0 l.length C0, .agg (cellsM m), .int .i64 a, .int .i64 b] w (BoolPost w true) := by
  have cs := fun W => small_any W
  have d0 : decide (100 < (l.length : Int)) = false := decide_eq_false (by omega)
  have d0N : decide (100 < l.length) = false := decide_eq_false (by omega)
  have d1 : decide (a < 1) = true := decide_eq_true (by omega)
  have hB0 := (Below.refl w.heap.size w).alloc (Nat.le_refl _) (.cells (cellsM m) 23)
  have HB := Lib.hid hB0
  clear hB0 h0 h1
  simp only [cellsM]
  go_enter Try.func6, Try.ntmps6
  go_wp2_with fail
  refine (cs _).mono ?_
  rintro e w1 ⟨rfl, hbx⟩
  replace HB := Lib.hid (HB.out.trans (hbx.mono HB.out.size))
  clear hbx
  go_wp2
  go_ret
  exact ⟨rfl, HB.out⟩
set_option maxRecDepth 100000 in
theorem parts_l2 (l : List Card) (A0 : Option Addr) (C0 : Nat) (m : Mk) (a b : Int) (w : World) (h0 : l.length ≤ 100) (h1 : ¬ a < 1) (h2 : b < 1) : Calls Try.prog 6 #[.slice A0 l.length C0, .agg (cellsM m), .int .i64 a, .int .i64 b] w (BoolPost w true) := by
  have cs := fun W => small_any W
  have d0 : decide (100 < (l.length : Int)) = false := decide_eq_false (by omega)
  have d0N : decide (100 < l.length) = false := decide_eq_false (by omega)
  have d1 : decide (a < 1) = false := decide_eq_false (by omega)
  have d2 : decide (b < 1) = true := decide_eq_true (by omega)
  have hB0 := (Below.refl w.heap.size w).alloc (Nat.le_refl _) (.cells (cellsM m) 23)
  have HB := Lib.hid hB0
  clear hB0 h0 h1 h2
  simp only [cellsM]
  go_enter Try.func6, Try.ntmps6
  go_wp2_with fail
  refine (cs _).mono ?_
  rintro e w1 ⟨rfl, hbx⟩
  replace HB := Lib.hid (HB.out.trans (hbx.mono HB.out.size))
  clear hbx
  go_wp2
  go_ret
  exact ⟨rfl, HB.out⟩
set_option maxRecDepth 100000 in
theorem parts_l3 (l : List Card) (A0 : Option Addr) (C0 : Nat) (m : Mk) (a b : Int) (w : World) (h0 : l.length ≤ 100) (h1 : ¬ a < 1) (h2 : ¬ b < 1) (h3 : 25 < a) : Calls Try.prog 6 #[.slice A0 l.length C0, .agg (cellsM m), .int .i64 a, .int .i64 b] w (BoolPost w true) := by
  have cs := fun W => small_any W
  have d0 : decide (100 < (l.length : Int)) = false := decide_eq_false (by omega)
  have d0N : decide (100 < l.length) = false := decide_eq_false (by omega)
  have d1 : decide (a < 1) = false := decide_eq_false (by omega)
  have d2 : decide (b < 1) = false := decide_eq_false (by omega)
  have d3 : decide (25 < a) = true := decide_eq_true (by omega)
  have hB0 := (Below.refl w.heap.size w).alloc (Nat.le_refl _) (.cells (cellsM m) 23)
  have HB := Lib.hid hB0
  clear hB0 h0 h1 h2 h3
  simp only [cellsM]
  go_enter Try.func6, Try.ntmps6
  go_wp2_with fail
  refine (cs _).mono ?_
  rintro e w1 ⟨rfl, hbx⟩
  replace HB := Lib.hid (HB.out.trans (hbx.mono HB.out.size))
  clear hbx
  go_wp2
  go_ret
  exact ⟨rfl, HB.out⟩
set_option maxRecDepth 100000 in
theorem parts_l4 (l : List Card) (A0 : Option Addr) (C0 : Nat) (m : Mk) (a b : Int) (w : World) (h0 : l.length ≤ 100) (h1 : ¬ a < 1) (h2 : ¬ b < 1) (h3 : ¬ 25 < a) (h4 : 25 < b) : Calls Try.prog 6 #[.slice A0 l.length C0, .agg (cellsM m), .int .i64 a, .int .i64 b] w (BoolPost w true) := by
  have cs := fun W => small_any W
  have d0 : decide (100 < (l.length : Int)) = false := decide_eq_false (by omega)
  have d0N : decide (100 < l.length) = false := decide_eq_false (by omega)
  have d1 : decide (a < 1) = false := decide_eq_false (by omega)
  have d2 : decide (b < 1) = false := decide_eq_false (by omega)
  have d3 : decide (25 < a) = false := decide_eq_false (by omega)
  have d4 : decide (25 < b) = true := decide_eq_true (by omega)
  have hB0 := (Below.refl w.heap.size w).alloc (Nat.le_refl _) (.cells (cellsM m) 23)
  have HB := Lib.hid hB0
  clear hB0 h0 h1 h2 h3 h4
  simp only [cellsM]
  go_enter Try.func6, Try.ntmps6
  go_wp2_with fail
  refine (cs _).mono ?_
  rintro e w1 ⟨rfl, hbx⟩
  replace HB := Lib.hid (HB.out.trans (hbx.mono HB.out.size))
  clear hbx
  go_wp2
  go_ret
  exact ⟨rfl, HB.out⟩
set_option maxRecDepth 100000 in
set_option maxHeartbeats 40000000 in
theorem parts_main (l : List Card) (A0 : Option Addr) (C0 : Nat) (m : Mk) (qa qb : Nat) (w : World) (h0 : l.length ≤ 100) (ha1 : 1 ≤ qa) (ha2 : qa ≤ 25) (hb1 : 1 ≤ qb) (hb2 : qb ≤ 25) (hl : CRow w A0 l) :
    Calls Try.prog 6 #[.slice A0 l.length C0, .agg (cellsM m), .int .i64 qa, .int .i64 qb] w (BoolPost w true) := by
  obtain ⟨n, hn0⟩ : ∃ n, l.length = n := ⟨_, rfl⟩
  have cs := fun W => small_any W
  have cd := fun W h => differ_c l A0 C0 W (by omega) h
  have cS : ∀ W, CRow W A0 l → Calls Try.prog 12 #[.slice A0 n C0] W (SortedP W (sortS l)) := fun W h => by
    have := sort_c l A0 C0 W (by omega) h
    rw [hn0] at this
    exact this
  have hXl : (sortS l).length = n := by rw [sortS_length, hn0]
  have hXp : Hid (Dif l → (sortS l).Pairwise (fun x y => lessC x y = true)) := fun h => str_sorted h
  rw [hn0] at cd h0 ⊢
  have HX := Lib.hid hXl
  clear hXl hn0
  generalize sortS l = X at *
  have cN : ∀ (k : Mk) (A : Option Addr) (C q : Nat) (L : List Card) (W : World), q ≤ 50 → L.length ≤ 1000 → CRow W A L → Calls Try.prog 15 #[.slice A L.length C, .agg #[.int .i64 k.now, .int .i64 k.score, .int .i64 k.time, .string (bs k.id), .bool k.beg], .int .i64 q] W (NextS W (pageL k L q) (nextM k (pageL k L q)) (moreB k L q)) := fun k A C q L W hq hL hr => by
    have := next_any' k A C L q W (by omega) hr
    rw [show (min (q : Int) 50).toNat = q by omega] at this
    exact this
  obtain ⟨qab, hqab⟩ : ∃ q, qa + qb = q := ⟨_, rfl⟩
  have wab : IntKind.i64.wrap ((qa : Int) + (qb : Int)) = (qab : Int) := by rw [IntWalk.i64_in _ (by omega)]; omega
  have d0 : decide (100 < (n : Int)) = false := decide_eq_false (by omega)
  have d0N : decide (100 < n) = false := decide_eq_false (by omega)
  have d1 : decide ((qa : Int) < 1) = false := decide_eq_false (by omega)
  have d2 : decide ((qb : Int) < 1) = false := decide_eq_false (by omega)
  have d3 : decide (25 < (qa : Int)) = false := decide_eq_false (by omega)
  have d4 : decide (25 < (qb : Int)) = false := decide_eq_false (by omega)
  have d1N : decide (qa < 1) = false := decide_eq_false (by omega)
  have d2N : decide (qb < 1) = false := decide_eq_false (by omega)
  have d3N : decide (25 < qa) = false := decide_eq_false (by omega)
  have d4N : decide (25 < qb) = false := decide_eq_false (by omega)
  have g3 := heap_alloc_new w (.cells (cellsM m) 23)
  have hB0 := (Below.refl w.heap.size w).alloc (Nat.le_refl _) (.cells (cellsM m) 23)
  have hl0 := hl.below hB0
  have M5 := Lib.hid g3
  have HB := Lib.hid hB0
  clear g3 hB0 hl
  have Hn := Lib.hid h0
  have Ha := Lib.hid (And.intro ha1 ha2)
  have Hb := Lib.hid (And.intro hb1 hb2)
  have Hq := Lib.hid hqab
  clear h0 ha1 ha2 hb1 hb2 hqab
  simp only [cellsM]
  go_enter Try.func6, Try.ntmps6
  go_wp2_with fail
  refine (cs _).mono ?_
  rintro e w1 ⟨rfl, hbx⟩
  have hl1 := hl0.below hbx
  replace M5 := Lib.hid (keep_blkP hbx M5.out)
  replace HB := Lib.hid (HB.out.trans (hbx.mono HB.out.size))
  clear hbx cs hl0
  go_wp2_with fail
  refine (cd _ hl1).mono ?_
  rintro e w2 ⟨bd, rfl, hd, hbx⟩
  have hl2 := hl1.below hbx
  replace M5 := Lib.hid (keep_blkP hbx M5.out)
  replace HB := Lib.hid (HB.out.trans (hbx.mono HB.out.size))
  clear hbx cd hl1
  cases bd with
  | false =>
    go_wp2
    go_ret
    exact ⟨rfl, HB.out⟩
  | true =>
  have HXP := Lib.hid (hXp.out (hd rfl))
  clear hd hXp
  go_wp2_with fail
  refine (cS _ hl2).mono ?_
  rintro e w3 ⟨A, C, rfl, hr3, hbx⟩
  replace M5 := Lib.hid (keep_blkP hbx M5.out)
  replace HB := Lib.hid (HB.out.trans (hbx.mono HB.out.size))
  rw [HX.out]
  have HL := Lib.hid hr3
  clear hbx cS hl2 hr3
  obtain ⟨xs, hxs⟩ : ∃ xs, pageL m X qa = xs := ⟨_, rfl⟩
  obtain ⟨kn, hkn⟩ : ∃ k, nextM m xs = k := ⟨_, rfl⟩
  obtain ⟨ys, hys⟩ : ∃ ys, pageL kn X qb = ys := ⟨_, rfl⟩
  obtain ⟨zs, hzs⟩ : ∃ zs, pageL m X qab = zs := ⟨_, rfl⟩
  obtain ⟨kp, hkp⟩ : ∃ k, nextM m zs = k := ⟨_, rfl⟩
  obtain ⟨mo, hmo⟩ : ∃ b, moreB m X qab = b := ⟨_, rfl⟩
  obtain ⟨mo1, hmo1⟩ : ∃ b, moreB m X qa = b := ⟨_, rfl⟩
  obtain ⟨F, hF⟩ : ∃ F, X.filter (passB m) = F := ⟨_, rfl⟩
  have hcase : (xs = [] ∧ F = [] ∧ kn = m ∧ kp = m ∧ ys = [] ∧ zs = [] ∧ mo = false ∧ moreB kn X qb = mo ∧ nextM kn ys = kp) ∨ (xs ≠ [] ∧ zs = xs ++ ys ∧ moreB kn X qb = mo ∧ nextM kn ys = kp) := by
    by_cases hx0 : xs = []
    · left
      have hF0 : F = [] := by
        have h1 := congrArg List.length hxs
        rw [hx0] at h1
        unfold pageL at h1
        rw [hF, List.length_take, List.length_nil] at h1
        exact List.eq_nil_of_length_eq_zero (by have := Ha.out.1; omega)
      have e0 := pages_nil (X := X) (k := m) (by rw [hF, hF0])
      have k1 : kn = m := by rw [← hkn, hx0]; rfl
      have z1 : zs = [] := by rw [← hzs]; exact (e0 qab).1
      have p1 : kp = m := by rw [← hkp, z1]; rfl
      have y1 : ys = [] := by rw [← hys, k1]; exact (e0 qb).1
      have o1 : mo = false := by rw [← hmo]; exact (e0 qab).2.1
      refine ⟨hx0, hF0, k1, p1, y1, z1, o1, by rw [k1, o1]; exact (e0 qb).2.1, by rw [y1, k1, p1]; rfl⟩
    · right
      have h0 : (X.filter (passB m)).take qa ≠ [] := by intro e; exact hx0 (by rw [← hxs]; exact e)
      obtain ⟨e1, e2, e3, e4⟩ := two_pages HXP.out m (a := qa) (b := qb) h0
      rw [hxs, hkn] at e1 e3 e4
      rw [hys] at e1
      rw [← e1, Hq.out, hzs, hkp] at e4
      rw [hxs, ← e1, Hq.out, hzs] at e2
      rw [Hq.out, hmo] at e3
      exact ⟨hx0, e2, e3, e4⟩
  have cA := fun W h => cN m A C qa X W (by have := Ha.out.2; omega) (by have := HX.out; have := Hn.out; omega) h
  have cB := fun W h => cN kn A C qb X W (by have := Hb.out.2; omega) (by have := HX.out; have := Hn.out; omega) h
  have cC := fun W h => cN m A C qab X W (by have := Ha.out.2; have := Hb.out.2; have := Hq.out; omega) (by have := HX.out; have := Hn.out; omega) h
  have hFl : F.length ≤ 100 := by rw [← hF]; have := List.length_filter_le (passB m) X; have := HX.out; have := Hn.out; omega
  have cD := fun A' C' W h => cN m A' C' qab F W (by have := Ha.out.2; have := Hb.out.2; have := Hq.out; omega) (by omega) h
  have eD := rest_same (X := X) m qab
  rw [hF, hzs, hmo] at eD
  rw [eD.1, eD.2, hkp] at cD
  rw [hxs, hkn, hmo1, HX.out] at cA
  rw [hys, HX.out] at cB
  rw [hzs, hkp, hmo, HX.out] at cC
  have hzl : zs.length ≤ 100 := by rw [← hzs]; unfold pageL; rw [hF, List.length_take]; omega
  have HFl := Lib.hid hFl
  have HF := Lib.hid hF
  have HZl := Lib.hid hzl
  clear cN eD hFl hF hzl hxs hkn hys hzs hkp hmo hmo1
  unfold NextS at cA cB cC cD
  rcases hcase with ⟨g1, g2, g3, g4, g5, g6, g7, e1, e2⟩ | ⟨hxn, hzx, e1, e2⟩
  · skip
    subst xs F kn kp ys zs mo
    rw [e1, e2] at cB
    clear e1 e2 cD
    obtain ⟨p0, p1, p2, p3, p4⟩ := fiveM (k := m) M5.out
    go_wp2_with fail
    refine (cA _ HL.out).mono ?_
    rintro e w4 ⟨ARX, CRX, rfl, hc, hzRX, hbx⟩
    clear p0 p1 p2 p3 p4
    replace M5 := Lib.hid (keep_blkP hbx M5.out)
    replace HL := Lib.hid (HL.out.below hbx)
    replace HB := Lib.hid (HB.out.trans (hbx.mono HB.out.size))
    have RX := Lib.hid hc
    clear hbx hc cA
    have M11 := Lib.hid (heap_alloc_new w4 (.cells #[.int .i64 m.now, .int .i64 m.score, .int .i64 m.time, .string (bs m.id), .bool m.beg] 23))
    replace M5 := Lib.hid ((Below.heap_alloc _ (.cells #[.int .i64 m.now, .int .i64 m.score, .int .i64 m.time, .string (bs m.id), .bool m.beg] 23) _ (lt_of_heap M5.out)).trans M5.out)
    replace HL := Lib.hid (HL.out.below ((Below.refl _ w4).alloc (Nat.le_refl _) (.cells #[.int .i64 m.now, .int .i64 m.score, .int .i64 m.time, .string (bs m.id), .bool m.beg] 23)))
    replace RX := Lib.hid (RX.out.below ((Below.refl _ w4).alloc (Nat.le_refl _) (.cells #[.int .i64 m.now, .int .i64 m.score, .int .i64 m.time, .string (bs m.id), .bool m.beg] 23)))
    replace HB := Lib.hid (HB.out.alloc HB.out.size (.cells #[.int .i64 m.now, .int .i64 m.score, .int .i64 m.time, .string (bs m.id), .bool m.beg] 23))
    obtain ⟨p0, p1, p2, p3, p4⟩ := fiveM (k := m) M11.out
    go_wp2_with fail
    refine (cB _ HL.out).mono ?_
    rintro e w5 ⟨ARY, CRY, rfl, hc, hzRY, hbx⟩
    clear p0 p1 p2 p3 p4
    replace M5 := Lib.hid (keep_blkP hbx M5.out)
    replace M11 := Lib.hid (keep_blkP hbx M11.out)
    replace HL := Lib.hid (HL.out.below hbx)
    replace RX := Lib.hid (RX.out.below hbx)
    replace HB := Lib.hid (HB.out.trans (hbx.mono HB.out.size))
    have RY := Lib.hid hc
    clear hbx hc cB
    have M14 := Lib.hid (heap_alloc_new w5 (.cells #[.int .i64 m.now, .int .i64 m.score, .int .i64 m.time, .string (bs m.id), .bool m.beg] 23))
    replace M5 := Lib.hid ((Below.heap_alloc _ (.cells #[.int .i64 m.now, .int .i64 m.score, .int .i64 m.time, .string (bs m.id), .bool m.beg] 23) _ (lt_of_heap M5.out)).trans M5.out)
    replace M11 := Lib.hid ((Below.heap_alloc _ (.cells #[.int .i64 m.now, .int .i64 m.score, .int .i64 m.time, .string (bs m.id), .bool m.beg] 23) _ (lt_of_heap M11.out)).trans M11.out)
    replace HL := Lib.hid (HL.out.below ((Below.refl _ w5).alloc (Nat.le_refl _) (.cells #[.int .i64 m.now, .int .i64 m.score, .int .i64 m.time, .string (bs m.id), .bool m.beg] 23)))
    replace RX := Lib.hid (RX.out.below ((Below.refl _ w5).alloc (Nat.le_refl _) (.cells #[.int .i64 m.now, .int .i64 m.score, .int .i64 m.time, .string (bs m.id), .bool m.beg] 23)))
    replace RY := Lib.hid (RY.out.below ((Below.refl _ w5).alloc (Nat.le_refl _) (.cells #[.int .i64 m.now, .int .i64 m.score, .int .i64 m.time, .string (bs m.id), .bool m.beg] 23)))
    replace HB := Lib.hid (HB.out.alloc HB.out.size (.cells #[.int .i64 m.now, .int .i64 m.score, .int .i64 m.time, .string (bs m.id), .bool m.beg] 23))
    obtain ⟨p0, p1, p2, p3, p4⟩ := fiveM (k := m) M5.out
    go_wp2_with fail
    refine (cC _ HL.out).mono ?_
    rintro e w6 ⟨ARZ, CRZ, rfl, hc, hzRZ, hbx⟩
    clear p0 p1 p2 p3 p4
    replace M5 := Lib.hid (keep_blkP hbx M5.out)
    replace M11 := Lib.hid (keep_blkP hbx M11.out)
    replace M14 := Lib.hid (keep_blkP hbx M14.out)
    replace HL := Lib.hid (HL.out.below hbx)
    replace RX := Lib.hid (RX.out.below hbx)
    replace RY := Lib.hid (RY.out.below hbx)
    replace HB := Lib.hid (HB.out.trans (hbx.mono HB.out.size))
    have RZ := Lib.hid hc
    clear hbx hc cC
    have M17 := Lib.hid (heap_alloc_new w6 (.cells #[.int .i64 m.now, .int .i64 m.score, .int .i64 m.time, .string (bs m.id), .bool m.beg] 23))
    replace M5 := Lib.hid ((Below.heap_alloc _ (.cells #[.int .i64 m.now, .int .i64 m.score, .int .i64 m.time, .string (bs m.id), .bool m.beg] 23) _ (lt_of_heap M5.out)).trans M5.out)
    replace M11 := Lib.hid ((Below.heap_alloc _ (.cells #[.int .i64 m.now, .int .i64 m.score, .int .i64 m.time, .string (bs m.id), .bool m.beg] 23) _ (lt_of_heap M11.out)).trans M11.out)
    replace M14 := Lib.hid ((Below.heap_alloc _ (.cells #[.int .i64 m.now, .int .i64 m.score, .int .i64 m.time, .string (bs m.id), .bool m.beg] 23) _ (lt_of_heap M14.out)).trans M14.out)
    replace HL := Lib.hid (HL.out.below ((Below.refl _ w6).alloc (Nat.le_refl _) (.cells #[.int .i64 m.now, .int .i64 m.score, .int .i64 m.time, .string (bs m.id), .bool m.beg] 23)))
    replace RX := Lib.hid (RX.out.below ((Below.refl _ w6).alloc (Nat.le_refl _) (.cells #[.int .i64 m.now, .int .i64 m.score, .int .i64 m.time, .string (bs m.id), .bool m.beg] 23)))
    replace RY := Lib.hid (RY.out.below ((Below.refl _ w6).alloc (Nat.le_refl _) (.cells #[.int .i64 m.now, .int .i64 m.score, .int .i64 m.time, .string (bs m.id), .bool m.beg] 23)))
    replace RZ := Lib.hid (RZ.out.below ((Below.refl _ w6).alloc (Nat.le_refl _) (.cells #[.int .i64 m.now, .int .i64 m.score, .int .i64 m.time, .string (bs m.id), .bool m.beg] 23)))
    replace HB := Lib.hid (HB.out.alloc HB.out.size (.cells #[.int .i64 m.now, .int .i64 m.score, .int .i64 m.time, .string (bs m.id), .bool m.beg] 23))
    have qk : ∀ W, (binOp .eql 23 (.agg #[.int .i64 m.now, .int .i64 m.score, .int .i64 m.time, .string (bs m.id), .bool m.beg]) (.agg #[.int .i64 m.now, .int .i64 m.score, .int .i64 m.time, .string (bs m.id), .bool m.beg])).run Try.prog W = .ok (.bool true) W := fun W => by
      have := eql_marks m m W
      rw [decide_eq_true rfl] at this
      exact this
    obtain ⟨p0, p1, p2, p3, p4⟩ := fiveM (k := m) M5.out
    obtain ⟨q0, q1, q2, q3, q4⟩ := fiveM (k := m) M11.out
    obtain ⟨r0, r1, r2, r3, r4⟩ := fiveM (k := m) M17.out
    go_wp2
    go_ret
    exact ⟨rfl, HB.out⟩
  rw [e1, e2] at cB
  clear e1 e2
  have HXN := Lib.hid hxn
  have HZX := Lib.hid hzx
  clear hxn hzx
  obtain ⟨p0, p1, p2, p3, p4⟩ := fiveM (k := m) M5.out
  go_wp2_with fail
  refine (cA _ HL.out).mono ?_
  rintro e w4 ⟨ARX, CRX, rfl, hc, hzRX, hbx⟩
  clear p0 p1 p2 p3 p4
  replace M5 := Lib.hid (keep_blkP hbx M5.out)
  replace HL := Lib.hid (HL.out.below hbx)
  replace HB := Lib.hid (HB.out.trans (hbx.mono HB.out.size))
  have RX := Lib.hid hc
  clear hbx hc cA
  have M11 := Lib.hid (heap_alloc_new w4 (.cells #[.int .i64 kn.now, .int .i64 kn.score, .int .i64 kn.time, .string (bs kn.id), .bool kn.beg] 23))
  replace M5 := Lib.hid ((Below.heap_alloc _ (.cells #[.int .i64 kn.now, .int .i64 kn.score, .int .i64 kn.time, .string (bs kn.id), .bool kn.beg] 23) _ (lt_of_heap M5.out)).trans M5.out)
  replace HL := Lib.hid (HL.out.below ((Below.refl _ w4).alloc (Nat.le_refl _) (.cells #[.int .i64 kn.now, .int .i64 kn.score, .int .i64 kn.time, .string (bs kn.id), .bool kn.beg] 23)))
  replace RX := Lib.hid (RX.out.below ((Below.refl _ w4).alloc (Nat.le_refl _) (.cells #[.int .i64 kn.now, .int .i64 kn.score, .int .i64 kn.time, .string (bs kn.id), .bool kn.beg] 23)))
  replace HB := Lib.hid (HB.out.alloc HB.out.size (.cells #[.int .i64 kn.now, .int .i64 kn.score, .int .i64 kn.time, .string (bs kn.id), .bool kn.beg] 23))
  obtain ⟨p0, p1, p2, p3, p4⟩ := fiveM (k := kn) M11.out
  go_wp2_with fail
  refine (cB _ HL.out).mono ?_
  rintro e w5 ⟨ARY, CRY, rfl, hc, hzRY, hbx⟩
  clear p0 p1 p2 p3 p4
  replace M5 := Lib.hid (keep_blkP hbx M5.out)
  replace M11 := Lib.hid (keep_blkP hbx M11.out)
  replace HL := Lib.hid (HL.out.below hbx)
  replace RX := Lib.hid (RX.out.below hbx)
  replace HB := Lib.hid (HB.out.trans (hbx.mono HB.out.size))
  have RY := Lib.hid hc
  clear hbx hc cB
  have M14 := Lib.hid (heap_alloc_new w5 (.cells #[.int .i64 kp.now, .int .i64 kp.score, .int .i64 kp.time, .string (bs kp.id), .bool kp.beg] 23))
  replace M5 := Lib.hid ((Below.heap_alloc _ (.cells #[.int .i64 kp.now, .int .i64 kp.score, .int .i64 kp.time, .string (bs kp.id), .bool kp.beg] 23) _ (lt_of_heap M5.out)).trans M5.out)
  replace M11 := Lib.hid ((Below.heap_alloc _ (.cells #[.int .i64 kp.now, .int .i64 kp.score, .int .i64 kp.time, .string (bs kp.id), .bool kp.beg] 23) _ (lt_of_heap M11.out)).trans M11.out)
  replace HL := Lib.hid (HL.out.below ((Below.refl _ w5).alloc (Nat.le_refl _) (.cells #[.int .i64 kp.now, .int .i64 kp.score, .int .i64 kp.time, .string (bs kp.id), .bool kp.beg] 23)))
  replace RX := Lib.hid (RX.out.below ((Below.refl _ w5).alloc (Nat.le_refl _) (.cells #[.int .i64 kp.now, .int .i64 kp.score, .int .i64 kp.time, .string (bs kp.id), .bool kp.beg] 23)))
  replace RY := Lib.hid (RY.out.below ((Below.refl _ w5).alloc (Nat.le_refl _) (.cells #[.int .i64 kp.now, .int .i64 kp.score, .int .i64 kp.time, .string (bs kp.id), .bool kp.beg] 23)))
  replace HB := Lib.hid (HB.out.alloc HB.out.size (.cells #[.int .i64 kp.now, .int .i64 kp.score, .int .i64 kp.time, .string (bs kp.id), .bool kp.beg] 23))
  obtain ⟨p0, p1, p2, p3, p4⟩ := fiveM (k := m) M5.out
  go_wp2_with fail
  refine (cC _ HL.out).mono ?_
  rintro e w6 ⟨ARZ, CRZ, rfl, hc, hzRZ, hbx⟩
  clear p0 p1 p2 p3 p4
  replace M5 := Lib.hid (keep_blkP hbx M5.out)
  replace M11 := Lib.hid (keep_blkP hbx M11.out)
  replace M14 := Lib.hid (keep_blkP hbx M14.out)
  replace HL := Lib.hid (HL.out.below hbx)
  replace RX := Lib.hid (RX.out.below hbx)
  replace RY := Lib.hid (RY.out.below hbx)
  replace HB := Lib.hid (HB.out.trans (hbx.mono HB.out.size))
  have RZ := Lib.hid hc
  clear hbx hc cC
  have M17 := Lib.hid (heap_alloc_new w6 (.cells #[.int .i64 kp.now, .int .i64 kp.score, .int .i64 kp.time, .string (bs kp.id), .bool kp.beg] 23))
  replace M5 := Lib.hid ((Below.heap_alloc _ (.cells #[.int .i64 kp.now, .int .i64 kp.score, .int .i64 kp.time, .string (bs kp.id), .bool kp.beg] 23) _ (lt_of_heap M5.out)).trans M5.out)
  replace M11 := Lib.hid ((Below.heap_alloc _ (.cells #[.int .i64 kp.now, .int .i64 kp.score, .int .i64 kp.time, .string (bs kp.id), .bool kp.beg] 23) _ (lt_of_heap M11.out)).trans M11.out)
  replace M14 := Lib.hid ((Below.heap_alloc _ (.cells #[.int .i64 kp.now, .int .i64 kp.score, .int .i64 kp.time, .string (bs kp.id), .bool kp.beg] 23) _ (lt_of_heap M14.out)).trans M14.out)
  replace HL := Lib.hid (HL.out.below ((Below.refl _ w6).alloc (Nat.le_refl _) (.cells #[.int .i64 kp.now, .int .i64 kp.score, .int .i64 kp.time, .string (bs kp.id), .bool kp.beg] 23)))
  replace RX := Lib.hid (RX.out.below ((Below.refl _ w6).alloc (Nat.le_refl _) (.cells #[.int .i64 kp.now, .int .i64 kp.score, .int .i64 kp.time, .string (bs kp.id), .bool kp.beg] 23)))
  replace RY := Lib.hid (RY.out.below ((Below.refl _ w6).alloc (Nat.le_refl _) (.cells #[.int .i64 kp.now, .int .i64 kp.score, .int .i64 kp.time, .string (bs kp.id), .bool kp.beg] 23)))
  replace RZ := Lib.hid (RZ.out.below ((Below.refl _ w6).alloc (Nat.le_refl _) (.cells #[.int .i64 kp.now, .int .i64 kp.score, .int .i64 kp.time, .string (bs kp.id), .bool kp.beg] 23)))
  replace HB := Lib.hid (HB.out.alloc HB.out.size (.cells #[.int .i64 kp.now, .int .i64 kp.score, .int .i64 kp.time, .string (bs kp.id), .bool kp.beg] 23))
  have e0 : ((xs.length : Int) == 0) = false := beq_eq_false_iff_ne.2 (by have := HXN.out; have : xs.length ≠ 0 := fun h => this (List.eq_nil_of_length_eq_zero h); omega)
  have e0N : (xs.length == 0) = false := beq_eq_false_iff_ne.2 (fun h => HXN.out (List.eq_nil_of_length_eq_zero h))
  obtain ⟨p0, p1, p2, p3, p4⟩ := fiveM (k := m) M5.out
  go_wp2
  clear p0 p1 p2 p3 p4
  have M19 := Lib.hid (heap_alloc_new (w6.alloc (.cells #[.int .i64 kp.now, .int .i64 kp.score, .int .i64 kp.time, .string (bs kp.id), .bool kp.beg] 23)) (.cells (cellsC (atC m)) 39))
  replace M5 := Lib.hid ((Below.heap_alloc _ (.cells (cellsC (atC m)) 39) _ (lt_of_heap M5.out)).trans M5.out)
  replace M11 := Lib.hid ((Below.heap_alloc _ (.cells (cellsC (atC m)) 39) _ (lt_of_heap M11.out)).trans M11.out)
  replace M14 := Lib.hid ((Below.heap_alloc _ (.cells (cellsC (atC m)) 39) _ (lt_of_heap M14.out)).trans M14.out)
  replace M17 := Lib.hid ((Below.heap_alloc _ (.cells (cellsC (atC m)) 39) _ (lt_of_heap M17.out)).trans M17.out)
  replace HL := Lib.hid (HL.out.below ((Below.refl _ (w6.alloc (.cells #[.int .i64 kp.now, .int .i64 kp.score, .int .i64 kp.time, .string (bs kp.id), .bool kp.beg] 23))).alloc (Nat.le_refl _) (.cells (cellsC (atC m)) 39)))
  replace RX := Lib.hid (RX.out.below ((Below.refl _ (w6.alloc (.cells #[.int .i64 kp.now, .int .i64 kp.score, .int .i64 kp.time, .string (bs kp.id), .bool kp.beg] 23))).alloc (Nat.le_refl _) (.cells (cellsC (atC m)) 39)))
  replace RY := Lib.hid (RY.out.below ((Below.refl _ (w6.alloc (.cells #[.int .i64 kp.now, .int .i64 kp.score, .int .i64 kp.time, .string (bs kp.id), .bool kp.beg] 23))).alloc (Nat.le_refl _) (.cells (cellsC (atC m)) 39)))
  replace RZ := Lib.hid (RZ.out.below ((Below.refl _ (w6.alloc (.cells #[.int .i64 kp.now, .int .i64 kp.score, .int .i64 kp.time, .string (bs kp.id), .bool kp.beg] 23))).alloc (Nat.le_refl _) (.cells (cellsC (atC m)) 39)))
  replace HB := Lib.hid (HB.out.alloc HB.out.size (.cells (cellsC (atC m)) 39))
  have M19' : Hid (((w6.alloc (.cells #[.int .i64 kp.now, .int .i64 kp.score, .int .i64 kp.time, .string (bs kp.id), .bool kp.beg] 23)).alloc (.cells (cellsC (atC m)) 39)).heap[w6.heap.size + 1]? = some (.cells (cellsC (atC m)) 39 (0, 0))) := by
    have := M19.out
    rw [World.size_alloc] at this
    exact this
  clear M19
  unfold cellsC atC at HB HL M5 M11 M14 M17 RX RY RZ M19'
  simp only at HB HL M5 M11 M14 M17 RX RY RZ M19'
  have hnil : bs [] = ⟨#[]⟩ := rfl
  rw [hnil] at HB HL M5 M11 M14 M17 RX RY RZ M19'
  (try simp only [World.size_alloc])
  generalize hwl : World.alloc (World.alloc w6 _) _ = wl at *
  clear hwl
  go_loopw [20, 21] (fun v20 v21 wr => ∃ i : Nat, v21 = .int .i64 i ∧ i ≤ n ∧ Hid (backR wl wr v20 ((X.take i).filter (passB m)))) (fun _ v _ => n - (intOf v).toNat)
  case atStart => exact ⟨0, rfl, Nat.zero_le _, ⟨⟨by simp [cardCells], .inl ⟨rfl, rfl⟩⟩, Below.refl _ _⟩⟩
  obtain ⟨i, rfl, hi, hz⟩ := hrel
  by_cases hin : i < n
  · have di : decide ((i : Int) < (n : Int)) = true := decide_eq_true (by omega)
    have diN : decide (i < n) = true := decide_eq_true hin
    have bi : (i : Int) < (n : Int) := by omega
    have wi : IntKind.i64.wrap ((i : Int) + 1) = (i : Int) + 1 := IntWalk.i64_in _ (by have := Hn.out; omega)
    obtain ⟨⟨xi, xb, xs', xt, xa, xr⟩, hx⟩ : ∃ c, X[i]? = some c := ⟨_, List.getElem?_eq_getElem (by have := HX.out; omega)⟩
    obtain ⟨b, o, rfl, _⟩ := HL.out (by have := HX.out; omega)
    have hft := filter_take (p := passB m) hx
    have clq := fun W => less_any (atC m) ⟨xi, xb, xs', xt, xa, xr⟩ W
    have hbz := hz.out.2
    have FF : Hid (∀ W, Below wr.heap.size wr W → (W.cell? ⟨w.heap.size, 0, none⟩ = some (.int .i64 m.now) ∧ W.cell? ⟨w.heap.size, 1, none⟩ = some (.int .i64 m.score) ∧ W.cell? ⟨w.heap.size, 2, none⟩ = some (.int .i64 m.time) ∧ W.cell? ⟨w.heap.size, 3, none⟩ = some (.string (bs m.id)) ∧ W.cell? ⟨w.heap.size, 4, none⟩ = some (.bool m.beg)) ∧ (W.cell? ⟨w6.heap.size + 1, 0, none⟩ = some (.string (bs m.id)) ∧ W.cell? ⟨w6.heap.size + 1, 1, none⟩ = some (.string ⟨#[]⟩) ∧ W.cell? ⟨w6.heap.size + 1, 2, none⟩ = some (.int .i64 m.score) ∧ W.cell? ⟨w6.heap.size + 1, 3, none⟩ = some (.int .i64 m.time) ∧ W.cell? ⟨w6.heap.size + 1, 4, none⟩ = some (.int .i64 0) ∧ W.cell? ⟨w6.heap.size + 1, 5, none⟩ = some (.string ⟨#[]⟩)) ∧ (W.cell? ⟨b, o + i * 6, none⟩ = some (.string (bs xi)) ∧ W.cell? ⟨b, o + i * 6 + 1, none⟩ = some (.string (bs xb)) ∧ W.cell? ⟨b, o + i * 6 + 2, none⟩ = some (.int .i64 xs') ∧ W.cell? ⟨b, o + i * 6 + 3, none⟩ = some (.int .i64 xt) ∧ W.cell? ⟨b, o + i * 6 + 4, none⟩ = some (.int .i64 xa) ∧ W.cell? ⟨b, o + i * 6 + 5, none⟩ = some (.string (bs xr)))) := fun W hW => by
      have hbw := hbz.trans (hW.mono hbz.size)
      exact ⟨fiveM (k := m) (keep_blkP hbw M5.out), sixC (c := ⟨m.id, [], m.score, m.time, 0, []⟩) (keep_blkP hbw M19'.out), (HL.out.below hbw).sixA hx⟩
    have HZ := Lib.hid hz.out
    have HFT := Lib.hid hft
    clear hx hft hz hbz
    obtain ⟨⟨p0, p1, p2, p3, p4⟩, _⟩ := FF.out _ (Below.refl _ _)
    clear p0 p1 p2 p3 p4
    have gx := FF.out _ (Below.refl wr.heap.size wr).drew
    unfold cellsC atC at clq
    simp only at clq
    rw [hnil] at clq
    go_wp2
    obtain ⟨bb, hbg⟩ : ∃ bb, m.beg = bb := ⟨_, rfl⟩
    cases bb with
    | true =>
      rw [hbg] at FF gx
      have hq : passB m ⟨xi, xb, xs', xt, xa, xr⟩ = true := by unfold passB; rw [hbg]; rfl
      rw [hq, if_pos rfl] at HFT
      clear hbg
      refine wp_region_held_drew (S := (fun W => Below wr.heap.size wr W ∧ (W.cell? ⟨w.heap.size, 0, none⟩ = some (.int .i64 m.now) ∧ W.cell? ⟨w.heap.size, 1, none⟩ = some (.int .i64 m.score) ∧ W.cell? ⟨w.heap.size, 2, none⟩ = some (.int .i64 m.time) ∧ W.cell? ⟨w.heap.size, 3, none⟩ = some (.string (bs m.id)) ∧ W.cell? ⟨w.heap.size, 4, none⟩ = some (.bool true)) ∧ (W.cell? ⟨w6.heap.size + 1, 0, none⟩ = some (.string (bs m.id)) ∧ W.cell? ⟨w6.heap.size + 1, 1, none⟩ = some (.string ⟨#[]⟩) ∧ W.cell? ⟨w6.heap.size + 1, 2, none⟩ = some (.int .i64 m.score) ∧ W.cell? ⟨w6.heap.size + 1, 3, none⟩ = some (.int .i64 m.time) ∧ W.cell? ⟨w6.heap.size + 1, 4, none⟩ = some (.int .i64 0) ∧ W.cell? ⟨w6.heap.size + 1, 5, none⟩ = some (.string ⟨#[]⟩)) ∧ (W.cell? ⟨b, o + i * 6, none⟩ = some (.string (bs xi)) ∧ W.cell? ⟨b, o + i * 6 + 1, none⟩ = some (.string (bs xb)) ∧ W.cell? ⟨b, o + i * 6 + 2, none⟩ = some (.int .i64 xs') ∧ W.cell? ⟨b, o + i * 6 + 3, none⟩ = some (.int .i64 xt) ∧ W.cell? ⟨b, o + i * 6 + 4, none⟩ = some (.int .i64 xa) ∧ W.cell? ⟨b, o + i * 6 + 5, none⟩ = some (.string (bs xr))))) (by kernel_rfl) (⟨(Below.refl _ _).drew, FF.out _ (Below.refl _ _).drew⟩) (fun hHeld => ?_)
      refine wpAnyH_take (i := 0) (oi := { dst := some 125, op := Go.Op.fieldAddr 23 (Go.Operand.tmp 5) 4, type := 0, pos := "law.go:182", after := #[], guard := none }) (v := ?vB0) rfl (by kernel_rfl) (by kernel_rfl) (by kernel_rfl) (fun _ _ _ h => h) (Or.inl ⟨by rfl, ?yB0⟩) (by assumption) ?_
      case yB0 => (intro wX hSw; (try dsimp only at hSw); go_simp <;> with_reducible rfl)
      try simp only [Act.put, List.setIfInBounds_toArray, List.set_cons_zero, List.set_cons_succ]
      refine wpAnyH_take (i := 1) (oi := { dst := some 126, op := Go.Op.load 4 (Go.Operand.tmp 125), type := 4, pos := "law.go:182", after := #[{ on := 0, ground := Go.Ground.data }], guard := none }) (v := ?vB1) rfl (by kernel_rfl) (by kernel_rfl) (by kernel_rfl) (fun _ _ _ h => h) (Or.inl ⟨by rfl, ?yB1⟩) (by assumption) ?_
      case yB1 => (intro wX hSw; (try dsimp only at hSw); go_simp <;> with_reducible rfl)
      try simp only [Act.put, List.setIfInBounds_toArray, List.set_cons_zero, List.set_cons_succ]
      refine wpAnyH_take (i := 2) (oi := { dst := some 127, op := Go.Op.move (Go.Operand.tmp 126), type := 4, pos := "law.go:182", after := #[{ on := 1, ground := Go.Ground.data }], guard := none }) (v := ?vB2) rfl (by kernel_rfl) (by kernel_rfl) (by kernel_rfl) (fun _ _ _ h => h) (Or.inl ⟨by rfl, ?yB2⟩) (by assumption) ?_
      case yB2 => (intro wX hSw; (try dsimp only at hSw); go_simp <;> with_reducible rfl)
      try simp only [Act.put, List.setIfInBounds_toArray, List.set_cons_zero, List.set_cons_succ]
      refine wpAnyH_take (i := 3) (oi := { dst := some 128, op := Go.Op.load 39 (Go.Operand.tmp 19), type := 39, pos := "law.go:182", after := #[{ on := 2, ground := Go.Ground.guard }], guard := some (2, false) }) (v := undef) rfl (by kernel_rfl) (by kernel_rfl) (by kernel_rfl) (fun _ _ _ h => h) (Or.inr ⟨by rfl, rfl⟩) (by assumption) ?_
      try simp only [Act.put, List.setIfInBounds_toArray, List.set_cons_zero, List.set_cons_succ]
      refine wpAnyH_take (i := 4) (oi := { dst := some 129, op := Go.Op.move (Go.Operand.tmp 0), type := 30, pos := "law.go:182", after := #[{ on := 2, ground := Go.Ground.guard }], guard := some (2, false) }) (v := undef) rfl (by kernel_rfl) (by kernel_rfl) (by kernel_rfl) (fun _ _ _ h => h) (Or.inr ⟨by rfl, rfl⟩) (by assumption) ?_
      try simp only [Act.put, List.setIfInBounds_toArray, List.set_cons_zero, List.set_cons_succ]
      refine wpAnyH_take (i := 5) (oi := { dst := some 130, op := Go.Op.move (Go.Operand.tmp 21), type := 3, pos := "law.go:182", after := #[{ on := 2, ground := Go.Ground.guard }], guard := some (2, false) }) (v := undef) rfl (by kernel_rfl) (by kernel_rfl) (by kernel_rfl) (fun _ _ _ h => h) (Or.inr ⟨by rfl, rfl⟩) (by assumption) ?_
      try simp only [Act.put, List.setIfInBounds_toArray, List.set_cons_zero, List.set_cons_succ]
      refine wpAnyH_take (i := 6) (oi := { dst := some 131, op := Go.Op.indexAddr 30 (Go.Operand.tmp 129) (Go.Operand.tmp 130), type := 0, pos := "law.go:182", after := #[{ on := 4, ground := Go.Ground.data }, { on := 5, ground := Go.Ground.data }, { on := 2, ground := Go.Ground.guard }], guard := some (2, false) }) (v := undef) rfl (by kernel_rfl) (by kernel_rfl) (by kernel_rfl) (fun _ _ _ h => h) (Or.inr ⟨by rfl, rfl⟩) (by assumption) ?_
      try simp only [Act.put, List.setIfInBounds_toArray, List.set_cons_zero, List.set_cons_succ]
      refine wpAnyH_take (i := 7) (oi := { dst := some 132, op := Go.Op.load 39 (Go.Operand.tmp 131), type := 39, pos := "law.go:182", after := #[{ on := 6, ground := Go.Ground.data }, { on := 2, ground := Go.Ground.guard }], guard := some (2, false) }) (v := undef) rfl (by kernel_rfl) (by kernel_rfl) (by kernel_rfl) (fun _ _ _ h => h) (Or.inr ⟨by rfl, rfl⟩) (by assumption) ?_
      try simp only [Act.put, List.setIfInBounds_toArray, List.set_cons_zero, List.set_cons_succ]
      refine wpAnyH_take (i := 8) (oi := { dst := some 133, op := Go.Op.call { callee := Go.Callee.value (Go.Operand.func 17), args := #[Go.Operand.tmp 128, Go.Operand.tmp 132], argTypes := #[39, 39] }, type := 4, pos := "law.go:182", after := #[{ on := 3, ground := Go.Ground.data }, { on := 7, ground := Go.Ground.data }, { on := 2, ground := Go.Ground.chain }, { on := 2, ground := Go.Ground.guard }], guard := some (2, false) }) (v := undef) rfl (by kernel_rfl) (by kernel_rfl) (by kernel_rfl) (fun _ _ _ h => h) (Or.inr ⟨by rfl, rfl⟩) (by assumption) ?_
      try simp only [Act.put, List.setIfInBounds_toArray, List.set_cons_zero, List.set_cons_succ]
      refine wpAnyH_take (i := 9) (oi := { dst := some 134, op := Go.Op.pick (Go.Operand.tmp 127) (Go.Operand.const (Go.Value.bool true)) (Go.Operand.tmp 133), type := 4, pos := "law.go:182", after := #[{ on := 2, ground := Go.Ground.data }, { on := 8, ground := Go.Ground.data }], guard := none }) (v := ?vB9) rfl (by kernel_rfl) (by kernel_rfl) (by kernel_rfl) (fun _ _ _ h => h) (Or.inl ⟨by rfl, ?yB9⟩) (by assumption) ?_
      case yB9 => (intro wX hSw; (try dsimp only at hSw); go_simp <;> with_reducible rfl)
      try simp only [Act.put, List.setIfInBounds_toArray, List.set_cons_zero, List.set_cons_succ]
      refine wpAnyH_done (by kernel_rfl) ?_ _
      obtain ⟨hbc, _, _, hsx⟩ := hHeld
      have hz3 : backR wl wr.drew u20 ((X.take i).filter (passB m)) := ⟨own_below HZ.out.1 hbc, HZ.out.2.trans (hbc.mono HZ.out.2.size)⟩
      obtain ⟨va, vc, hva⟩ := own_form hz3.1
      subst hva
      obtain ⟨i0, hi0, hz0, hz1, hz2'⟩ := info_parts info39
      have hlen : ((X.take i).filter (passB m)).length ≤ 1000 := by
        have h1 := List.length_filter_le (passB m) (X.take i)
        rw [List.length_take] at h1
        have := Hn.out
        omega
      have hown := Lib.hid (own_below hz3.1 ((Below.refl _ _).alloc (Nat.le_refl _) (.cells (cellsC ⟨xi, xb, xs', xt, xa, xr⟩) 39)))
      have hbs := Lib.hid hz3.2.size
      have hnc := Lib.hid (fun W => new_cells W ⟨xi, xb, xs', xt, xa, xr⟩)
      have hco := Lib.hid (cells_one ⟨xi, xb, xs', xt, xa, xr⟩)
      have GZ3 := Lib.hid hz3
      unfold cellsC at hown hnc hco
      simp only at hown hnc hco
      obtain ⟨p0, p1, p2, p3, p4, p5⟩ := hsx
      clear hbc hz3 FF gx clq HZ hq
      go_wp2_with (at_builtin; refine wpList_append_own _ rfl _ _ 30 rfl wl.heap.size 39 i0 (.agg (cellsC noC)) 6 72 Try.underlying30 hi0 hz0 hz1 hz2' rfl (by decide) _ _ _ rfl hown.out ⟨_, 0, none⟩ 1 1 _ rfl rfl (hnc.out _) hco.out ?c3B ?c4B ?c5B ?_)
      case c3B => unfold maxLen; omega
      case c4B => omega
      case c5B => have h5 : wl.heap.size ≤ wr.heap.size := hbs.out; simp; omega
      intro v' w' hown' hgr' hne'
      have hz4 := back_app (y := ⟨xi, xb, xs', xt, xa, xr⟩) (X := .cells (cellsC ⟨xi, xb, xs', xt, xa, xr⟩) 39) GZ3.out hown' hgr'
      rw [← HFT.out] at hz4
      have HZ4 := Lib.hid hz4
      clear hz4 hown' hgr' hne' GZ3 hown HFT hnc hco
      go_wp2
      go_roundw
      case rel => exact ⟨i + 1, by go_num, hin, HZ4⟩
      case measure => simp [intOf]; omega
    | false =>
      rw [hbg] at FF gx
      cases hls : lessC (atC m) ⟨xi, xb, xs', xt, xa, xr⟩ with
      | true =>
        have hq : passB m ⟨xi, xb, xs', xt, xa, xr⟩ = true := by unfold passB; rw [hbg, hls]; rfl
        rw [hq, if_pos rfl] at HFT
        unfold atC at hls
        rw [hls] at clq
        clear hls hbg
        refine wp_region_held_drew (S := (fun W => Below wr.heap.size wr W ∧ (W.cell? ⟨w.heap.size, 0, none⟩ = some (.int .i64 m.now) ∧ W.cell? ⟨w.heap.size, 1, none⟩ = some (.int .i64 m.score) ∧ W.cell? ⟨w.heap.size, 2, none⟩ = some (.int .i64 m.time) ∧ W.cell? ⟨w.heap.size, 3, none⟩ = some (.string (bs m.id)) ∧ W.cell? ⟨w.heap.size, 4, none⟩ = some (.bool false)) ∧ (W.cell? ⟨w6.heap.size + 1, 0, none⟩ = some (.string (bs m.id)) ∧ W.cell? ⟨w6.heap.size + 1, 1, none⟩ = some (.string ⟨#[]⟩) ∧ W.cell? ⟨w6.heap.size + 1, 2, none⟩ = some (.int .i64 m.score) ∧ W.cell? ⟨w6.heap.size + 1, 3, none⟩ = some (.int .i64 m.time) ∧ W.cell? ⟨w6.heap.size + 1, 4, none⟩ = some (.int .i64 0) ∧ W.cell? ⟨w6.heap.size + 1, 5, none⟩ = some (.string ⟨#[]⟩)) ∧ (W.cell? ⟨b, o + i * 6, none⟩ = some (.string (bs xi)) ∧ W.cell? ⟨b, o + i * 6 + 1, none⟩ = some (.string (bs xb)) ∧ W.cell? ⟨b, o + i * 6 + 2, none⟩ = some (.int .i64 xs') ∧ W.cell? ⟨b, o + i * 6 + 3, none⟩ = some (.int .i64 xt) ∧ W.cell? ⟨b, o + i * 6 + 4, none⟩ = some (.int .i64 xa) ∧ W.cell? ⟨b, o + i * 6 + 5, none⟩ = some (.string (bs xr))))) (by kernel_rfl) (⟨(Below.refl _ _).drew, FF.out _ (Below.refl _ _).drew⟩) (fun hHeld => ?_)
        refine wpAnyH_take (i := 0) (oi := { dst := some 125, op := Go.Op.fieldAddr 23 (Go.Operand.tmp 5) 4, type := 0, pos := "law.go:182", after := #[], guard := none }) (v := ?vT0) rfl (by kernel_rfl) (by kernel_rfl) (by kernel_rfl) (fun _ _ _ h => h) (Or.inl ⟨by rfl, ?yT0⟩) (by assumption) ?_
        case yT0 => (intro wX hSw; (try dsimp only at hSw); go_simp <;> with_reducible rfl)
        try simp only [Act.put, List.setIfInBounds_toArray, List.set_cons_zero, List.set_cons_succ]
        refine wpAnyH_take (i := 1) (oi := { dst := some 126, op := Go.Op.load 4 (Go.Operand.tmp 125), type := 4, pos := "law.go:182", after := #[{ on := 0, ground := Go.Ground.data }], guard := none }) (v := ?vT1) rfl (by kernel_rfl) (by kernel_rfl) (by kernel_rfl) (fun _ _ _ h => h) (Or.inl ⟨by rfl, ?yT1⟩) (by assumption) ?_
        case yT1 => (intro wX hSw; (try dsimp only at hSw); go_simp <;> with_reducible rfl)
        try simp only [Act.put, List.setIfInBounds_toArray, List.set_cons_zero, List.set_cons_succ]
        refine wpAnyH_take (i := 2) (oi := { dst := some 127, op := Go.Op.move (Go.Operand.tmp 126), type := 4, pos := "law.go:182", after := #[{ on := 1, ground := Go.Ground.data }], guard := none }) (v := ?vT2) rfl (by kernel_rfl) (by kernel_rfl) (by kernel_rfl) (fun _ _ _ h => h) (Or.inl ⟨by rfl, ?yT2⟩) (by assumption) ?_
        case yT2 => (intro wX hSw; (try dsimp only at hSw); go_simp <;> with_reducible rfl)
        try simp only [Act.put, List.setIfInBounds_toArray, List.set_cons_zero, List.set_cons_succ]
        refine wpAnyH_take (i := 3) (oi := { dst := some 128, op := Go.Op.load 39 (Go.Operand.tmp 19), type := 39, pos := "law.go:182", after := #[{ on := 2, ground := Go.Ground.guard }], guard := some (2, false) }) (v := ?vT3) rfl (by kernel_rfl) (by kernel_rfl) (by kernel_rfl) (fun _ _ _ h => h) (Or.inl ⟨by rfl, ?yT3⟩) (by assumption) ?_
        case yT3 => (intro wX hSw; (try dsimp only at hSw); go_simp <;> with_reducible rfl)
        try simp only [Act.put, List.setIfInBounds_toArray, List.set_cons_zero, List.set_cons_succ]
        refine wpAnyH_take (i := 4) (oi := { dst := some 129, op := Go.Op.move (Go.Operand.tmp 0), type := 30, pos := "law.go:182", after := #[{ on := 2, ground := Go.Ground.guard }], guard := some (2, false) }) (v := ?vT4) rfl (by kernel_rfl) (by kernel_rfl) (by kernel_rfl) (fun _ _ _ h => h) (Or.inl ⟨by rfl, ?yT4⟩) (by assumption) ?_
        case yT4 => (intro wX hSw; (try dsimp only at hSw); go_simp <;> with_reducible rfl)
        try simp only [Act.put, List.setIfInBounds_toArray, List.set_cons_zero, List.set_cons_succ]
        refine wpAnyH_take (i := 5) (oi := { dst := some 130, op := Go.Op.move (Go.Operand.tmp 21), type := 3, pos := "law.go:182", after := #[{ on := 2, ground := Go.Ground.guard }], guard := some (2, false) }) (v := ?vT5) rfl (by kernel_rfl) (by kernel_rfl) (by kernel_rfl) (fun _ _ _ h => h) (Or.inl ⟨by rfl, ?yT5⟩) (by assumption) ?_
        case yT5 => (intro wX hSw; (try dsimp only at hSw); go_simp <;> with_reducible rfl)
        try simp only [Act.put, List.setIfInBounds_toArray, List.set_cons_zero, List.set_cons_succ]
        refine wpAnyH_take (i := 6) (oi := { dst := some 131, op := Go.Op.indexAddr 30 (Go.Operand.tmp 129) (Go.Operand.tmp 130), type := 0, pos := "law.go:182", after := #[{ on := 4, ground := Go.Ground.data }, { on := 5, ground := Go.Ground.data }, { on := 2, ground := Go.Ground.guard }], guard := some (2, false) }) (v := ?vT6) rfl (by kernel_rfl) (by kernel_rfl) (by kernel_rfl) (fun _ _ _ h => h) (Or.inl ⟨by rfl, ?yT6⟩) (by assumption) ?_
        case yT6 => (intro wX hSw; (try dsimp only at hSw); go_simp <;> with_reducible rfl)
        try simp only [Act.put, List.setIfInBounds_toArray, List.set_cons_zero, List.set_cons_succ]
        refine wpAnyH_take (i := 7) (oi := { dst := some 132, op := Go.Op.load 39 (Go.Operand.tmp 131), type := 39, pos := "law.go:182", after := #[{ on := 6, ground := Go.Ground.data }, { on := 2, ground := Go.Ground.guard }], guard := some (2, false) }) (v := ?vT7) rfl (by kernel_rfl) (by kernel_rfl) (by kernel_rfl) (fun _ _ _ h => h) (Or.inl ⟨by rfl, ?yT7⟩) (by assumption) ?_
        case yT7 => (intro wX hSw; (try dsimp only at hSw); go_simp <;> with_reducible rfl)
        try simp only [Act.put, List.setIfInBounds_toArray, List.set_cons_zero, List.set_cons_succ]
        refine wpAnyH_ready (rs := [8]) (by kernel_rfl) (by simp) (AllReadyH.cons (o := { dst := some 133, op := Go.Op.call { callee := Go.Callee.value (Go.Operand.func 17), args := #[Go.Operand.tmp 128, Go.Operand.tmp 132], argTypes := #[39, 39] }, type := 4, pos := "law.go:182", after := #[{ on := 3, ground := Go.Ground.data }, { on := 7, ground := Go.Ground.data }, { on := 2, ground := Go.Ground.chain }, { on := 2, ground := Go.Ground.guard }], guard := some (2, false) }) rfl (fun K hK => ?_) AllReadyH.nil)
        (go_simp; go_at_call 17; refine (clq _).mono ?_; rintro e wc0 ⟨rfl, hbc0⟩)
        refine hK.out _ _ (⟨((Below.refl wr.heap.size wr).drew).trans (hbc0.mono ((Below.refl wr.heap.size wr).drew).size), FF.out _ (((Below.refl wr.heap.size wr).drew).trans (hbc0.mono ((Below.refl wr.heap.size wr).drew).size))⟩) (fun hHeld => ?_)
        clear hK K
        try simp only [Act.put, List.setIfInBounds_toArray, List.set_cons_zero, List.set_cons_succ]
        refine wpAnyH_take (i := 9) (oi := { dst := some 134, op := Go.Op.pick (Go.Operand.tmp 127) (Go.Operand.const (Go.Value.bool true)) (Go.Operand.tmp 133), type := 4, pos := "law.go:182", after := #[{ on := 2, ground := Go.Ground.data }, { on := 8, ground := Go.Ground.data }], guard := none }) (v := ?vT9) rfl (by kernel_rfl) (by kernel_rfl) (by kernel_rfl) (fun _ _ _ h => h) (Or.inl ⟨by rfl, ?yT9⟩) (by assumption) ?_
        case yT9 => (intro wX hSw; (try dsimp only at hSw); go_simp <;> with_reducible rfl)
        try simp only [Act.put, List.setIfInBounds_toArray, List.set_cons_zero, List.set_cons_succ]
        refine wpAnyH_done (by kernel_rfl) ?_ _
        obtain ⟨hbc, _, _, hsx⟩ := hHeld
        have hz3 : backR wl wc0 u20 ((X.take i).filter (passB m)) := ⟨own_below HZ.out.1 hbc, HZ.out.2.trans (hbc.mono HZ.out.2.size)⟩
        obtain ⟨va, vc, hva⟩ := own_form hz3.1
        subst hva
        obtain ⟨i0, hi0, hz0, hz1, hz2'⟩ := info_parts info39
        have hlen : ((X.take i).filter (passB m)).length ≤ 1000 := by
          have h1 := List.length_filter_le (passB m) (X.take i)
          rw [List.length_take] at h1
          have := Hn.out
          omega
        have hown := Lib.hid (own_below hz3.1 ((Below.refl _ _).alloc (Nat.le_refl _) (.cells (cellsC ⟨xi, xb, xs', xt, xa, xr⟩) 39)))
        have hbs := Lib.hid hz3.2.size
        have hnc := Lib.hid (fun W => new_cells W ⟨xi, xb, xs', xt, xa, xr⟩)
        have hco := Lib.hid (cells_one ⟨xi, xb, xs', xt, xa, xr⟩)
        have GZ3 := Lib.hid hz3
        unfold cellsC at hown hnc hco
        simp only at hown hnc hco
        obtain ⟨p0, p1, p2, p3, p4, p5⟩ := hsx
        clear hbc hz3 FF gx clq HZ hq
        go_wp2_with (at_builtin; refine wpList_append_own _ rfl _ _ 30 rfl wl.heap.size 39 i0 (.agg (cellsC noC)) 6 72 Try.underlying30 hi0 hz0 hz1 hz2' rfl (by decide) _ _ _ rfl hown.out ⟨_, 0, none⟩ 1 1 _ rfl rfl (hnc.out _) hco.out ?c3T ?c4T ?c5T ?_)
        case c3T => unfold maxLen; omega
        case c4T => omega
        case c5T => have h5 : wl.heap.size ≤ wc0.heap.size := hbs.out; simp; omega
        intro v' w' hown' hgr' hne'
        have hz4 := back_app (y := ⟨xi, xb, xs', xt, xa, xr⟩) (X := .cells (cellsC ⟨xi, xb, xs', xt, xa, xr⟩) 39) GZ3.out hown' hgr'
        rw [← HFT.out] at hz4
        have HZ4 := Lib.hid hz4
        clear hz4 hown' hgr' hne' GZ3 hown HFT hnc hco
        go_wp2
        go_roundw
        case rel => exact ⟨i + 1, by go_num, hin, HZ4⟩
        case measure => simp [intOf]; omega
      | false =>
        have hq : passB m ⟨xi, xb, xs', xt, xa, xr⟩ = false := by unfold passB; rw [hbg, hls]; rfl
        rw [hq, if_neg (by simp), List.append_nil] at HFT
        unfold atC at hls
        rw [hls] at clq
        clear hls hbg
        refine wp_region_held_drew (S := (fun W => Below wr.heap.size wr W ∧ (W.cell? ⟨w.heap.size, 0, none⟩ = some (.int .i64 m.now) ∧ W.cell? ⟨w.heap.size, 1, none⟩ = some (.int .i64 m.score) ∧ W.cell? ⟨w.heap.size, 2, none⟩ = some (.int .i64 m.time) ∧ W.cell? ⟨w.heap.size, 3, none⟩ = some (.string (bs m.id)) ∧ W.cell? ⟨w.heap.size, 4, none⟩ = some (.bool false)) ∧ (W.cell? ⟨w6.heap.size + 1, 0, none⟩ = some (.string (bs m.id)) ∧ W.cell? ⟨w6.heap.size + 1, 1, none⟩ = some (.string ⟨#[]⟩) ∧ W.cell? ⟨w6.heap.size + 1, 2, none⟩ = some (.int .i64 m.score) ∧ W.cell? ⟨w6.heap.size + 1, 3, none⟩ = some (.int .i64 m.time) ∧ W.cell? ⟨w6.heap.size + 1, 4, none⟩ = some (.int .i64 0) ∧ W.cell? ⟨w6.heap.size + 1, 5, none⟩ = some (.string ⟨#[]⟩)) ∧ (W.cell? ⟨b, o + i * 6, none⟩ = some (.string (bs xi)) ∧ W.cell? ⟨b, o + i * 6 + 1, none⟩ = some (.string (bs xb)) ∧ W.cell? ⟨b, o + i * 6 + 2, none⟩ = some (.int .i64 xs') ∧ W.cell? ⟨b, o + i * 6 + 3, none⟩ = some (.int .i64 xt) ∧ W.cell? ⟨b, o + i * 6 + 4, none⟩ = some (.int .i64 xa) ∧ W.cell? ⟨b, o + i * 6 + 5, none⟩ = some (.string (bs xr))))) (by kernel_rfl) (⟨(Below.refl _ _).drew, FF.out _ (Below.refl _ _).drew⟩) (fun hHeld => ?_)
        refine wpAnyH_take (i := 0) (oi := { dst := some 125, op := Go.Op.fieldAddr 23 (Go.Operand.tmp 5) 4, type := 0, pos := "law.go:182", after := #[], guard := none }) (v := ?vF0) rfl (by kernel_rfl) (by kernel_rfl) (by kernel_rfl) (fun _ _ _ h => h) (Or.inl ⟨by rfl, ?yF0⟩) (by assumption) ?_
        case yF0 => (intro wX hSw; (try dsimp only at hSw); go_simp <;> with_reducible rfl)
        try simp only [Act.put, List.setIfInBounds_toArray, List.set_cons_zero, List.set_cons_succ]
        refine wpAnyH_take (i := 1) (oi := { dst := some 126, op := Go.Op.load 4 (Go.Operand.tmp 125), type := 4, pos := "law.go:182", after := #[{ on := 0, ground := Go.Ground.data }], guard := none }) (v := ?vF1) rfl (by kernel_rfl) (by kernel_rfl) (by kernel_rfl) (fun _ _ _ h => h) (Or.inl ⟨by rfl, ?yF1⟩) (by assumption) ?_
        case yF1 => (intro wX hSw; (try dsimp only at hSw); go_simp <;> with_reducible rfl)
        try simp only [Act.put, List.setIfInBounds_toArray, List.set_cons_zero, List.set_cons_succ]
        refine wpAnyH_take (i := 2) (oi := { dst := some 127, op := Go.Op.move (Go.Operand.tmp 126), type := 4, pos := "law.go:182", after := #[{ on := 1, ground := Go.Ground.data }], guard := none }) (v := ?vF2) rfl (by kernel_rfl) (by kernel_rfl) (by kernel_rfl) (fun _ _ _ h => h) (Or.inl ⟨by rfl, ?yF2⟩) (by assumption) ?_
        case yF2 => (intro wX hSw; (try dsimp only at hSw); go_simp <;> with_reducible rfl)
        try simp only [Act.put, List.setIfInBounds_toArray, List.set_cons_zero, List.set_cons_succ]
        refine wpAnyH_take (i := 3) (oi := { dst := some 128, op := Go.Op.load 39 (Go.Operand.tmp 19), type := 39, pos := "law.go:182", after := #[{ on := 2, ground := Go.Ground.guard }], guard := some (2, false) }) (v := ?vF3) rfl (by kernel_rfl) (by kernel_rfl) (by kernel_rfl) (fun _ _ _ h => h) (Or.inl ⟨by rfl, ?yF3⟩) (by assumption) ?_
        case yF3 => (intro wX hSw; (try dsimp only at hSw); go_simp <;> with_reducible rfl)
        try simp only [Act.put, List.setIfInBounds_toArray, List.set_cons_zero, List.set_cons_succ]
        refine wpAnyH_take (i := 4) (oi := { dst := some 129, op := Go.Op.move (Go.Operand.tmp 0), type := 30, pos := "law.go:182", after := #[{ on := 2, ground := Go.Ground.guard }], guard := some (2, false) }) (v := ?vF4) rfl (by kernel_rfl) (by kernel_rfl) (by kernel_rfl) (fun _ _ _ h => h) (Or.inl ⟨by rfl, ?yF4⟩) (by assumption) ?_
        case yF4 => (intro wX hSw; (try dsimp only at hSw); go_simp <;> with_reducible rfl)
        try simp only [Act.put, List.setIfInBounds_toArray, List.set_cons_zero, List.set_cons_succ]
        refine wpAnyH_take (i := 5) (oi := { dst := some 130, op := Go.Op.move (Go.Operand.tmp 21), type := 3, pos := "law.go:182", after := #[{ on := 2, ground := Go.Ground.guard }], guard := some (2, false) }) (v := ?vF5) rfl (by kernel_rfl) (by kernel_rfl) (by kernel_rfl) (fun _ _ _ h => h) (Or.inl ⟨by rfl, ?yF5⟩) (by assumption) ?_
        case yF5 => (intro wX hSw; (try dsimp only at hSw); go_simp <;> with_reducible rfl)
        try simp only [Act.put, List.setIfInBounds_toArray, List.set_cons_zero, List.set_cons_succ]
        refine wpAnyH_take (i := 6) (oi := { dst := some 131, op := Go.Op.indexAddr 30 (Go.Operand.tmp 129) (Go.Operand.tmp 130), type := 0, pos := "law.go:182", after := #[{ on := 4, ground := Go.Ground.data }, { on := 5, ground := Go.Ground.data }, { on := 2, ground := Go.Ground.guard }], guard := some (2, false) }) (v := ?vF6) rfl (by kernel_rfl) (by kernel_rfl) (by kernel_rfl) (fun _ _ _ h => h) (Or.inl ⟨by rfl, ?yF6⟩) (by assumption) ?_
        case yF6 => (intro wX hSw; (try dsimp only at hSw); go_simp <;> with_reducible rfl)
        try simp only [Act.put, List.setIfInBounds_toArray, List.set_cons_zero, List.set_cons_succ]
        refine wpAnyH_take (i := 7) (oi := { dst := some 132, op := Go.Op.load 39 (Go.Operand.tmp 131), type := 39, pos := "law.go:182", after := #[{ on := 6, ground := Go.Ground.data }, { on := 2, ground := Go.Ground.guard }], guard := some (2, false) }) (v := ?vF7) rfl (by kernel_rfl) (by kernel_rfl) (by kernel_rfl) (fun _ _ _ h => h) (Or.inl ⟨by rfl, ?yF7⟩) (by assumption) ?_
        case yF7 => (intro wX hSw; (try dsimp only at hSw); go_simp <;> with_reducible rfl)
        try simp only [Act.put, List.setIfInBounds_toArray, List.set_cons_zero, List.set_cons_succ]
        refine wpAnyH_ready (rs := [8]) (by kernel_rfl) (by simp) (AllReadyH.cons (o := { dst := some 133, op := Go.Op.call { callee := Go.Callee.value (Go.Operand.func 17), args := #[Go.Operand.tmp 128, Go.Operand.tmp 132], argTypes := #[39, 39] }, type := 4, pos := "law.go:182", after := #[{ on := 3, ground := Go.Ground.data }, { on := 7, ground := Go.Ground.data }, { on := 2, ground := Go.Ground.chain }, { on := 2, ground := Go.Ground.guard }], guard := some (2, false) }) rfl (fun K hK => ?_) AllReadyH.nil)
        (go_simp; go_at_call 17; refine (clq _).mono ?_; rintro e wc0 ⟨rfl, hbc0⟩)
        refine hK.out _ _ (⟨((Below.refl wr.heap.size wr).drew).trans (hbc0.mono ((Below.refl wr.heap.size wr).drew).size), FF.out _ (((Below.refl wr.heap.size wr).drew).trans (hbc0.mono ((Below.refl wr.heap.size wr).drew).size))⟩) (fun hHeld => ?_)
        clear hK K
        try simp only [Act.put, List.setIfInBounds_toArray, List.set_cons_zero, List.set_cons_succ]
        refine wpAnyH_take (i := 9) (oi := { dst := some 134, op := Go.Op.pick (Go.Operand.tmp 127) (Go.Operand.const (Go.Value.bool true)) (Go.Operand.tmp 133), type := 4, pos := "law.go:182", after := #[{ on := 2, ground := Go.Ground.data }, { on := 8, ground := Go.Ground.data }], guard := none }) (v := ?vF9) rfl (by kernel_rfl) (by kernel_rfl) (by kernel_rfl) (fun _ _ _ h => h) (Or.inl ⟨by rfl, ?yF9⟩) (by assumption) ?_
        case yF9 => (intro wX hSw; (try dsimp only at hSw); go_simp <;> with_reducible rfl)
        try simp only [Act.put, List.setIfInBounds_toArray, List.set_cons_zero, List.set_cons_succ]
        refine wpAnyH_done (by kernel_rfl) ?_ _
        have HN : Hid (backR wl wc0 u20 ((X.take (i + 1)).filter (passB m))) := by
          rw [Hid, HFT.out]
          exact ⟨own_below HZ.out.1 hHeld.1, HZ.out.2.trans (hHeld.1.mono HZ.out.2.size)⟩
        clear FF gx clq HZ HFT
        go_wp2
        go_roundw
        case rel => exact ⟨i + 1, by go_num, hin, HN⟩
        case measure => simp [intOf]; omega
  have di : decide ((i : Int) < (n : Int)) = false := decide_eq_false (by omega)
  have diN : decide (i < n) = false := decide_eq_false hin
  have hzz := hz.out
  rw [List.take_of_length_le (by have := HX.out; omega), HF.out] at hzz
  have hbx := hzz.2
  replace M5 := Lib.hid (keep_blkP hbx M5.out)
  replace M11 := Lib.hid (keep_blkP hbx M11.out)
  replace M14 := Lib.hid (keep_blkP hbx M14.out)
  replace M17 := Lib.hid (keep_blkP hbx M17.out)
  replace HL := Lib.hid (HL.out.below hbx)
  replace RX := Lib.hid (RX.out.below hbx)
  replace RY := Lib.hid (RY.out.below hbx)
  replace RZ := Lib.hid (RZ.out.below hbx)
  replace HB := Lib.hid (HB.out.trans (hbx.mono HB.out.size))
  obtain ⟨Ar, Cr, rfl, hrr, _⟩ := cin_own rfl hzz.1
  clear hzz hbx hz
  obtain ⟨p0, p1, p2, p3, p4⟩ := fiveM (k := m) M5.out
  go_wp2_with fail
  refine (cD _ _ _ hrr.crow).mono ?_
  rintro e w7 ⟨Aw, Cw, rfl, hc, hzw, hbx⟩
  clear p0 p1 p2 p3 p4
  replace M5 := Lib.hid (keep_blkP hbx M5.out)
  replace M11 := Lib.hid (keep_blkP hbx M11.out)
  replace M14 := Lib.hid (keep_blkP hbx M14.out)
  replace M17 := Lib.hid (keep_blkP hbx M17.out)
  replace HL := Lib.hid (HL.out.below hbx)
  replace RX := Lib.hid (RX.out.below hbx)
  replace RY := Lib.hid (RY.out.below hbx)
  replace RZ := Lib.hid (RZ.out.below hbx)
  replace HB := Lib.hid (HB.out.trans (hbx.mono HB.out.size))
  have RW := Lib.hid hc
  clear hbx hc cD hrr
  have M23 := Lib.hid (heap_alloc_new w7 (.cells #[.int .i64 kp.now, .int .i64 kp.score, .int .i64 kp.time, .string (bs kp.id), .bool kp.beg] 23))
  replace M5 := Lib.hid ((Below.heap_alloc _ (.cells #[.int .i64 kp.now, .int .i64 kp.score, .int .i64 kp.time, .string (bs kp.id), .bool kp.beg] 23) _ (lt_of_heap M5.out)).trans M5.out)
  replace M11 := Lib.hid ((Below.heap_alloc _ (.cells #[.int .i64 kp.now, .int .i64 kp.score, .int .i64 kp.time, .string (bs kp.id), .bool kp.beg] 23) _ (lt_of_heap M11.out)).trans M11.out)
  replace M14 := Lib.hid ((Below.heap_alloc _ (.cells #[.int .i64 kp.now, .int .i64 kp.score, .int .i64 kp.time, .string (bs kp.id), .bool kp.beg] 23) _ (lt_of_heap M14.out)).trans M14.out)
  replace M17 := Lib.hid ((Below.heap_alloc _ (.cells #[.int .i64 kp.now, .int .i64 kp.score, .int .i64 kp.time, .string (bs kp.id), .bool kp.beg] 23) _ (lt_of_heap M17.out)).trans M17.out)
  replace HL := Lib.hid (HL.out.below ((Below.refl _ w7).alloc (Nat.le_refl _) (.cells #[.int .i64 kp.now, .int .i64 kp.score, .int .i64 kp.time, .string (bs kp.id), .bool kp.beg] 23)))
  replace RX := Lib.hid (RX.out.below ((Below.refl _ w7).alloc (Nat.le_refl _) (.cells #[.int .i64 kp.now, .int .i64 kp.score, .int .i64 kp.time, .string (bs kp.id), .bool kp.beg] 23)))
  replace RY := Lib.hid (RY.out.below ((Below.refl _ w7).alloc (Nat.le_refl _) (.cells #[.int .i64 kp.now, .int .i64 kp.score, .int .i64 kp.time, .string (bs kp.id), .bool kp.beg] 23)))
  replace RZ := Lib.hid (RZ.out.below ((Below.refl _ w7).alloc (Nat.le_refl _) (.cells #[.int .i64 kp.now, .int .i64 kp.score, .int .i64 kp.time, .string (bs kp.id), .bool kp.beg] 23)))
  replace RW := Lib.hid (RW.out.below ((Below.refl _ w7).alloc (Nat.le_refl _) (.cells #[.int .i64 kp.now, .int .i64 kp.score, .int .i64 kp.time, .string (bs kp.id), .bool kp.beg] 23)))
  replace HB := Lib.hid (HB.out.alloc HB.out.size (.cells #[.int .i64 kp.now, .int .i64 kp.score, .int .i64 kp.time, .string (bs kp.id), .bool kp.beg] 23))
  have hw8 : True := trivial
  obtain ⟨bx, rfl, hxr⟩ := RX.out.row (by have := HXN.out; have : xs.length ≠ 0 := fun h => this (List.eq_nil_of_length_eq_zero h); omega)
  obtain ⟨i0, hi0, hz0, hz1, hz2'⟩ := info_parts info39
  have hxl : xs.length ≤ 100 := by have h1 := congrArg List.length HZX.out; rw [List.length_append] at h1; have := HZl.out; omega
  have hyl : xs.length + ys.length = zs.length := by rw [HZX.out, List.length_append]
  have hfr0 : ((w7.alloc (.cells #[.int .i64 kp.now, .int .i64 kp.score, .int .i64 kp.time, .string (bs kp.id), .bool kp.beg] 23)).alloc (.cells #[] 39)).ownsRow (w7.alloc (.cells #[.int .i64 kp.now, .int .i64 kp.score, .int .i64 kp.time, .string (bs kp.id), .bool kp.beg] 23)).heap.size 39 6 (.slice (some ⟨(w7.alloc (.cells #[.int .i64 kp.now, .int .i64 kp.score, .int .i64 kp.time, .string (bs kp.id), .bool kp.beg] 23)).heap.size, 0, none⟩) 0 0) 0 [] :=
    ⟨by simp, .inr ⟨(w7.alloc (.cells #[.int .i64 kp.now, .int .i64 kp.score, .int .i64 kp.time, .string (bs kp.id), .bool kp.beg] 23)).heap.size, 0, #[], rfl, Nat.le_refl _, heap_alloc_new (w7.alloc (.cells #[.int .i64 kp.now, .int .i64 kp.score, .int .i64 kp.time, .string (bs kp.id), .bool kp.beg] 23)) _, by simp, by unfold maxLen; omega, by simp, by simp⟩⟩
  rw [World.size_alloc w7] at hfr0
  have hfr := Lib.hid hfr0
  clear hfr0
  have hbe := (Below.refl (w7.alloc (.cells #[.int .i64 kp.now, .int .i64 kp.score, .int .i64 kp.time, .string (bs kp.id), .bool kp.beg] 23)).heap.size (w7.alloc (.cells #[.int .i64 kp.now, .int .i64 kp.score, .int .i64 kp.time, .string (bs kp.id), .bool kp.beg] 23))).alloc (Nat.le_refl _) (.cells #[] 39)
  have hnx := crow_cells (hxr.below hbe)
  have HBE := Lib.hid hbe
  have HNX := Lib.hid hnx
  have HYL := Lib.hid hyl
  clear hbe hnx hxr hyl hw8
  go_wp2_with (at_builtin; go_loud (refine wpList_append_own _ rfl _ _ 30 rfl (w7.heap.size + 1) 39 i0 (.agg (cellsC noC)) 6 72 Try.underlying30 hi0 hz0 hz1 hz2' rfl (by decide) _ _ _ rfl hfr.out ⟨bx, 0, none⟩ xs.length CRX (cardCells xs) rfl (cardCells_length xs) HNX.out (cards_one' xs) ?e3 ?e4 ?e5 ?_))
  case e3 => unfold maxLen; omega
  case e4 => omega
  case e5 => simp
  intro v1 w9 hown1 hgr1 hne1
  have hb9 : Below (w7.alloc (.cells #[.int .i64 kp.now, .int .i64 kp.score, .int .i64 kp.time, .string (bs kp.id), .bool kp.beg] 23)).heap.size (w7.alloc (.cells #[.int .i64 kp.now, .int .i64 kp.score, .int .i64 kp.time, .string (bs kp.id), .bool kp.beg] 23)) w9 := HBE.out.grown hgr1 (by simp) (fun x hx => by have := (hfr.out.lt x hx).1; rw [World.size_alloc]; exact this)
  have hboth : ∀ (v : Value) (w' : World), w'.ownsRow (w7.heap.size + 1) 39 6 v zs.length (cardCells zs) → ∃ Ab Cb, v = .slice Ab zs.length Cb ∧ CRow w' Ab zs := fun v w' h => by
    obtain ⟨Ab, Cb, e1, e2, _⟩ := cin_own rfl h
    exact ⟨Ab, Cb, e1, e2.crow⟩
  have HBOTH := Lib.hid hboth
  have Hb9 := Lib.hid hb9
  clear hboth hb9 HBE HNX hfr hgr1 hne1
  (try simp only [Nat.zero_add, List.nil_append] at hown1)
  have qk : ∀ W, (binOp .eql 23 (.agg #[.int .i64 kp.now, .int .i64 kp.score, .int .i64 kp.time, .string (bs kp.id), .bool kp.beg]) (.agg #[.int .i64 kp.now, .int .i64 kp.score, .int .i64 kp.time, .string (bs kp.id), .bool kp.beg])).run Try.prog W = .ok (.bool true) W := fun W => by
    have := eql_marks kp kp W
    rw [decide_eq_true rfl] at this
    exact this
  have qm : ∀ W, (binOp .eql 4 (.bool mo) (.bool mo)).run Try.prog W = .ok (.bool true) W := fun W => by cases mo <;> rfl
  have csm := fun A1 A2 C1 C2 W h1 h2 => same_any zs zs.length A1 A2 C1 C2 W rfl (by have := HZl.out; omega) h1 h2
  obtain ⟨va, vc, hva⟩ := own_form hown1
  subst hva
  have HO := Lib.hid hown1
  clear hown1
  rcases RY.out with ⟨g1, g2⟩ | ⟨bY, rfl, hyr⟩
  · have hC0 := hzRY g1
    subst g1 g2
    subst hC0
    have hzz : zs = xs := by rw [HZX.out, List.append_nil]
    clear HZX HYL
    subst hzz
    obtain ⟨Ab, Cb, e1, e2⟩ := HBOTH.out _ _ HO.out
    simp only [Value.slice.injEq] at e1
    obtain ⟨rfl, _, rfl⟩ := e1
    have hbx := Hb9.out
    replace M5 := Lib.hid (keep_blkP hbx M5.out)
    replace M11 := Lib.hid (keep_blkP hbx M11.out)
    replace M14 := Lib.hid (keep_blkP hbx M14.out)
    replace M17 := Lib.hid (keep_blkP hbx M17.out)
    replace M23 := Lib.hid (keep_blkP hbx M23.out)
    replace HL := Lib.hid (HL.out.below hbx)
    replace RX := Lib.hid (RX.out.below hbx)
    replace RY := Lib.hid (RY.out.below hbx)
    replace RZ := Lib.hid (RZ.out.below hbx)
    replace RW := Lib.hid (RW.out.below hbx)
    replace HB := Lib.hid (HB.out.trans (hbx.mono HB.out.size))
    have HE := Lib.hid e2
    clear hbx e2
    go_wp2_with (at_builtin; refine wpList_append_own_none rfl _ _ 30 rfl (w7.heap.size + 1) 39 i0 6 Try.underlying30 hi0 _ _ _ rfl HO.out rfl ?_)
    refine (csm va ARZ vc CRZ _ HE.out RZ.out.crow).mono ?_
    rintro e w10 ⟨rfl, hbx⟩
    replace M5 := Lib.hid (keep_blkP hbx M5.out)
    replace M11 := Lib.hid (keep_blkP hbx M11.out)
    replace M14 := Lib.hid (keep_blkP hbx M14.out)
    replace M17 := Lib.hid (keep_blkP hbx M17.out)
    replace M23 := Lib.hid (keep_blkP hbx M23.out)
    replace HL := Lib.hid (HL.out.below hbx)
    replace RX := Lib.hid (RX.out.below hbx)
    replace RY := Lib.hid (RY.out.below hbx)
    replace RZ := Lib.hid (RZ.out.below hbx)
    replace RW := Lib.hid (RW.out.below hbx)
    replace HB := Lib.hid (HB.out.trans (hbx.mono HB.out.size))
    clear hbx HE HO
    obtain ⟨p0, p1, p2, p3, p4⟩ := fiveM (k := kp) M14.out
    obtain ⟨q0, q1, q2, q3, q4⟩ := fiveM (k := kp) M17.out
    go_wp2_with fail
    refine (csm Aw ARZ Cw CRZ _ RW.out.crow RZ.out.crow).mono ?_
    rintro e w11 ⟨rfl, hbx⟩
    clear p0 p1 p2 p3 p4 q0 q1 q2 q3 q4
    replace M5 := Lib.hid (keep_blkP hbx M5.out)
    replace M11 := Lib.hid (keep_blkP hbx M11.out)
    replace M14 := Lib.hid (keep_blkP hbx M14.out)
    replace M17 := Lib.hid (keep_blkP hbx M17.out)
    replace M23 := Lib.hid (keep_blkP hbx M23.out)
    replace HL := Lib.hid (HL.out.below hbx)
    replace RX := Lib.hid (RX.out.below hbx)
    replace RY := Lib.hid (RY.out.below hbx)
    replace RZ := Lib.hid (RZ.out.below hbx)
    replace RW := Lib.hid (RW.out.below hbx)
    replace HB := Lib.hid (HB.out.trans (hbx.mono HB.out.size))
    clear hbx
    obtain ⟨p0, p1, p2, p3, p4⟩ := fiveM (k := kp) M23.out
    obtain ⟨q0, q1, q2, q3, q4⟩ := fiveM (k := kp) M17.out
    go_wp2
    go_ret
    exact ⟨rfl, HB.out⟩
  · have HNY := Lib.hid (crow_cells (hyr.below Hb9.out))
    clear hyr
    go_wp2_with (at_builtin; go_loud (refine wpList_append_own _ rfl _ _ 30 rfl (w7.heap.size + 1) 39 i0 (.agg (cellsC noC)) 6 72 Try.underlying30 hi0 hz0 hz1 hz2' rfl (by decide) _ _ _ rfl HO.out ⟨bY, 0, none⟩ ys.length CRY (cardCells ys) rfl (cardCells_length ys) HNY.out (cards_one' ys) ?h3 ?h4 ?h5 ?_))
    case h3 => unfold maxLen; have := HYL.out; have := HZl.out; omega
    case h4 => have := HYL.out; have := HZl.out; omega
    case h5 => have := Hb9.out.size; rw [World.size_alloc] at this; exact this
    intro v2 w10 hown2 hgr2 hne2
    have hown3 : w10.ownsRow (w7.heap.size + 1) 39 6 v2 zs.length (cardCells zs) := by
      rw [HZX.out, List.length_append, cardCells_app]
      exact hown2
    have hb10 : Below (w7.heap.size + 1) w9 w10 := (Below.refl _ w9).grown hgr2 (by have := Hb9.out.size; rw [World.size_alloc] at this; exact this) (fun x hx => (HO.out.lt x hx).1)
    obtain ⟨Ab, Cb, rfl, e2⟩ := HBOTH.out _ _ hown3
    have hbx := Hb9.out.trans (hb10.mono (by rw [World.size_alloc]; exact Nat.le_refl _))
    replace M5 := Lib.hid (keep_blkP hbx M5.out)
    replace M11 := Lib.hid (keep_blkP hbx M11.out)
    replace M14 := Lib.hid (keep_blkP hbx M14.out)
    replace M17 := Lib.hid (keep_blkP hbx M17.out)
    replace M23 := Lib.hid (keep_blkP hbx M23.out)
    replace HL := Lib.hid (HL.out.below hbx)
    replace RX := Lib.hid (RX.out.below hbx)
    replace RY := Lib.hid (RY.out.below hbx)
    replace RZ := Lib.hid (RZ.out.below hbx)
    replace RW := Lib.hid (RW.out.below hbx)
    replace HB := Lib.hid (HB.out.trans (hbx.mono HB.out.size))
    have HE := Lib.hid e2
    clear hbx e2 hown2 hown3 hgr2 hne2 hb10 HO HNY
    go_wp2_with fail
    refine (csm Ab ARZ Cb CRZ _ HE.out RZ.out.crow).mono ?_
    rintro e w11 ⟨rfl, hbx⟩
    replace M5 := Lib.hid (keep_blkP hbx M5.out)
    replace M11 := Lib.hid (keep_blkP hbx M11.out)
    replace M14 := Lib.hid (keep_blkP hbx M14.out)
    replace M17 := Lib.hid (keep_blkP hbx M17.out)
    replace M23 := Lib.hid (keep_blkP hbx M23.out)
    replace HL := Lib.hid (HL.out.below hbx)
    replace RX := Lib.hid (RX.out.below hbx)
    replace RY := Lib.hid (RY.out.below hbx)
    replace RZ := Lib.hid (RZ.out.below hbx)
    replace RW := Lib.hid (RW.out.below hbx)
    replace HB := Lib.hid (HB.out.trans (hbx.mono HB.out.size))
    clear hbx HE
    obtain ⟨p0, p1, p2, p3, p4⟩ := fiveM (k := kp) M14.out
    obtain ⟨q0, q1, q2, q3, q4⟩ := fiveM (k := kp) M17.out
    go_wp2_with fail
    refine (csm Aw ARZ Cw CRZ _ RW.out.crow RZ.out.crow).mono ?_
    rintro e w12 ⟨rfl, hbx⟩
    clear p0 p1 p2 p3 p4 q0 q1 q2 q3 q4
    replace M5 := Lib.hid (keep_blkP hbx M5.out)
    replace M11 := Lib.hid (keep_blkP hbx M11.out)
    replace M14 := Lib.hid (keep_blkP hbx M14.out)
    replace M17 := Lib.hid (keep_blkP hbx M17.out)
    replace M23 := Lib.hid (keep_blkP hbx M23.out)
    replace HL := Lib.hid (HL.out.below hbx)
    replace RX := Lib.hid (RX.out.below hbx)
    replace RY := Lib.hid (RY.out.below hbx)
    replace RZ := Lib.hid (RZ.out.below hbx)
    replace RW := Lib.hid (RW.out.below hbx)
    replace HB := Lib.hid (HB.out.trans (hbx.mono HB.out.size))
    clear hbx
    obtain ⟨p0, p1, p2, p3, p4⟩ := fiveM (k := kp) M23.out
    obtain ⟨q0, q1, q2, q3, q4⟩ := fiveM (k := kp) M17.out
    go_wp2
    go_ret
    exact ⟨rfl, HB.out⟩
theorem pparts_any (l : List Card) (A0 : Option Addr) (C0 : Nat) (m : Mk) (a b : Int) (w : World) (hl : CRow w A0 l) (hll : l.length ≤ 9223372036854775807) (ha : wf64 a) (hb : wf64 b) : Calls Try.prog 6 #[.slice A0 l.length C0, .agg (cellsM m), .int .i64 a, .int .i64 b] w (BoolPost w true) := by
  by_cases h0 : l.length ≤ 100
  · by_cases h1 : a < 1
    · exact parts_l1 l A0 C0 m a b w h0 h1
    by_cases h2 : b < 1
    · exact parts_l2 l A0 C0 m a b w h0 h1 h2
    by_cases h3 : 25 < a
    · exact parts_l3 l A0 C0 m a b w h0 h1 h2 h3
    by_cases h4 : 25 < b
    · exact parts_l4 l A0 C0 m a b w h0 h1 h2 h3 h4
    obtain ⟨qa, rfl⟩ : ∃ q : Nat, a = q := ⟨a.toNat, by omega⟩
    obtain ⟨qb, rfl⟩ : ∃ q : Nat, b = q := ⟨b.toNat, by omega⟩
    exact parts_main l A0 C0 m qa qb w h0 (by omega) (by omega) (by omega) (by omega) hl
  · exact parts_l0 l A0 C0 m a b w h0
end Go.Proofs.Ytemdecaiadkchaa
