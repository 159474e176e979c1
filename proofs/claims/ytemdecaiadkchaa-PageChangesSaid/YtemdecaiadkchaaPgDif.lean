/- different, and Sort, of any cards; sorting cards of different Ids. -/
import Derived.Test.YtemdecaiadkchaaPgSmall
namespace Go.Proofs.Ytemdecaiadkchaa
open Go.ChangeShapes Go.WideShapes Go.ChangeAt Go.RowKit Go.Lib
set_option linter.unusedVariables false

theorem CRow.cells {w : World} {b o : Nat} {l : List Card} (h : CRow w (some ⟨b, o, none⟩) l) {j : Nat} {i u : List UInt8} {s t a : Int} {r : List UInt8} (hj : l[j]? = some ⟨i, u, s, t, a, r⟩) :
    w.cell? ⟨b, o + j * 6, none⟩ = some (.string (bs i)) ∧ w.cell? ⟨b, o + j * 6 + 1, none⟩ = some (.string (bs u)) ∧ w.cell? ⟨b, o + j * 6 + 2, none⟩ = some (.int .i64 s) ∧ w.cell? ⟨b, o + j * 6 + 3, none⟩ = some (.int .i64 t) ∧ w.cell? ⟨b, o + j * 6 + 4, none⟩ = some (.int .i64 a) ∧ w.cell? ⟨b, o + j * 6 + 5, none⟩ = some (.string (bs r)) := by
  have hlt := (List.getElem?_eq_some_iff.1 hj).1
  obtain ⟨b', o', hA, hc⟩ := h (by omega)
  simp only [Option.some.injEq, Addr.mk.injEq] at hA
  obtain ⟨rfl, rfl, _⟩ := hA
  have g : ∀ (k : Nat) v, k < 6 → (cellsC ⟨i, u, s, t, a, r⟩).toList[k]? = some v → w.cell? ⟨b, o + (j * 6 + k), none⟩ = some v := fun k v hk hv => hc _ v (by rw [cardCells_get l j k hk, hj]; exact hv)
  have g0 := g 0 _ (by omega) rfl
  have g1 := g 1 _ (by omega) rfl
  have g2 := g 2 _ (by omega) rfl
  have g3 := g 3 _ (by omega) rfl
  have g4 := g 4 _ (by omega) rfl
  have g5 := g 5 _ (by omega) rfl
  simp only [Nat.add_zero, ← Nat.add_assoc] at g0 g1 g2 g3 g4 g5
  exact ⟨g0, g1, g2, g3, g4, g5⟩
def Dif (l : List Card) : Prop := ∀ (i j : Nat) (x y : Card), j < i → l[i]? = some x → l[j]? = some y → x.id ≠ y.id
def DifP (w : World) (l : List Card) (e : Ending) (w' : World) : Prop := ∃ b : Bool, e = .returned (.bool b) ∧ (b = true → Dif l) ∧ Below w.heap.size w w'
set_option maxRecDepth 100000 in
set_option maxHeartbeats 2000000 in
theorem differ_some (l : List Card) (b o C : Nat) (w : World) (hn : l.length ≤ 1000000) (hl : CRow w (some ⟨b, o, none⟩) l) : Calls Try.prog 11 #[.slice (some ⟨b, o, none⟩) l.length C] w (DifP w l) := by
  have HL := Lib.hid hl
  clear hl
  go_enter Try.func11, Try.ntmps11
  go_wp2
  go_loopw [3] (fun v3 wr => ∃ i : Nat, v3 = .int .i64 i ∧ Hid (i ≤ l.length ∧ ∀ (i' j : Nat) (x y : Card), i' < i → j < i' → l[i']? = some x → l[j]? = some y → x.id ≠ y.id) ∧ Below w.heap.size w wr) (fun v _ => l.length - (intOf v).toNat)
  case atStart => exact ⟨0, rfl, ⟨Nat.zero_le _, fun i' j x y h => by omega⟩, Below.refl _ _⟩
  case round =>
    obtain ⟨i, rfl, hz, hb⟩ := hrel
    have hi := hz.out.1
    by_cases hlt : i < l.length
    · have dlt : decide ((i : Int) < (l.length : Int)) = true := decide_eq_true (by omega)
      have dltN : decide (i < l.length) = true := decide_eq_true hlt
      have hz2 := Lib.hid hz.out.2
      have HB := Lib.hid hb
      have wi : IntKind.i64.wrap ((i : Int) + 1) = (i : Int) + 1 := IntWalk.i64_in _ (by omega)
      have bi : (i : Int) < (l.length : Int) := by omega
      clear hz hb
      go_wp2
      obtain ⟨wo, hwo⟩ : ∃ wo : World, wo = wr := ⟨_, rfl⟩
      go_loopw [4] (fun v4 wr => ∃ j : Nat, v4 = .int .i64 j ∧ Hid (j ≤ i ∧ ∀ (j' : Nat) (x y : Card), j' < j → l[i]? = some x → l[j']? = some y → x.id ≠ y.id) ∧ Below w.heap.size w wr) (fun v _ => i - (intOf v).toNat)
      case atStart => exact ⟨0, rfl, ⟨Nat.zero_le _, fun j' x y h => by omega⟩, HB.out⟩
      case round =>
        clear hwo HB
        obtain ⟨j, rfl, hy, hb⟩ := hrel
        have hj := hy.out.1
        have hrow := HL.out.below hb
        by_cases hlt2 : j < i
        · have dj : decide ((j : Int) < (i : Int)) = true := decide_eq_true (by omega)
          have djN : decide (j < i) = true := decide_eq_true hlt2
          have wj : IntKind.i64.wrap ((j : Int) + 1) = (j : Int) + 1 := IntWalk.i64_in _ (by omega)
          have bj : (j : Int) < (l.length : Int) := by omega
          have bj' : j < l.length := by omega
          obtain ⟨⟨xi, xb, xs, xt, xa, xr⟩, hxi⟩ : ∃ x, l[i]? = some x := ⟨_, List.getElem?_eq_getElem hlt⟩
          obtain ⟨⟨yi, yb, ys, yt, ya, yr⟩, hyj⟩ : ∃ x, l[j]? = some x := ⟨_, List.getElem?_eq_getElem bj'⟩
          have p0 := (hrow.cells hxi).1
          have q0 := (hrow.cells hyj).1
          have HB := Lib.hid hb
          have HX := Lib.hid hxi
          have HY := Lib.hid hyj
          have tx := bs_toList xi
          have ty := bs_toList yi
          clear hb hrow hxi hyj
          by_cases he : xi = yi
          · subst he
            go_wp2
            go_quiet (fail)
            go_wp2
            go_ret
            exact ⟨false, rfl, fun h => (by cases h), below_drewN HB.out _⟩
          · have te : (xi == yi) = false := beq_eq_false_iff_ne.2 he
            have te2 : ((bs xi).toList == (bs yi).toList) = false := by rw [bs_toList, bs_toList]; exact te
            have HN : Hid (j + 1 ≤ i ∧ ∀ (j' : Nat) (x y : Card), j' < j + 1 → l[i]? = some x → l[j']? = some y → x.id ≠ y.id) := by
              refine ⟨by omega, fun j' x y h1 h2 h3 => ?_⟩
              by_cases e : j' = j
              · subst e
                rw [HX.out] at h2
                rw [HY.out] at h3
                obtain rfl := Option.some.inj h2
                obtain rfl := Option.some.inj h3
                exact he
              · exact hy.out.2 j' x y (by omega) h2 h3
            clear he
            go_wp2
            go_quiet (fail)
            go_wp2
            go_roundw
            case rel => exact ⟨j + 1, by go_num, HN, below_drewN HB.out _⟩
            case measure => simp [intOf]; omega
        · have dj : decide ((j : Int) < (i : Int)) = false := decide_eq_false (by omega)
          have djN : decide (j < i) = false := decide_eq_false hlt2
          have HN : Hid (i + 1 ≤ l.length ∧ ∀ (i' j : Nat) (x y : Card), i' < i + 1 → j < i' → l[i']? = some x → l[j]? = some y → x.id ≠ y.id) := by
            refine ⟨by omega, fun i' j' x y h0 h1 h2 h3 => ?_⟩
            by_cases e : i' = i
            · subst e
              exact hy.out.2 j' x y (by omega) h2 h3
            · exact hz2.out i' j' x y (by omega) h1 h2 h3
          clear hrow
          go_wp2
          go_roundw
          case rel => exact ⟨i + 1, by go_num, HN, hb⟩
          case measure => simp [intOf]; omega
    · have dlt : decide ((i : Int) < (l.length : Int)) = false := decide_eq_false (by omega)
      have dltN : decide (i < l.length) = false := decide_eq_false hlt
      have hd : Dif l := fun i' j x y h1 h2 h3 => hz.out.2 i' j x y (by have := (List.getElem?_eq_some_iff.1 h2).1; omega) h1 h2 h3
      have HN := Lib.hid hd
      clear hz hd
      go_wp2
      go_ret
      exact ⟨true, rfl, fun _ => HN.out, hb⟩
set_option maxRecDepth 100000 in
set_option maxHeartbeats 1000000 in
theorem clone_zero (a : Addr) (C : Nat) (w : World) : Calls Try.prog 27 #[.slice (some a) 0 C] w (fun e w' => ∃ g c, e = .returned (.slice g 0 c) ∧ Below w.heap.size w w') := by
  obtain ⟨i0, hi, hz0, hz1, hz2⟩ := info_parts infoCard2
  have hnil : ∀ W, (binOp .eql 30 (.slice (some a) 0 C) (.slice none 0 0)).run Try.prog W = .ok (.bool false) W := fun W => Lib.run_eql_slice_nil W 30 39 (some a) 0 C 0 0 Try.underlying30
  have hfr : Hid ((w.alloc (.cells #[] 39)).ownsRow w.heap.size 39 6 (.slice (some ⟨w.heap.size, 0, none⟩) 0 0) 0 []) :=
    ⟨by simp, .inr ⟨w.heap.size, 0, #[], rfl, Nat.le_refl _, heap_alloc_new w _, by simp, by unfold maxLen; omega, by simp, by simp⟩⟩
  go_enter Try.func27, Try.ntmps27
  go_wp2_with (at_builtin; refine wpList_append_own _ rfl _ _ 30 rfl w.heap.size 39 i0 (.agg (cellsC noC)) 6 72 Try.underlying30 hi hz0 hz1 hz2 rfl (by decide) _ _ _ rfl hfr.out a 0 C [] rfl rfl (fun j u h => by simp at h) (fun u h => by simp at h) ?c3 ?c4 ?c5 ?_)
  case c3 => unfold maxLen; omega
  case c4 => omega
  case c5 => simp
  intro v' w' hown hgr hne
  have hbel : Below w.heap.size w w' := ((Below.refl _ _).alloc (Nat.le_refl _) _).grown hgr (by simp) (fun x hx => (hfr.out.lt x hx).1)
  try simp only [Nat.zero_add, List.nil_append] at hown
  obtain ⟨A, c, rfl⟩ : ∃ A c, v' = .slice A 0 c := by
    rcases hown.2 with ⟨h1, h0⟩ | ⟨g, cap, cur, hv, _⟩
    · exact ⟨none, 0, h1⟩
    · exact ⟨_, cap, hv⟩
  go_wp2
  go_ret
  exact ⟨A, c, rfl, hbel⟩
def ZeroP (w : World) (e : Ending) (w' : World) : Prop := ∃ A C, e = .returned (.slice A 0 C) ∧ Below w.heap.size w w'
theorem sort_zero (A : Option Addr) (C : Nat) (w : World) : Calls Try.prog 12 #[.slice A 0 C] w (ZeroP w) := by
  cases A with
  | none => exact (sort_none C w).mono fun e w' ⟨A, C, h1, _, h3⟩ => ⟨A, C, h1, h3⟩
  | some a =>
    have c1 := clone_zero a C w
    have c2 := fun A C W => sortfn_nil A C W
    go_enter Try.func12, Try.ntmps12
    go_wp2_with fail
    refine c1.mono ?_
    rintro e w1 ⟨A, c, rfl, hb1⟩
    go_wp2_with fail
    refine (c2 _ _ _).mono ?_
    rintro e w2 ⟨rfl, hb2⟩
    have hb := hb1.trans (hb2.mono hb1.size)
    go_wp2
    go_ret
    exact ⟨A, c, rfl, hb⟩
theorem differ_zero (A : Option Addr) (C : Nat) (w : World) : Calls Try.prog 11 #[.slice A 0 C] w (BoolPost w true) := by
  go_enter Try.func11, Try.ntmps11
  go_wp2
  go_loopw [3] (fun v3 wr => v3 = .int .i64 0 ∧ wr = w) (fun _ _ => 0)
  case atStart => exact ⟨rfl, rfl⟩
  case round =>
    obtain ⟨rfl, rfl⟩ := hrel
    go_wp2
    go_ret
    exact ⟨rfl, Below.refl _ _⟩
theorem sort_again (l : List Card) : sortS (sortS l) = sortS l := (SS.is (l := sortS l) (r := sortS l) ⟨(sort_SS l).1, fun _ => rfl⟩).symm
theorem eqk_id {c x : Card} (h : eqk c x = true) : x.id = c.id := by
  obtain ⟨h1, h2⟩ := (eqk_iff c x).1 h
  exact ((less_eq c x).1 ⟨h1, h2⟩).2.2.symm
theorem dif_one {l : List Card} (h : Dif l) (c : Card) : (l.filter (eqk c)).length ≤ 1 := by
  have hp : l.Pairwise (fun x y => x.id ≠ y.id) := List.pairwise_iff_getElem.2 fun i j hi hj hij => (h j i _ _ hij (List.getElem?_eq_getElem hj) (List.getElem?_eq_getElem hi)).symm
  have hf := hp.filter (eqk c)
  have hm : ∀ x, x ∈ l.filter (eqk c) → eqk c x = true := fun x hx => (List.mem_filter.1 hx).2
  generalize l.filter (eqk c) = F at *
  match F with
  | [] => simp
  | [x] => simp
  | x :: y :: r =>
    exfalso
    have h1 := (List.pairwise_cons.1 hf).1 y (by simp)
    exact h1 ((eqk_id (hm x (by simp))).trans (eqk_id (hm y (by simp))).symm)
theorem rev_one {l : List Card} (h : l.length ≤ 1) : l.reverse = l := by
  match l with
  | [] => rfl
  | [x] => rfl
  | x :: y :: r => simp at h
theorem dif_back {l : List Card} (h : Dif l) : sortS l.reverse = sortS l :=
  (SS.is (l := l.reverse) (r := sortS l) ⟨(sort_SS l).1, fun c => by rw [(sort_SS l).2 c, List.filter_reverse, rev_one (dif_one h c)]⟩).symm
theorem dif_less {l : List Card} (h : Dif l) {i : Nat} {x y : Card} (hx : (sortS l)[i]? = some x) (hy : (sortS l)[i + 1]? = some y) : lessC x y = true := by
  cases e : lessC x y with
  | true => rfl
  | false =>
    exfalso
    have h1 : lessC y x = false := srt_get (sort_SS l).1 hx hy (by omega)
    have h2 := dif_one h x
    rw [← (sort_SS l).2 x] at h2
    obtain ⟨hi, rfl⟩ := List.getElem?_eq_some_iff.1 hx
    obtain ⟨hj, rfl⟩ := List.getElem?_eq_some_iff.1 hy
    have hs : sortS l = (sortS l).take i ++ ((sortS l)[i] :: (sortS l)[i + 1] :: (sortS l).drop (i + 2)) := by
      rw [← List.drop_eq_getElem_cons, ← List.drop_eq_getElem_cons, List.take_append_drop]
    have k1 : eqk (sortS l)[i] (sortS l)[i] = true := eqk_self _
    have k2 : eqk (sortS l)[i] (sortS l)[i + 1] = true := (eqk_iff _ _).2 ⟨e, h1⟩
    generalize (sortS l)[i] = x at *
    generalize (sortS l)[i + 1] = y at *
    rw [hs, List.filter_append, List.filter_cons_of_pos k1, List.filter_cons_of_pos k2] at h2
    simp at h2
    omega
end Go.Proofs.Ytemdecaiadkchaa
