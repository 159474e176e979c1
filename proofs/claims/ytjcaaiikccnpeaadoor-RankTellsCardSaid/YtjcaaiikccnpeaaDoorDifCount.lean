/- differ and count, walked. -/
import Derived.Test.YtjcaaiikccnpeaaDoorSortA
import Derived.Test.YtjcaaiikccnpeaaDoorROrders
namespace Go.Proofs.YtjcaaiikccnpeaaDoor
open Go.ChangeShapes Go.WideShapes Go.ChangeAt Go.RowKit Go.Lib
set_option linter.unusedVariables false

theorem CRow.cells {w : World} {b o : Nat} {l : List Card} (h : CRow w (some ⟨b, o, none⟩) l) {j : Nat} {i u : List UInt8} {s t a : Int} {r : List UInt8} (hj : l[j]? = some ⟨i, u, s, t, a, r⟩) :
    w.cell? ⟨b, o + j * 6, none⟩ = some (.string (bs i)) ∧ w.cell? ⟨b, o + j * 6 + 1, none⟩ = some (.string (bs u)) ∧ w.cell? ⟨b, o + j * 6 + 2, none⟩ = some (.int .i64 s) ∧ w.cell? ⟨b, o + j * 6 + 3, none⟩ = some (.int .i64 t) ∧ w.cell? ⟨b, o + j * 6 + 4, none⟩ = some (.int .i64 a) ∧ w.cell? ⟨b, o + j * 6 + 5, none⟩ = some (.string (bs r)) := by
  have hlt := (List.getElem?_eq_some_iff.1 hj).1
  obtain ⟨b', o', hA, hc⟩ := h (by omega)
  simp only [Option.some.injEq, Addr.mk.injEq] at hA
  obtain ⟨rfl, rfl, _⟩ := hA
  have g : ∀ (k : Nat) v, k < 6 → (cellsC ⟨i, u, s, t, a, r⟩).toList[k]? = some v → w.cell? ⟨b, o + (j * 6 + k), none⟩ = some v := fun k v hk hv => hc _ v (by rw [cardCells_get l j k hk, hj]; exact hv)
  have g0 := g 0 _ (by omega) rfl
  have g1 := g 1 _ (by omega) rfl
  have g2 := g 2 _ (by omega) rfl
  have g3 := g 3 _ (by omega) rfl
  have g4 := g 4 _ (by omega) rfl
  have g5 := g 5 _ (by omega) rfl
  simp only [Nat.add_zero, ← Nat.add_assoc] at g0 g1 g2 g3 g4 g5
  exact ⟨g0, g1, g2, g3, g4, g5⟩
def Dif (l : List Card) : Prop := ∀ (i j : Nat) (x y : Card), j < i → l[i]? = some x → l[j]? = some y → x.id ≠ y.id
def DifP (w : World) (l : List Card) (e : Ending) (w' : World) : Prop := ∃ b : Bool, e = .returned (.bool b) ∧ (b = true → Dif l) ∧ Below w.heap.size w w'
set_option maxRecDepth 100000 in
set_option maxHeartbeats 2000000 in
theorem differ_some (l : List Card) (b o C : Nat) (w : World) (hn : l.length ≤ 1000000) (hl : CRow w (some ⟨b, o, none⟩) l) : Calls Tryd.prog 23 #[.slice (some ⟨b, o, none⟩) l.length C] w (DifP w l) := by
  have HL := Lib.hid hl
  clear hl
  go_enter Tryd.func23, Tryd.ntmps23
  go_wp2
  go_loopw [3] (fun v3 wr => ∃ i : Nat, v3 = .int .i64 i ∧ Hid (i ≤ l.length ∧ ∀ (i' j : Nat) (x y : Card), i' < i → j < i' → l[i']? = some x → l[j]? = some y → x.id ≠ y.id) ∧ Below w.heap.size w wr) (fun v _ => l.length - (intOf v).toNat)
  case atStart => exact ⟨0, rfl, ⟨Nat.zero_le _, fun i' j x y h => by omega⟩, Below.refl _ _⟩
  case round =>
    obtain ⟨i, rfl, hz, hb⟩ := hrel
    have hi := hz.out.1
    by_cases hlt : i < l.length
    · have dlt : decide ((i : Int) < (l.length : Int)) = true := decide_eq_true (by omega)
      have dltN : decide (i < l.length) = true := decide_eq_true hlt
      have hz2 := Lib.hid hz.out.2
      have HB := Lib.hid hb
      have wi : IntKind.i64.wrap ((i : Int) + 1) = (i : Int) + 1 := IntWalk.i64_in _ (by omega)
      have bi : (i : Int) < (l.length : Int) := by omega
      clear hz hb
      go_wp2
      obtain ⟨wo, hwo⟩ : ∃ wo : World, wo = wr := ⟨_, rfl⟩
      go_loopw [4] (fun v4 wr => ∃ j : Nat, v4 = .int .i64 j ∧ Hid (j ≤ i ∧ ∀ (j' : Nat) (x y : Card), j' < j → l[i]? = some x → l[j']? = some y → x.id ≠ y.id) ∧ Below w.heap.size w wr) (fun v _ => i - (intOf v).toNat)
      case atStart => exact ⟨0, rfl, ⟨Nat.zero_le _, fun j' x y h => by omega⟩, HB.out⟩
      case round =>
        clear hwo HB
        obtain ⟨j, rfl, hy, hb⟩ := hrel
        have hj := hy.out.1
        have hrow := HL.out.below hb
        by_cases hlt2 : j < i
        · have dj : decide ((j : Int) < (i : Int)) = true := decide_eq_true (by omega)
          have djN : decide (j < i) = true := decide_eq_true hlt2
          have wj : IntKind.i64.wrap ((j : Int) + 1) = (j : Int) + 1 := IntWalk.i64_in _ (by omega)
          have bj : (j : Int) < (l.length : Int) := by omega
          have bj' : j < l.length := by omega
          obtain ⟨⟨xi, xb, xs, xt, xa, xr⟩, hxi⟩ : ∃ x, l[i]? = some x := ⟨_, List.getElem?_eq_getElem hlt⟩
          obtain ⟨⟨yi, yb, ys, yt, ya, yr⟩, hyj⟩ : ∃ x, l[j]? = some x := ⟨_, List.getElem?_eq_getElem bj'⟩
          have p0 := (hrow.cells hxi).1
          have q0 := (hrow.cells hyj).1
          have HB := Lib.hid hb
          have HX := Lib.hid hxi
          have HY := Lib.hid hyj
          have tx := bs_toList xi
          have ty := bs_toList yi
          clear hb hrow hxi hyj
          by_cases he : xi = yi
          · subst he
            go_wp2
            go_quiet (fail)
            go_wp2
            go_ret
            exact ⟨false, rfl, fun h => (by cases h), below_drewN HB.out _⟩
          · have te : (xi == yi) = false := beq_eq_false_iff_ne.2 he
            have te2 : ((bs xi).toList == (bs yi).toList) = false := by rw [bs_toList, bs_toList]; exact te
            have HN : Hid (j + 1 ≤ i ∧ ∀ (j' : Nat) (x y : Card), j' < j + 1 → l[i]? = some x → l[j']? = some y → x.id ≠ y.id) := by
              refine ⟨by omega, fun j' x y h1 h2 h3 => ?_⟩
              by_cases e : j' = j
              · subst e
                rw [HX.out] at h2
                rw [HY.out] at h3
                obtain rfl := Option.some.inj h2
                obtain rfl := Option.some.inj h3
                exact he
              · exact hy.out.2 j' x y (by omega) h2 h3
            clear he
            go_wp2
            go_quiet (fail)
            go_wp2
            go_roundw
            case rel => exact ⟨j + 1, by go_num, HN, below_drewN HB.out _⟩
            case measure => simp [intOf]; omega
        · have dj : decide ((j : Int) < (i : Int)) = false := decide_eq_false (by omega)
          have djN : decide (j < i) = false := decide_eq_false hlt2
          have HN : Hid (i + 1 ≤ l.length ∧ ∀ (i' j : Nat) (x y : Card), i' < i + 1 → j < i' → l[i']? = some x → l[j]? = some y → x.id ≠ y.id) := by
            refine ⟨by omega, fun i' j' x y h0 h1 h2 h3 => ?_⟩
            by_cases e : i' = i
            · subst e
              exact hy.out.2 j' x y (by omega) h2 h3
            · exact hz2.out i' j' x y (by omega) h1 h2 h3
          clear hrow
          go_wp2
          go_roundw
          case rel => exact ⟨i + 1, by go_num, HN, hb⟩
          case measure => simp [intOf]; omega
    · have dlt : decide ((i : Int) < (l.length : Int)) = false := decide_eq_false (by omega)
      have dltN : decide (i < l.length) = false := decide_eq_false hlt
      have hd : Dif l := fun i' j x y h1 h2 h3 => hz.out.2 i' j x y (by have := (List.getElem?_eq_some_iff.1 h2).1; omega) h1 h2 h3
      have HN := Lib.hid hd
      clear hz hd
      go_wp2
      go_ret
      exact ⟨true, rfl, fun _ => HN.out, hb⟩
theorem differ_nil (C : Nat) (w : World) : Calls Tryd.prog 23 #[.slice none 0 C] w (DifP w []) := by
  go_enter Tryd.func23, Tryd.ntmps23
  go_wp2
  go_loopw [3] (fun v3 wr => v3 = .int .i64 0 ∧ wr = w) (fun _ _ => 0)
  case atStart => exact ⟨rfl, rfl⟩
  case round =>
    obtain ⟨rfl, rfl⟩ := hrel
    go_wp2
    go_ret
    exact ⟨true, rfl, fun _ i j x y _ h => (by simp at h), Below.refl _ _⟩
theorem differ_any (l : List Card) (A : Option Addr) (C : Nat) (w : World) (hn : l.length ≤ 1000000) (hl : CIn w A l) : Calls Tryd.prog 23 #[.slice A l.length C] w (DifP w l) := by
  rcases hl with ⟨rfl, rfl⟩ | ⟨b, o, rfl, hl⟩
  · exact differ_nil C w
  · exact differ_some l b o C w hn hl
def cnt (c : Card) (l : List Card) : Nat := (l.filter fun x => decide (x = c)).length
theorem cnt_take {c x : Card} {l : List Card} {i : Nat} (h : l[i]? = some x) : cnt c (l.take (i + 1)) = cnt c (l.take i) + if x = c then 1 else 0 := by
  obtain ⟨hi, rfl⟩ := List.getElem?_eq_some_iff.1 h
  unfold cnt
  rw [List.take_succ_eq_append_getElem hi, List.filter_append, List.length_append]
  by_cases e : l[i] = c
  · simp [e]
  · simp [e]
theorem cnt_le (c : Card) (l : List Card) : cnt c l ≤ l.length := List.length_filter_le _ _
set_option maxRecDepth 100000 in
set_option maxHeartbeats 2000000 in
theorem count_some (l : List Card) (c : Card) (b o C : Nat) (w : World) (hn : l.length ≤ 1000000) (hl : CRow w (some ⟨b, o, none⟩) l) : Calls Tryd.prog 24 #[.slice (some ⟨b, o, none⟩) l.length C, .agg (cellsC c)] w (IntPost w (cnt c l : Nat)) := by
  have HL := Lib.hid hl
  have hnew : (w.alloc (.cells (cellsC c) 38)).heap[w.heap.size]? = some (.cells (cellsC c) 38 (0, 0)) := heap_alloc_new _ _
  have hB0 := Lib.hid ((Below.refl w.heap.size w).alloc (Nat.le_refl _) (.cells (cellsC c) 38))
  have HNEW := Lib.hid hnew
  clear hl hnew
  obtain ⟨R, hR⟩ : ∃ R, R = cnt c l := ⟨_, rfl⟩
  rw [← hR]
  have HR := Lib.hid hR
  clear hR
  obtain ⟨ci, cu, cs, ct, ca, cr⟩ := c
  unfold cellsC at *
  simp only at *
  go_enter Tryd.func24, Tryd.ntmps24
  go_wp2
  generalize (w.alloc (.cells #[.string (bs ci), .string (bs cu), .int .i64 cs, .int .i64 ct, .int .i64 ca, .string (bs cr)] 38)) = Wb at *
  go_loopw [5, 6] (fun v5 v6 wr => ∃ n i : Nat, v5 = .int .i64 n ∧ v6 = .int .i64 i ∧ Hid (i ≤ l.length ∧ n = cnt ⟨ci, cu, cs, ct, ca, cr⟩ (l.take i)) ∧ Below (w.heap.size + 1) Wb wr) (fun _ v _ => l.length - (intOf v).toNat)
  case atStart => exact ⟨0, 0, rfl, rfl, ⟨Nat.zero_le _, rfl⟩, Below.refl _ _⟩
  case round =>
    obtain ⟨n, i, rfl, rfl, hz, hb⟩ := hrel
    obtain ⟨z1, z2⟩ := hz.out
    have hbw : Below w.heap.size w wr := hB0.out.trans (hb.mono (by omega))
    have hnn : n ≤ l.length := by have := cnt_le ⟨ci, cu, cs, ct, ca, cr⟩ (l.take i); rw [← z2, List.length_take] at this; omega
    by_cases hlt : i < l.length
    · have dlt : decide ((i : Int) < (l.length : Int)) = true := decide_eq_true (by omega)
      have dltN : decide (i < l.length) = true := decide_eq_true hlt
      have wi : IntKind.i64.wrap ((i : Int) + 1) = (i : Int) + 1 := IntWalk.i64_in _ (by omega)
      have wn : IntKind.i64.wrap ((n : Int) + 1) = (n : Int) + 1 := IntWalk.i64_in _ (by omega)
      have bi : (i : Int) < (l.length : Int) := by omega
      have hrow := HL.out.below hbw
      obtain ⟨⟨xi, xb, xs, xt, xa, xr⟩, hxi⟩ : ∃ x, l[i]? = some x := ⟨_, List.getElem?_eq_getElem hlt⟩
      obtain ⟨p0, p1, p2, p3, p4, p5⟩ := hrow.cells hxi
      obtain ⟨q0, q1, q2, q3, q4, q5⟩ := sixT ((hb.block w.heap.size (by omega)).trans HNEW.out)
      have heq := fun W => eql_cards ⟨xi, xb, xs, xt, xa, xr⟩ ⟨ci, cu, cs, ct, ca, cr⟩ W
      have hct := cnt_take (c := ⟨ci, cu, cs, ct, ca, cr⟩) hxi
      have HB := Lib.hid hb
      unfold cellsC at heq
      simp only at heq
      by_cases he : (⟨xi, xb, xs, xt, xa, xr⟩ : Card) = ⟨ci, cu, cs, ct, ca, cr⟩
      · rw [decide_eq_true he] at heq
        rw [if_pos he, ← z2] at hct
        have HN : Hid (i + 1 ≤ l.length ∧ n + 1 = cnt ⟨ci, cu, cs, ct, ca, cr⟩ (l.take (i + 1))) := ⟨hlt, hct.symm⟩
        clear hz z1 z2 hct hb hbw hrow hxi he
        go_wp2
        go_quiet (fail)
        go_wp2
        go_roundw
        case rel => exact ⟨n + 1, i + 1, by go_num, by go_num, HN, below_drewN HB.out _⟩
        case measure => simp [intOf]; omega
      · rw [decide_eq_false he] at heq
        rw [if_neg he, ← z2] at hct
        have HN : Hid (i + 1 ≤ l.length ∧ n = cnt ⟨ci, cu, cs, ct, ca, cr⟩ (l.take (i + 1))) := ⟨hlt, hct.symm⟩
        clear hz z1 z2 hct hb hbw hrow hxi he
        go_wp2
        go_quiet (fail)
        go_wp2
        go_roundw
        case rel => exact ⟨n, i + 1, rfl, by go_num, HN, below_drewN HB.out _⟩
        case measure => simp [intOf]; omega
    · have dlt : decide ((i : Int) < (l.length : Int)) = false := decide_eq_false (by omega)
      have dltN : decide (i < l.length) = false := decide_eq_false hlt
      have HN : Hid (n = R) := by rw [Hid, z2, HR.out, List.take_of_length_le (by omega)]
      clear hz z1 z2 hb
      go_wp2
      go_ret
      exact ⟨by rw [HN.out]; first | done | rfl, hbw⟩
theorem count_any (l : List Card) (c : Card) (A : Option Addr) (C : Nat) (w : World) (hn : l.length ≤ 1000000) (h0 : 0 < l.length) (hl : CRow w A l) : Calls Tryd.prog 24 #[.slice A l.length C, .agg (cellsC c)] w (IntPost w (cnt c l : Nat)) := by
  obtain ⟨b, o, rfl, _⟩ := hl h0
  exact count_some l c b o C w hn hl
theorem SS.cnt {l r : List Card} (h : SS l r) (c : Card) : cnt c r = cnt c l := by
  have e : ∀ l : List Card, (l.filter fun x => decide (x = c)) = (l.filter (eqk c)).filter fun x => decide (x = c) := fun l => by
    rw [List.filter_filter]
    apply List.filter_congr
    intro x _
    by_cases hx : x = c
    · subst hx; simp [eqk_self]
    · simp [hx]
  unfold Proofs.YtjcaaiikccnpeaaDoor.cnt
  rw [e, e l, h.2 c]
end Go.Proofs.YtjcaaiikccnpeaaDoor
