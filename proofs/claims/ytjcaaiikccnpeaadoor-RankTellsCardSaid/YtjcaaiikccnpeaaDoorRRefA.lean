/- The reference's Less, Same, Score and Write, walked. -/
import Derived.Test.YtjcaaiikccnpeaaDoorRefNumR
import Derived.Test.YtjcaaiikccnpeaaDoorRefParse
import Derived.Test.YtjcaaiikccnpeaaDoorRankText
import Derived.Test.YtjcaaiikccnpeaaDoorSortA
import Derived.Test.YtjcaaiikccnpeaaDoorSmallR
import Derived.Test.YtjcaaiikccnpeaaDoorDifCount
namespace Go.Proofs.YtjcaaiikccnpeaaDoor
open Go.ChangeShapes Go.WideShapes Go.ChangeAt Go.RowKit Go.Lib
set_option linter.unusedVariables false
set_option linter.unusedSimpArgs false

theorem q_same {P : Program} {f : FuncId} {args : Array Value} {w : World} {a n : Nat} {v : Value}
    (h : Calls P f args (w.drewN (a + n)) (Same v (w.drewN (a + n)))) :
    Calls P f args (w.drewN (a + n)) fun e w'' => e = .returned v ∧ ∃ m, w'' = w.drewN (a + m) :=
  h.mono fun _ _ ⟨he, hm⟩ => ⟨he, n, hm.symm⟩
theorem q_same0 {P : Program} {f : FuncId} {args : Array Value} {w : World} {n : Nat} {v : Value}
    (h : Calls P f args (w.drewN n) (Same v (w.drewN n))) :
    Calls P f args (w.drewN n) fun e w'' => e = .returned v ∧ ∃ m, w'' = w.drewN m :=
  h.mono fun _ _ ⟨he, hm⟩ => ⟨he, n, hm.symm⟩
theorem lt_of_heap {w : World} {k : Nat} {o : Obj} (h : w.heap[k]? = some o) : k < w.heap.size := (Array.getElem?_eq_some_iff.1 h).1
theorem sixC {W : World} {T : Nat} {c : Card} {t : TypeId} (h : W.heap[T]? = some (.cells (cellsC c) t (0, 0))) :
    W.cell? ⟨T, 0, none⟩ = some (.string (bs c.id)) ∧ W.cell? ⟨T, 1, none⟩ = some (.string (bs c.by')) ∧ W.cell? ⟨T, 2, none⟩ = some (.int .i64 c.score) ∧ W.cell? ⟨T, 3, none⟩ = some (.int .i64 c.time) ∧ W.cell? ⟨T, 4, none⟩ = some (.int .i64 c.act) ∧ W.cell? ⟨T, 5, none⟩ = some (.string (bs c.rea)) := by
  refine ⟨?_, ?_, ?_, ?_, ?_, ?_⟩ <;> (rw [cell_of_row _ _ _ _ _ _ h]; rfl)
theorem CRow.sixA {w : World} {b o : Nat} {l : List Card} (h : CRow w (some ⟨b, o, none⟩) l) {j : Nat} {c : Card} (hj : l[j]? = some c) :
    w.cell? ⟨b, o + j * 6, none⟩ = some (.string (bs c.id)) ∧ w.cell? ⟨b, o + j * 6 + 1, none⟩ = some (.string (bs c.by')) ∧ w.cell? ⟨b, o + j * 6 + 2, none⟩ = some (.int .i64 c.score) ∧ w.cell? ⟨b, o + j * 6 + 3, none⟩ = some (.int .i64 c.time) ∧ w.cell? ⟨b, o + j * 6 + 4, none⟩ = some (.int .i64 c.act) ∧ w.cell? ⟨b, o + j * 6 + 5, none⟩ = some (.string (bs c.rea)) := by
  have hlt := (List.getElem?_eq_some_iff.1 hj).1
  obtain ⟨b', o', hA, hc⟩ := h (by omega)
  simp only [Option.some.injEq, Addr.mk.injEq] at hA
  obtain ⟨rfl, rfl, _⟩ := hA
  have g : ∀ (k : Nat) v, k < 6 → (cellsC c).toList[k]? = some v → w.cell? ⟨b, o + (j * 6 + k), none⟩ = some v := fun k v hk hv => hc _ v (by rw [cardCells_get l j k hk, hj]; exact hv)
  have g0 := g 0 _ (by omega) rfl
  have g1 := g 1 _ (by omega) rfl
  have g2 := g 2 _ (by omega) rfl
  have g3 := g 3 _ (by omega) rfl
  have g4 := g 4 _ (by omega) rfl
  have g5 := g 5 _ (by omega) rfl
  simp only [Nat.add_zero, ← Nat.add_assoc] at g0 g1 g2 g3 g4 g5
  exact ⟨g0, g1, g2, g3, g4, g5⟩
theorem less_eqR (a b : Card) : lessC a b = if a.score ≠ b.score then decide (b.score < a.score) else if a.time ≠ b.time then decide (b.time < a.time) else ltB a.id b.id := by
  unfold lessC cmpC cmpI cmpT
  rcases Int.lt_trichotomy b.score a.score with h | h | h
  · have h1 : a.score ≠ b.score := by omega
    simp [h, h1]
  · rcases Int.lt_trichotomy b.time a.time with g | g | g
    · have g1 : a.time ≠ b.time := by omega
      simp [h, g, g1]
    · cases e : ltB a.id b.id with
      | true => simp [h, g, e]
      | false =>
        cases e2 : ltB b.id a.id with
        | true => simp [h, g, e, e2]
        | false => simp [h, g, e, e2]
    · have g1 : a.time ≠ b.time := by omega
      have g2 : ¬ b.time < a.time := by omega
      simp [h, g, g1, g2]
  · have h1 : a.score ≠ b.score := by omega
    have h2 : ¬ b.score < a.score := by omega
    simp [h, h1, h2]
set_option maxHeartbeats 1000000 in
theorem rless_any (a b : Card) (w : World) : Calls Tryd.prog 17 #[.agg (cellsC a), .agg (cellsC b)] w (BoolPost w (lessC a b)) := by
  obtain ⟨q, hq⟩ : ∃ q, lessC a b = q := ⟨_, rfl⟩
  rw [hq]
  rw [less_eqR] at hq
  obtain ⟨ai, ab, a_s, at', aa, ar⟩ := a
  obtain ⟨bi, bb, bs', bt, ba, br⟩ := b
  simp only at hq
  have t1 := bs_toList ai
  have t2 := bs_toList bi
  have g2 := heap_alloc_new w (.cells (cellsC ⟨ai, ab, a_s, at', aa, ar⟩) 38)
  have hb1 := (Below.refl w.heap.size w).alloc (Nat.le_refl _) (.cells (cellsC ⟨ai, ab, a_s, at', aa, ar⟩) 38)
  have hb2 := hb1.alloc hb1.size (.cells (cellsC ⟨bi, bb, bs', bt, ba, br⟩) 38)
  have g3 := heap_alloc_new (w.alloc (.cells (cellsC ⟨ai, ab, a_s, at', aa, ar⟩) 38)) (.cells (cellsC ⟨bi, bb, bs', bt, ba, br⟩) 38)
  rw [World.size_alloc] at g3
  have g4 := (Below.heap_alloc _ (.cells (cellsC ⟨bi, bb, bs', bt, ba, br⟩) 38) _ (lt_of_heap g2)).trans g2
  obtain ⟨p0, _, p2, p3, _, _⟩ := sixC g4
  obtain ⟨q0, _, q2, q3, _, _⟩ := sixC g3
  have HB := Lib.hid hb2
  clear g2 g3 g4 hb1 hb2
  simp only at p0 p2 p3 q0 q2 q3
  unfold cellsC at HB p0 p2 p3 q0 q2 q3 ⊢
  simp only at HB p0 p2 p3 q0 q2 q3 ⊢
  by_cases h1 : a_s = bs'
  · subst h1
    rw [if_neg (by simp)] at hq
    have d1 : (a_s == a_s) = true := by simp
    by_cases h2 : at' = bt
    · subst h2
      rw [if_neg (by simp)] at hq
      have d2 : (at' == at') = true := by simp
      have HQ : Op.bytesLess ai bi = q := hq
      clear hq
      go_enter Tryd.func17, Tryd.ntmps17
      go_wp2
      go_ret
      exact ⟨rfl, HB.out⟩
    · rw [if_pos h2] at hq
      have d2 : (at' == bt) = false := beq_eq_false_iff_ne.2 h2
      clear h2
      go_enter Tryd.func17, Tryd.ntmps17
      go_wp2
      go_ret
      exact ⟨rfl, HB.out⟩
  · rw [if_pos h1] at hq
    have d1 : (a_s == bs') = false := beq_eq_false_iff_ne.2 h1
    clear h1
    go_enter Tryd.func17, Tryd.ntmps17
    go_wp2
    go_ret
    exact ⟨rfl, HB.out⟩
theorem rvalid_any (n : Int) (w : World) : Calls Tryd.prog 38 #[.int .i64 n] w (Same (.bool (decide (okN n))) w) := by
  obtain ⟨q, hq⟩ : ∃ q, decide (okN n) = q := ⟨_, rfl⟩
  rw [hq]
  by_cases h1 : 0 ≤ n
  · have d1 : decide (0 ≤ n) = true := decide_eq_true h1
    have hq' : decide (n ≤ 1125899906842624) = q := by rw [← hq]; unfold okN; simp [h1]
    clear hq
    go_enter Tryd.func38, Tryd.ntmps38
    go_wp2
    go_ret
    exact ⟨rfl, rfl⟩
  · have d1 : decide (0 ≤ n) = false := decide_eq_false h1
    have hq' : q = false := by rw [← hq]; unfold okN; simp [h1]
    subst hq'
    clear hq
    go_enter Tryd.func38, Tryd.ntmps38
    go_wp2
    go_ret
    exact ⟨rfl, rfl⟩
theorem rsame_any (L : List Card) (n : Nat) (A1 A2 : Option Addr) (C1 C2 : Nat) (w : World) (hn : L.length = n) (hb : n ≤ 1000000) (h1 : CRow w A1 L) (h2 : CRow w A2 L) : Calls Tryd.prog 20 #[.slice A1 n C1, .slice A2 n C2] w (BoolPost w true) := by
  have HM := Lib.hid hn
  have H6 := Lib.hid h1
  have H7 := Lib.hid h2
  clear hn h1 h2
  go_enter Tryd.func20, Tryd.ntmps20
  go_wp2
  go_loopw [5] (fun v5 wr => ∃ k : Nat, v5 = .int .i64 k ∧ k ≤ n ∧ Below w.heap.size w wr) (fun v _ => n - (intOf v).toNat)
  case atStart => exact ⟨0, rfl, Nat.zero_le _, Below.refl _ _⟩
  case round =>
    obtain ⟨k, rfl, hk, hbk⟩ := hrel
    by_cases hkm : k < n
    · have dk : decide ((k : Int) < (n : Int)) = true := decide_eq_true (by omega)
      have dkN : decide (k < n) = true := decide_eq_true hkm
      have bk : (k : Int) < (n : Int) := by omega
      have wk : IntKind.i64.wrap ((k : Int) + 1) = (k : Int) + 1 := IntWalk.i64_in _ (by omega)
      obtain ⟨⟨xi, xb, xs, xt, xa, xr⟩, hxk⟩ : ∃ c, L[k]? = some c := ⟨_, List.getElem?_eq_getElem (by have := HM.out; omega)⟩
      obtain ⟨b6, o6, rfl, _⟩ := H6.out (by have := HM.out; omega)
      obtain ⟨b7, o7, rfl, _⟩ := H7.out (by have := HM.out; omega)
      obtain ⟨p0, p1, p2, p3, p4, p5⟩ := (H6.out.below hbk).cells hxk
      obtain ⟨q0, q1, q2, q3, q4, q5⟩ := (H7.out.below hbk).cells hxk
      have hne : ∀ W, (binOp .neq 38 (.agg #[.string (bs xi), .string (bs xb), .int .i64 xs, .int .i64 xt, .int .i64 xa, .string (bs xr)]) (.agg #[.string (bs xi), .string (bs xb), .int .i64 xs, .int .i64 xt, .int .i64 xa, .string (bs xr)])).run Tryd.prog W = .ok (.bool false) W := fun W => by
        have := neq_cards ⟨xi, xb, xs, xt, xa, xr⟩ ⟨xi, xb, xs, xt, xa, xr⟩ W
        rw [decide_eq_true rfl] at this
        exact this
      have HBK := Lib.hid hbk
      clear hxk H6 H7 HM hbk
      go_wp2
      go_quiet (fail)
      go_wp2
      go_roundw
      case rel => exact ⟨k + 1, by go_num, hkm, below_drewN HBK.out _⟩
      case measure => simp [intOf]; omega
    · have dk : decide ((k : Int) < (n : Int)) = false := decide_eq_false (by omega)
      have dkN : decide (k < n) = false := decide_eq_false hkm
      go_wp2
      go_ret
      exact ⟨rfl, hbk⟩
set_option maxRecDepth 100000 in
set_option maxHeartbeats 1000000 in
theorem rscore_any (v : Wts) (t : Tal) (time now : Int) (w : World) (hv : v.Wf) (ht : t.Wf) (h1 : wf64 time) (h2 : wf64 now) : Calls Tryd.prog 19 #[.agg (cellsW v), .agg (cellsT t), .int .i64 time, .int .i64 now] w (IntPost w (scoreI v t time now)) := by
  obtain ⟨a, b, c, d⟩ := v
  obtain ⟨x, y, z⟩ := t
  obtain ⟨va, vb, vc, vd⟩ := hv
  obtain ⟨tx, ty, tz⟩ := ht
  have c1 := fun W => rmul_any a x W va tx
  have c2 := fun W => rmul_any b y W vb ty
  have c3 := fun W => rmul_any c z W vc tz
  have c4 := fun W => rsub_any now time W h2 h1
  have c5 := fun W => rmul_any d (maxI (limI (now - time))) W vd (maxI_wf (limI_wf _))
  have c6 := fun W => radd_any (limI (a * x)) (limI (b * y)) W (limI_wf _) (limI_wf _)
  have c7 := fun W => radd_any (limI (limI (a * x) + limI (b * y))) (limI (c * z)) W (limI_wf _) (limI_wf _)
  have c8 := fun W => rsub_any (limI (limI (limI (a * x) + limI (b * y)) + limI (c * z))) (limI (d * maxI (limI (now - time)))) W (limI_wf _) (limI_wf _)
  have hR : Hid (scoreI ⟨a, b, c, d⟩ ⟨x, y, z⟩ time now = limI (limI (limI (limI (a * x) + limI (b * y)) + limI (c * z)) - limI (d * maxI (limI (now - time))))) := rfl
  have hmx : Hid (∀ u : Int, maxI u = if u < 0 then 0 else u) := fun u => by unfold maxI; split <;> omega
  have HM := Lib.hid (hmx.out (limI (now - time)))
  clear va vb vc vd tx ty tz h1 h2 hmx
  generalize scoreI ⟨a, b, c, d⟩ ⟨x, y, z⟩ time now = R at *
  generalize limI (limI (limI (limI (a * x) + limI (b * y)) + limI (c * z)) - limI (d * maxI (limI (now - time)))) = R8 at *
  generalize limI (limI (limI (a * x) + limI (b * y)) + limI (c * z)) = R7 at *
  generalize limI (limI (a * x) + limI (b * y)) = R6 at *
  generalize limI (d * maxI (limI (now - time))) = R5 at *
  generalize maxI (limI (now - time)) = Rm at *
  generalize limI (now - time) = R4 at *
  generalize limI (c * z) = R3 at *
  generalize limI (b * y) = R2 at *
  generalize limI (a * x) = R1 at *
  have g2 := heap_alloc_new w (.cells (cellsW ⟨a, b, c, d⟩) 23)
  have hb1 := (Below.refl w.heap.size w).alloc (Nat.le_refl _) (.cells (cellsW ⟨a, b, c, d⟩) 23)
  have hb2 := hb1.alloc hb1.size (.cells (cellsT ⟨x, y, z⟩) 31)
  have g3 := heap_alloc_new (w.alloc (.cells (cellsW ⟨a, b, c, d⟩) 23)) (.cells (cellsT ⟨x, y, z⟩) 31)
  rw [World.size_alloc] at g3
  have g4 := (Below.heap_alloc _ (.cells (cellsT ⟨x, y, z⟩) 31) _ (lt_of_heap g2)).trans g2
  obtain ⟨p0, p1, p2, p3⟩ := fourT g4
  obtain ⟨q0, q1, q2⟩ := threeT g3
  have HB := Lib.hid hb2
  clear g2 g3 g4 hb1 hb2
  unfold cellsW cellsT at HB p0 p1 p2 p3 q0 q1 q2 ⊢
  simp only at HB p0 p1 p2 p3 q0 q1 q2 ⊢
  by_cases hn : R4 < 0
  · have dn : decide (R4 < 0) = true := decide_eq_true hn
    have hRm : Rm = 0 := by rw [HM.out, if_pos hn]
    subst hRm
    clear HM hn
    go_enter Tryd.func19, Tryd.ntmps19
    go_wp2_with fail
    refine (c1 _).mono ?_
    rintro e w1 ⟨rfl, rfl⟩
    go_wp2_with fail
    refine (c2 _).mono ?_
    rintro e w1 ⟨rfl, rfl⟩
    go_wp2_with fail
    refine (c3 _).mono ?_
    rintro e w1 ⟨rfl, rfl⟩
    go_wp2_with fail
    refine (c4 _).mono ?_
    rintro e w1 ⟨rfl, rfl⟩
    go_wp2_with fail
    go_quiet (first | (go_at_call 42; with_reducible exact q_same0 (c6 _)) | (go_at_call 42; with_reducible exact q_same0 (c7 _)) | (go_at_call 40; with_reducible exact q_same0 (c5 _)) | (go_at_call 41; with_reducible exact q_same0 (c8 _)))
    go_wp2
    go_ret
    exact ⟨by rw [hR.out]; first | done | rfl, below_drewN HB.out _⟩
  · have dn : decide (R4 < 0) = false := decide_eq_false hn
    have hRm : Rm = R4 := by rw [HM.out, if_neg hn]
    subst hRm
    clear HM hn
    go_enter Tryd.func19, Tryd.ntmps19
    go_wp2_with fail
    refine (c1 _).mono ?_
    rintro e w1 ⟨rfl, rfl⟩
    go_wp2_with fail
    refine (c2 _).mono ?_
    rintro e w1 ⟨rfl, rfl⟩
    go_wp2_with fail
    refine (c3 _).mono ?_
    rintro e w1 ⟨rfl, rfl⟩
    go_wp2_with fail
    refine (c4 _).mono ?_
    rintro e w1 ⟨rfl, rfl⟩
    go_wp2_with fail
    go_quiet (first | (go_at_call 42; with_reducible exact q_same0 (c6 _)) | (go_at_call 42; with_reducible exact q_same0 (c7 _)) | (go_at_call 40; with_reducible exact q_same0 (c5 _)) | (go_at_call 41; with_reducible exact q_same0 (c8 _)))
    go_wp2
    go_ret
    exact ⟨by rw [hR.out]; first | done | rfl, below_drewN HB.out _⟩
end Go.Proofs.YtjcaaiikccnpeaaDoor
