/- RankTells, walked: it answers true. -/
import Derived.Test.YtjcaaiikccnpeaaDoorRRefW
import Derived.Test.YtjcaaiikccnpeaaDoorRRefN
import Derived.Test.YtjcaaiikccnpeaaDoorRRefS
import Derived.Test.YtjcaaiikccnpeaaDoorValid
import Derived.Test.YtjcaaiikccnpeaaDoorSortE
import Derived.Test.YtjcaaiikccnpeaaDoorOpenC
import Derived.Deep.DeepCutAuto
import Derived.Deep.RegionHeld3
namespace Go.Proofs.YtjcaaiikccnpeaaDoor
open Go.ChangeShapes Go.WideShapes Go.ChangeAt Go.RowKit Go.Lib
set_option linter.unusedVariables false
set_option linter.unusedSimpArgs false

theorem eql_wts (x1 x2 x3 x4 : Int) (W : World) : (binOp .eql 23 (.agg #[.int .i64 x1, .int .i64 x2, .int .i64 x3, .int .i64 x4]) (.agg #[.int .i64 x1, .int .i64 x2, .int .i64 x3, .int .i64 x4])).run Tryd.prog W = .ok (.bool true) W := by
  have hu : Tryd.prog.underlying 23 = some (.struct (Tryd.prog.fieldsOf 23)) := by kernel_rfl
  have hp : Tryd.prog.stoodInHeld 23 = false := by kernel_rfl
  rw [run_eql_struct, run_equalIn_agg _ _ _ _ _ hu hp]
  unfold Program.fieldsOf
  rw [Tryd.underlying23]
  have u3 := Tryd.underlying3
  simp [Op.eqFields, go_sem]
theorem sort_cR (l : List Card) (A : Option Addr) (C : Nat) (w : World) (hn : l.length ≤ 1000000) (hl : CRow w A l) : Calls Tryd.prog 21 #[.slice A l.length C] w (SortedP w (sortS l)) := by
  cases l with
  | nil => exact (sort_zero A C w).mono fun e w' ⟨A', C', h1, h2⟩ => ⟨A', C', h1, fun h => absurd h (by simp [sortS]), h2⟩
  | cons c r =>
    obtain ⟨b, o, rfl, _⟩ := hl (by simp)
    exact sort_some (c :: r) b o C w hn hl
set_option maxRecDepth 100000 in
theorem tells_long (v : Wts) (s : List UInt8) (t : Tal) (time now : Int) (l : List Card) (A0 : Option Addr) (C0 : Nat) (w : World) (hL : LaidA w) (hv : v.Wf) (ht : t.Wf) (h : ¬ s.length ≤ 1000 ∨ ¬ l.length ≤ 60) (hll : l.length ≤ 9223372036854775807) (hsl : s.length ≤ 9223372036854775807) :
    Calls Tryd.prog 5 #[.agg (cellsW v), .string (bs s), .agg (cellsT t), .int .i64 time, .int .i64 now, .slice A0 l.length C0] w (BoolPost w true) := by
  have z1 := bs_size s
  have hb1 := (Below.refl w.heap.size w).alloc (Nat.le_refl _) (.cells (cellsW v) 23)
  have hb2 := hb1.alloc hb1.size (.cells (cellsT t) 31)
  have HB := Lib.hid hb2
  have cs := fun W h => small_any W h
  have HL2 := Lib.hid (((hL.below ((Below.refl _ w).alloc (Nat.le_refl _) (.cells (cellsW v) 23)))).below ((Below.refl _ _).alloc (Nat.le_refl _) (.cells (cellsT t) 31)))
  clear hb1 hb2
  unfold cellsW cellsT at HB HL2 ⊢
  by_cases h1 : s.length ≤ 1000
  · have d1 : decide (1000 < (s.length : Int)) = false := decide_eq_false (by omega)
    have d1N : decide (1000 < s.length) = false := decide_eq_false (by omega)
    have d2 : decide (60 < (l.length : Int)) = true := decide_eq_true (by omega)
    have d2N : decide (60 < l.length) = true := decide_eq_true (by omega)
    clear h h1 hv ht
    go_enter Tryd.func5, Tryd.ntmps5
    go_wp2_with fail
    refine (cs _ HL2.out).mono ?_
    rintro e w1 ⟨rfl, hbx⟩
    have HB1 := Lib.hid (HB.out.trans (hbx.mono HB.out.size))
    clear hbx
    go_wp2
    go_ret
    exact ⟨rfl, HB1.out⟩
  · have d1 : decide (1000 < (s.length : Int)) = true := decide_eq_true (by omega)
    have d1N : decide (1000 < s.length) = true := decide_eq_true (by omega)
    clear h h1 hv ht
    go_enter Tryd.func5, Tryd.ntmps5
    go_wp2_with fail
    refine (cs _ HL2.out).mono ?_
    rintro e w1 ⟨rfl, hbx⟩
    have HB1 := Lib.hid (HB.out.trans (hbx.mono HB.out.size))
    clear hbx
    go_wp2
    go_ret
    exact ⟨rfl, HB1.out⟩
set_option maxRecDepth 100000 in
set_option maxHeartbeats 40000000 in
theorem tells_main (v : Wts) (s : List UInt8) (t : Tal) (time now : Int) (l : List Card) (A0 : Option Addr) (C0 : Nat) (w : World) (hL : LaidA w) (hv : v.Wf) (ht : t.Wf) (h1 : wf64 time) (h2 : wf64 now) (hs : s.length ≤ 1000) (h60 : l.length ≤ 60) (hl : CRow w A0 l) :
    Calls Tryd.prog 5 #[.agg (cellsW v), .string (bs s), .agg (cellsT t), .int .i64 time, .int .i64 now, .slice A0 l.length C0] w (BoolPost w true) := by
  obtain ⟨n, hn⟩ : ∃ n, l.length = n := ⟨_, rfl⟩
  have z1 := bs_size s
  have cs := fun W h => small_any W h
  have cp1 := fun W h => parse_w s W (by omega) h
  have cp2 := fun W => rparsew_any s W hs
  unfold WPost at cp1 cp2
  obtain ⟨x, hx⟩ : ∃ x, (parseW s).getD noW = x := ⟨_, rfl⟩
  obtain ⟨ok, hok⟩ : ∃ x, (parseW s).isSome = x := ⟨_, rfl⟩
  rw [hx, hok] at cp1 cp2
  obtain ⟨x1, x2, x3, x4⟩ := x
  clear hx hok
  have cW1 := fun W h => write_any v W hv h
  have cW2 := fun W => rwrite_any v W hv
  have tw := bs_toList (writeB v)
  generalize writeB v = WB at *
  have cS1 := fun W => score_any v t time now W hv ht h1 h2
  have cS2 := fun W => rscore_any v t time now W hv ht h1 h2
  generalize scoreI v t time now = SC at *
  have cT1 := fun W h => sort_cR l A0 C0 W (by omega) h
  have cT2 := fun W h => rsort_any l A0 C0 W h60 h
  have hsl : (sortS l).length = n := by rw [sortS_length, hn]
  have cT3 := fun A1 A2 C1 C2 W h1 h2 => rsame_any (sortS l) n A1 A2 C1 C2 W hsl (by omega) h1 h2
  generalize sortS l = SR at *
  have HSL := Lib.hid hsl
  have HN := Lib.hid hn
  have HN60 : Hid (n ≤ 60) := by rw [Hid, ← hn]; exact h60
  have HL := Lib.hid hl
  rw [hn] at cT1 cT2 ⊢
  obtain ⟨a, b, c, d⟩ := v
  obtain ⟨ta, tb, tc⟩ := t
  have d1 : decide (1000 < (s.length : Int)) = false := decide_eq_false (by omega)
  have d1N : decide (1000 < s.length) = false := decide_eq_false (by omega)
  have d2 : decide (60 < (n : Int)) = false := decide_eq_false (by have := HN60.out; omega)
  have d2N : decide (60 < n) = false := decide_eq_false (by have := HN60.out; omega)
  unfold cellsW at cW1 cW2 cS1 cS2 cp1 cp2
  unfold cellsT at cS1 cS2
  simp only at cW1 cW2 cS1 cS2 cp1 cp2
  have g6 := heap_alloc_new w (.cells #[.int .i64 a, .int .i64 b, .int .i64 c, .int .i64 d] 23)
  have hb1 := (Below.refl w.heap.size w).alloc (Nat.le_refl _) (.cells #[.int .i64 a, .int .i64 b, .int .i64 c, .int .i64 d] 23)
  have hb2 := hb1.alloc hb1.size (.cells #[.int .i64 ta, .int .i64 tb, .int .i64 tc] 31)
  have g8 := heap_alloc_new (w.alloc (.cells #[.int .i64 a, .int .i64 b, .int .i64 c, .int .i64 d] 23)) (.cells #[.int .i64 ta, .int .i64 tb, .int .i64 tc] 31)
  rw [World.size_alloc] at g8
  have g6' := (Below.heap_alloc _ (.cells #[.int .i64 ta, .int .i64 tb, .int .i64 tc] 31) _ (lt_of_heap g6)).trans g6
  have M6 := Lib.hid g6'
  have M8 := Lib.hid g8
  have HB := Lib.hid hb2
  have HLA := Lib.hid (((hL.below ((Below.refl _ w).alloc (Nat.le_refl _) (.cells #[.int .i64 a, .int .i64 b, .int .i64 c, .int .i64 d] 23)))).below ((Below.refl _ _).alloc (Nat.le_refl _) (.cells #[.int .i64 ta, .int .i64 tb, .int .i64 tc] 31)))
  clear g6 g6' g8 hb1 hb2 hL hl hsl hn h60 hv ht h1 h2 hs
  unfold cellsW cellsT
  simp only
  go_enter Tryd.func5, Tryd.ntmps5
  go_wp2_with fail
  refine (cs _ HLA.out).mono ?_
  rintro e w1 ⟨rfl, hbx⟩
  replace M6 := Lib.hid (keep_blk hbx M6.out)
  replace M8 := Lib.hid (keep_blk hbx M8.out)
  replace HB := Lib.hid (HB.out.trans (hbx.mono HB.out.size))
  replace HLA := Lib.hid (HLA.out.below hbx)
  clear hbx
  clear cs
  go_wp2_with fail
  refine (cp1 _ HLA.out).mono ?_
  rintro e w2 ⟨rfl, hbx⟩
  replace M6 := Lib.hid (keep_blk hbx M6.out)
  replace M8 := Lib.hid (keep_blk hbx M8.out)
  replace HB := Lib.hid (HB.out.trans (hbx.mono HB.out.size))
  replace HLA := Lib.hid (HLA.out.below hbx)
  clear hbx
  clear cp1
  have M14 := Lib.hid (heap_alloc_new w2 (.cells #[.int .i64 x1, .int .i64 x2, .int .i64 x3, .int .i64 x4] 23))
  replace M6 := Lib.hid ((Below.heap_alloc _ (.cells #[.int .i64 x1, .int .i64 x2, .int .i64 x3, .int .i64 x4] 23) _ (lt_of_heap M6.out)).trans M6.out)
  replace M8 := Lib.hid ((Below.heap_alloc _ (.cells #[.int .i64 x1, .int .i64 x2, .int .i64 x3, .int .i64 x4] 23) _ (lt_of_heap M8.out)).trans M8.out)
  replace HB := Lib.hid (HB.out.alloc HB.out.size (.cells #[.int .i64 x1, .int .i64 x2, .int .i64 x3, .int .i64 x4] 23))
  replace HLA := Lib.hid (HLA.out.below ((Below.refl _ _).alloc (Nat.le_refl _) (.cells #[.int .i64 x1, .int .i64 x2, .int .i64 x3, .int .i64 x4] 23)))
  go_wp2_with fail
  refine (cp2 _).mono ?_
  rintro e w3 ⟨rfl, hbx⟩
  replace M6 := Lib.hid (keep_blk hbx M6.out)
  replace M8 := Lib.hid (keep_blk hbx M8.out)
  replace M14 := Lib.hid (keep_blk hbx M14.out)
  replace HB := Lib.hid (HB.out.trans (hbx.mono HB.out.size))
  replace HLA := Lib.hid (HLA.out.below hbx)
  clear hbx
  clear cp2
  have M16 := Lib.hid (heap_alloc_new w3 (.cells #[.int .i64 x1, .int .i64 x2, .int .i64 x3, .int .i64 x4] 23))
  replace M6 := Lib.hid ((Below.heap_alloc _ (.cells #[.int .i64 x1, .int .i64 x2, .int .i64 x3, .int .i64 x4] 23) _ (lt_of_heap M6.out)).trans M6.out)
  replace M8 := Lib.hid ((Below.heap_alloc _ (.cells #[.int .i64 x1, .int .i64 x2, .int .i64 x3, .int .i64 x4] 23) _ (lt_of_heap M8.out)).trans M8.out)
  replace M14 := Lib.hid ((Below.heap_alloc _ (.cells #[.int .i64 x1, .int .i64 x2, .int .i64 x3, .int .i64 x4] 23) _ (lt_of_heap M14.out)).trans M14.out)
  replace HB := Lib.hid (HB.out.alloc HB.out.size (.cells #[.int .i64 x1, .int .i64 x2, .int .i64 x3, .int .i64 x4] 23))
  replace HLA := Lib.hid (HLA.out.below ((Below.refl _ _).alloc (Nat.le_refl _) (.cells #[.int .i64 x1, .int .i64 x2, .int .i64 x3, .int .i64 x4] 23)))
  go_wp2
  generalize hwb : World.alloc w3 _ = wb at *
  clear hwb
  go_loopw [18] (fun v18 wr => ∃ i : Nat, v18 = .int .i64 i ∧ 1 ≤ i ∧ i ≤ n + 1 ∧ Below wb.heap.size wb wr) (fun v _ => n + 1 - (intOf v).toNat)
  case atStart => exact ⟨1, rfl, Nat.le_refl _, by omega, Below.refl _ _⟩
  case round =>
  obtain ⟨i, rfl, hi1, hi, hbw⟩ := hrel
  obtain ⟨wq, rfl⟩ : ∃ wq : World, wq = wr := ⟨_, rfl⟩
  by_cases hin : i < n
  · have di : decide ((i : Int) < (n : Int)) = true := decide_eq_true (by omega)
    have diN : decide (i < n) = true := decide_eq_true hin
    have bi : (i : Int) < (n : Int) := by omega
    have wi : IntKind.i64.wrap ((i : Int) + 1) = (i : Int) + 1 := IntWalk.i64_in _ (by have := HN60.out; omega)
    obtain ⟨p, hp⟩ : ∃ p, i - 1 = p := ⟨_, rfl⟩
    have wp : IntKind.i64.wrap ((i : Int) - 1) = (p : Int) := by rw [IntWalk.i64_in _ (by have := HN60.out; omega)]; omega
    have bp : (p : Int) < (n : Int) := by omega
    obtain ⟨⟨xi, xb, xs, xt, xa, xr⟩, hx⟩ : ∃ c, l[i]? = some c := ⟨_, List.getElem?_eq_getElem (by have := HN.out; omega)⟩
    obtain ⟨⟨yi, yb, ys, yt, ya, yr⟩, hy⟩ : ∃ c, l[p]? = some c := ⟨_, List.getElem?_eq_getElem (by have := HN.out; omega)⟩
    obtain ⟨bx, ox, rfl, _⟩ := HL.out (by have := HN.out; omega)
    have hbq := HB.out.trans (hbw.mono HB.out.size)
    have FF : Hid (∀ W, Below wq.heap.size wq W → (W.cell? ⟨bx, ox + i * 6, none⟩ = some (.string (bs xi)) ∧ W.cell? ⟨bx, ox + i * 6 + 1, none⟩ = some (.string (bs xb)) ∧ W.cell? ⟨bx, ox + i * 6 + 2, none⟩ = some (.int .i64 xs) ∧ W.cell? ⟨bx, ox + i * 6 + 3, none⟩ = some (.int .i64 xt) ∧ W.cell? ⟨bx, ox + i * 6 + 4, none⟩ = some (.int .i64 xa) ∧ W.cell? ⟨bx, ox + i * 6 + 5, none⟩ = some (.string (bs xr))) ∧ (W.cell? ⟨bx, ox + p * 6, none⟩ = some (.string (bs yi)) ∧ W.cell? ⟨bx, ox + p * 6 + 1, none⟩ = some (.string (bs yb)) ∧ W.cell? ⟨bx, ox + p * 6 + 2, none⟩ = some (.int .i64 ys) ∧ W.cell? ⟨bx, ox + p * 6 + 3, none⟩ = some (.int .i64 yt) ∧ W.cell? ⟨bx, ox + p * 6 + 4, none⟩ = some (.int .i64 ya) ∧ W.cell? ⟨bx, ox + p * 6 + 5, none⟩ = some (.string (bs yr)))) := fun W hb => by
      have hb2 := hbq.trans (hb.mono hbq.size)
      exact ⟨(HL.out.below hb2).sixA hx, (HL.out.below hb2).sixA hy⟩
    have cL1 := fun W (_ : Below wq.heap.size wq W) => less_any ⟨xi, xb, xs, xt, xa, xr⟩ ⟨yi, yb, ys, yt, ya, yr⟩ W
    have cL2 := fun W (_ : Below wq.heap.size wq W) => rless_any ⟨xi, xb, xs, xt, xa, xr⟩ ⟨yi, yb, ys, yt, ya, yr⟩ W
    generalize lessC ⟨xi, xb, xs, xt, xa, xr⟩ ⟨yi, yb, ys, yt, ya, yr⟩ = q at *
    unfold cellsC at cL1 cL2
    simp only at cL1 cL2
    have qm : ∀ W, (binOp .neq 4 (.bool q) (.bool q)).run Tryd.prog W = .ok (.bool false) W := fun W => by cases q <;> rfl
    have HBW := Lib.hid hbw
    clear hx hy hbq hbw cW1 cW2 cS1 cS2 cT1 cT2 cT3 HLA hp
    go_upto_region 9 with fail
    go_cut [65] (fun v wx => v = .bool false ∧ Below wq.heap.size wq wx)
    case first =>
      refine wp_region_held_drew (S := (fun W => Below wq.heap.size wq W ∧ (W.cell? ⟨bx, ox + i * 6, none⟩ = some (.string (bs xi)) ∧ W.cell? ⟨bx, ox + i * 6 + 1, none⟩ = some (.string (bs xb)) ∧ W.cell? ⟨bx, ox + i * 6 + 2, none⟩ = some (.int .i64 xs) ∧ W.cell? ⟨bx, ox + i * 6 + 3, none⟩ = some (.int .i64 xt) ∧ W.cell? ⟨bx, ox + i * 6 + 4, none⟩ = some (.int .i64 xa) ∧ W.cell? ⟨bx, ox + i * 6 + 5, none⟩ = some (.string (bs xr))) ∧ (W.cell? ⟨bx, ox + p * 6, none⟩ = some (.string (bs yi)) ∧ W.cell? ⟨bx, ox + p * 6 + 1, none⟩ = some (.string (bs yb)) ∧ W.cell? ⟨bx, ox + p * 6 + 2, none⟩ = some (.int .i64 ys) ∧ W.cell? ⟨bx, ox + p * 6 + 3, none⟩ = some (.int .i64 yt) ∧ W.cell? ⟨bx, ox + p * 6 + 4, none⟩ = some (.int .i64 ya) ∧ W.cell? ⟨bx, ox + p * 6 + 5, none⟩ = some (.string (bs yr))))) (by kernel_rfl) (⟨(Below.refl wq.heap.size wq).drew, FF.out _ (Below.refl wq.heap.size wq).drew⟩) (fun hHeld => ?_)
      refine wpAnyH_take (i := 0) (oi := { dst := some 45, op := Go.Op.move (Go.Operand.tmp 5), type := 35, pos := "law.go:34", after := #[], guard := none }) (v := ?vN0) rfl (by kernel_rfl) (by kernel_rfl) (by kernel_rfl) (fun _ _ _ h => h) (Or.inl ⟨by rfl, ?yN0⟩) (by assumption) ?_
      case yN0 => (intro wX hSw; (try dsimp only at hSw); go_simp <;> with_reducible rfl)
      try simp only [Act.put, List.setIfInBounds_toArray, List.set_cons_zero, List.set_cons_succ]
      refine wpAnyH_take (i := 1) (oi := { dst := some 46, op := Go.Op.move (Go.Operand.tmp 18), type := 3, pos := "law.go:34", after := #[], guard := none }) (v := ?vN1) rfl (by kernel_rfl) (by kernel_rfl) (by kernel_rfl) (fun _ _ _ h => h) (Or.inl ⟨by rfl, ?yN1⟩) (by assumption) ?_
      case yN1 => (intro wX hSw; (try dsimp only at hSw); go_simp <;> with_reducible rfl)
      try simp only [Act.put, List.setIfInBounds_toArray, List.set_cons_zero, List.set_cons_succ]
      refine wpAnyH_take (i := 2) (oi := { dst := some 47, op := Go.Op.indexAddr 35 (Go.Operand.tmp 45) (Go.Operand.tmp 46), type := 0, pos := "law.go:34", after := #[{ on := 0, ground := Go.Ground.data }, { on := 1, ground := Go.Ground.data }], guard := none }) (v := ?vN2) rfl (by kernel_rfl) (by kernel_rfl) (by kernel_rfl) (fun _ _ _ h => h) (Or.inl ⟨by rfl, ?yN2⟩) (by assumption) ?_
      case yN2 => (intro wX hSw; (try dsimp only at hSw); go_simp <;> with_reducible rfl)
      try simp only [Act.put, List.setIfInBounds_toArray, List.set_cons_zero, List.set_cons_succ]
      refine wpAnyH_take (i := 3) (oi := { dst := some 48, op := Go.Op.load 38 (Go.Operand.tmp 47), type := 38, pos := "law.go:34", after := #[{ on := 2, ground := Go.Ground.data }], guard := none }) (v := ?vN3) rfl (by kernel_rfl) (by kernel_rfl) (by kernel_rfl) (fun _ _ _ h => h) (Or.inl ⟨by rfl, ?yN3⟩) (by assumption) ?_
      case yN3 => (intro wX hSw; (try dsimp only at hSw); go_simp <;> with_reducible rfl)
      try simp only [Act.put, List.setIfInBounds_toArray, List.set_cons_zero, List.set_cons_succ]
      refine wpAnyH_take (i := 4) (oi := { dst := some 49, op := Go.Op.move (Go.Operand.tmp 5), type := 35, pos := "law.go:34", after := #[], guard := none }) (v := ?vN4) rfl (by kernel_rfl) (by kernel_rfl) (by kernel_rfl) (fun _ _ _ h => h) (Or.inl ⟨by rfl, ?yN4⟩) (by assumption) ?_
      case yN4 => (intro wX hSw; (try dsimp only at hSw); go_simp <;> with_reducible rfl)
      try simp only [Act.put, List.setIfInBounds_toArray, List.set_cons_zero, List.set_cons_succ]
      refine wpAnyH_take (i := 5) (oi := { dst := some 50, op := Go.Op.move (Go.Operand.tmp 18), type := 3, pos := "law.go:34", after := #[], guard := none }) (v := ?vN5) rfl (by kernel_rfl) (by kernel_rfl) (by kernel_rfl) (fun _ _ _ h => h) (Or.inl ⟨by rfl, ?yN5⟩) (by assumption) ?_
      case yN5 => (intro wX hSw; (try dsimp only at hSw); go_simp <;> with_reducible rfl)
      try simp only [Act.put, List.setIfInBounds_toArray, List.set_cons_zero, List.set_cons_succ]
      refine wpAnyH_take (i := 6) (oi := { dst := some 51, op := Go.Op.binOp Go.BinOp.sub 3 (Go.Operand.tmp 50) (Go.Operand.const (Go.Value.int Go.IntKind.i64 1)) 3, type := 3, pos := "law.go:34", after := #[{ on := 5, ground := Go.Ground.data }], guard := none }) (v := ?vN6) rfl (by kernel_rfl) (by kernel_rfl) (by kernel_rfl) (fun _ _ _ h => h) (Or.inl ⟨by rfl, ?yN6⟩) (by assumption) ?_
      case yN6 => (intro wX hSw; (try dsimp only at hSw); go_simp <;> with_reducible rfl)
      try simp only [Act.put, List.setIfInBounds_toArray, List.set_cons_zero, List.set_cons_succ]
      refine wpAnyH_take (i := 7) (oi := { dst := some 52, op := Go.Op.indexAddr 35 (Go.Operand.tmp 49) (Go.Operand.tmp 51), type := 0, pos := "law.go:34", after := #[{ on := 4, ground := Go.Ground.data }, { on := 6, ground := Go.Ground.data }], guard := none }) (v := ?vN7) rfl (by kernel_rfl) (by kernel_rfl) (by kernel_rfl) (fun _ _ _ h => h) (Or.inl ⟨by rfl, ?yN7⟩) (by assumption) ?_
      case yN7 => (intro wX hSw; (try dsimp only at hSw); go_simp <;> with_reducible rfl)
      try simp only [Act.put, List.setIfInBounds_toArray, List.set_cons_zero, List.set_cons_succ]
      refine wpAnyH_take (i := 8) (oi := { dst := some 53, op := Go.Op.load 38 (Go.Operand.tmp 52), type := 38, pos := "law.go:34", after := #[{ on := 7, ground := Go.Ground.data }], guard := none }) (v := ?vN8) rfl (by kernel_rfl) (by kernel_rfl) (by kernel_rfl) (fun _ _ _ h => h) (Or.inl ⟨by rfl, ?yN8⟩) (by assumption) ?_
      case yN8 => (intro wX hSw; (try dsimp only at hSw); go_simp <;> with_reducible rfl)
      try simp only [Act.put, List.setIfInBounds_toArray, List.set_cons_zero, List.set_cons_succ]
      refine wpAnyH_take (i := 10) (oi := { dst := some 55, op := Go.Op.move (Go.Operand.tmp 5), type := 35, pos := "law.go:34", after := #[], guard := none }) (v := ?vN10) rfl (by kernel_rfl) (by kernel_rfl) (by kernel_rfl) (fun _ _ _ h => h) (Or.inl ⟨by rfl, ?yN10⟩) (by assumption) ?_
      case yN10 => (intro wX hSw; (try dsimp only at hSw); go_simp <;> with_reducible rfl)
      try simp only [Act.put, List.setIfInBounds_toArray, List.set_cons_zero, List.set_cons_succ]
      refine wpAnyH_take (i := 11) (oi := { dst := some 56, op := Go.Op.move (Go.Operand.tmp 18), type := 3, pos := "law.go:34", after := #[], guard := none }) (v := ?vN11) rfl (by kernel_rfl) (by kernel_rfl) (by kernel_rfl) (fun _ _ _ h => h) (Or.inl ⟨by rfl, ?yN11⟩) (by assumption) ?_
      case yN11 => (intro wX hSw; (try dsimp only at hSw); go_simp <;> with_reducible rfl)
      try simp only [Act.put, List.setIfInBounds_toArray, List.set_cons_zero, List.set_cons_succ]
      refine wpAnyH_take (i := 12) (oi := { dst := some 57, op := Go.Op.indexAddr 35 (Go.Operand.tmp 55) (Go.Operand.tmp 56), type := 0, pos := "law.go:34", after := #[{ on := 10, ground := Go.Ground.data }, { on := 11, ground := Go.Ground.data }], guard := none }) (v := ?vN12) rfl (by kernel_rfl) (by kernel_rfl) (by kernel_rfl) (fun _ _ _ h => h) (Or.inl ⟨by rfl, ?yN12⟩) (by assumption) ?_
      case yN12 => (intro wX hSw; (try dsimp only at hSw); go_simp <;> with_reducible rfl)
      try simp only [Act.put, List.setIfInBounds_toArray, List.set_cons_zero, List.set_cons_succ]
      refine wpAnyH_take (i := 13) (oi := { dst := some 58, op := Go.Op.load 38 (Go.Operand.tmp 57), type := 38, pos := "law.go:34", after := #[{ on := 12, ground := Go.Ground.data }], guard := none }) (v := ?vN13) rfl (by kernel_rfl) (by kernel_rfl) (by kernel_rfl) (fun _ _ _ h => h) (Or.inl ⟨by rfl, ?yN13⟩) (by assumption) ?_
      case yN13 => (intro wX hSw; (try dsimp only at hSw); go_simp <;> with_reducible rfl)
      try simp only [Act.put, List.setIfInBounds_toArray, List.set_cons_zero, List.set_cons_succ]
      refine wpAnyH_take (i := 14) (oi := { dst := some 59, op := Go.Op.move (Go.Operand.tmp 5), type := 35, pos := "law.go:34", after := #[], guard := none }) (v := ?vN14) rfl (by kernel_rfl) (by kernel_rfl) (by kernel_rfl) (fun _ _ _ h => h) (Or.inl ⟨by rfl, ?yN14⟩) (by assumption) ?_
      case yN14 => (intro wX hSw; (try dsimp only at hSw); go_simp <;> with_reducible rfl)
      try simp only [Act.put, List.setIfInBounds_toArray, List.set_cons_zero, List.set_cons_succ]
      refine wpAnyH_take (i := 15) (oi := { dst := some 60, op := Go.Op.move (Go.Operand.tmp 18), type := 3, pos := "law.go:34", after := #[], guard := none }) (v := ?vN15) rfl (by kernel_rfl) (by kernel_rfl) (by kernel_rfl) (fun _ _ _ h => h) (Or.inl ⟨by rfl, ?yN15⟩) (by assumption) ?_
      case yN15 => (intro wX hSw; (try dsimp only at hSw); go_simp <;> with_reducible rfl)
      try simp only [Act.put, List.setIfInBounds_toArray, List.set_cons_zero, List.set_cons_succ]
      refine wpAnyH_take (i := 16) (oi := { dst := some 61, op := Go.Op.binOp Go.BinOp.sub 3 (Go.Operand.tmp 60) (Go.Operand.const (Go.Value.int Go.IntKind.i64 1)) 3, type := 3, pos := "law.go:34", after := #[{ on := 15, ground := Go.Ground.data }], guard := none }) (v := ?vN16) rfl (by kernel_rfl) (by kernel_rfl) (by kernel_rfl) (fun _ _ _ h => h) (Or.inl ⟨by rfl, ?yN16⟩) (by assumption) ?_
      case yN16 => (intro wX hSw; (try dsimp only at hSw); go_simp <;> with_reducible rfl)
      try simp only [Act.put, List.setIfInBounds_toArray, List.set_cons_zero, List.set_cons_succ]
      refine wpAnyH_take (i := 17) (oi := { dst := some 62, op := Go.Op.indexAddr 35 (Go.Operand.tmp 59) (Go.Operand.tmp 61), type := 0, pos := "law.go:34", after := #[{ on := 14, ground := Go.Ground.data }, { on := 16, ground := Go.Ground.data }], guard := none }) (v := ?vN17) rfl (by kernel_rfl) (by kernel_rfl) (by kernel_rfl) (fun _ _ _ h => h) (Or.inl ⟨by rfl, ?yN17⟩) (by assumption) ?_
      case yN17 => (intro wX hSw; (try dsimp only at hSw); go_simp <;> with_reducible rfl)
      try simp only [Act.put, List.setIfInBounds_toArray, List.set_cons_zero, List.set_cons_succ]
      refine wpAnyH_take (i := 18) (oi := { dst := some 63, op := Go.Op.load 38 (Go.Operand.tmp 62), type := 38, pos := "law.go:34", after := #[{ on := 17, ground := Go.Ground.data }], guard := none }) (v := ?vN18) rfl (by kernel_rfl) (by kernel_rfl) (by kernel_rfl) (fun _ _ _ h => h) (Or.inl ⟨by rfl, ?yN18⟩) (by assumption) ?_
      case yN18 => (intro wX hSw; (try dsimp only at hSw); go_simp <;> with_reducible rfl)
      try simp only [Act.put, List.setIfInBounds_toArray, List.set_cons_zero, List.set_cons_succ]
      refine wpAnyH_ready (rs := [9]) (by kernel_rfl) (by simp) (AllReadyH.cons (o := { dst := some 54, op := Go.Op.call { callee := Go.Callee.value (Go.Operand.func 16), args := #[Go.Operand.tmp 48, Go.Operand.tmp 53], argTypes := #[38, 38] }, type := 4, pos := "law.go:34", after := #[{ on := 3, ground := Go.Ground.data }, { on := 8, ground := Go.Ground.data }], guard := none }) rfl (fun K hK => ?_) AllReadyH.nil)
      (go_simp; go_at_call 16; refine (cL1 _ ((Below.refl wq.heap.size wq).drew)).mono ?_; rintro e wc0 ⟨rfl, hbc0⟩)
      refine hK.out _ _ (⟨((Below.refl wq.heap.size wq).drew).trans (hbc0.mono ((Below.refl wq.heap.size wq).drew).size), FF.out _ (((Below.refl wq.heap.size wq).drew).trans (hbc0.mono ((Below.refl wq.heap.size wq).drew).size))⟩) (fun hHeld => ?_)
      clear hK K
      try simp only [Act.put, List.setIfInBounds_toArray, List.set_cons_zero, List.set_cons_succ]
      refine wpAnyH_ready (rs := [19]) (by kernel_rfl) (by simp) (AllReadyH.cons (o := { dst := some 64, op := Go.Op.call { callee := Go.Callee.value (Go.Operand.func 17), args := #[Go.Operand.tmp 58, Go.Operand.tmp 63], argTypes := #[38, 38] }, type := 4, pos := "law.go:34", after := #[{ on := 13, ground := Go.Ground.data }, { on := 18, ground := Go.Ground.data }, { on := 9, ground := Go.Ground.chain }], guard := none }) rfl (fun K hK => ?_) AllReadyH.nil)
      (go_simp; go_at_call 17; refine (cL2 _ (hHeld.1)).mono ?_; rintro e wc1 ⟨rfl, hbc1⟩)
      refine hK.out _ _ (⟨(hHeld.1).trans (hbc1.mono (hHeld.1).size), FF.out _ ((hHeld.1).trans (hbc1.mono (hHeld.1).size))⟩) (fun hHeld => ?_)
      clear hK K
      try simp only [Act.put, List.setIfInBounds_toArray, List.set_cons_zero, List.set_cons_succ]
      refine wpAnyH_take (i := 20) (oi := { dst := some 65, op := Go.Op.binOp Go.BinOp.neq 4 (Go.Operand.tmp 54) (Go.Operand.tmp 64) 4, type := 4, pos := "law.go:34", after := #[{ on := 9, ground := Go.Ground.data }, { on := 19, ground := Go.Ground.data }], guard := none }) (v := ?vN20) rfl (by kernel_rfl) (by kernel_rfl) (by kernel_rfl) (fun _ _ _ h => h) (Or.inl ⟨by rfl, ?yN20⟩) (by assumption) ?_
      case yN20 => (intro wX hSw; (try dsimp only at hSw); go_simp <;> with_reducible rfl)
      try simp only [Act.put, List.setIfInBounds_toArray, List.set_cons_zero, List.set_cons_succ]
      refine wpAnyH_done (by kernel_rfl) ?_ _
      go_wp2
      go_meet
      exact ⟨rfl, hHeld.1⟩
    case rest =>
    obtain ⟨rfl, hb9⟩ := hcut
    have HB9 := Lib.hid (HBW.out.trans (hb9.mono HBW.out.size))
    clear hb9 FF cL1 cL2
    go_wp2
    go_roundw
    case rel => exact ⟨i + 1, by go_num, by omega, by omega, HB9.out⟩
    case measure => simp [intOf]; omega
  · have di : decide ((i : Int) < (n : Int)) = false := decide_eq_false (by omega)
    have diN : decide (i < n) = false := decide_eq_false hin
    have hk : ∀ W, Below wq.heap.size wq W → Below wb.heap.size wb W := fun W hb => hbw.trans (hb.mono hbw.size)
    have FF : Hid (∀ W, Below wq.heap.size wq W → (W.cell? ⟨w.heap.size, 0, none⟩ = some (.int .i64 a) ∧ W.cell? ⟨w.heap.size, 1, none⟩ = some (.int .i64 b) ∧ W.cell? ⟨w.heap.size, 2, none⟩ = some (.int .i64 c) ∧ W.cell? ⟨w.heap.size, 3, none⟩ = some (.int .i64 d)) ∧ (W.cell? ⟨w.heap.size + 1, 0, none⟩ = some (.int .i64 ta) ∧ W.cell? ⟨w.heap.size + 1, 1, none⟩ = some (.int .i64 tb) ∧ W.cell? ⟨w.heap.size + 1, 2, none⟩ = some (.int .i64 tc)) ∧ (W.cell? ⟨w2.heap.size, 0, none⟩ = some (.int .i64 x1) ∧ W.cell? ⟨w2.heap.size, 1, none⟩ = some (.int .i64 x2) ∧ W.cell? ⟨w2.heap.size, 2, none⟩ = some (.int .i64 x3) ∧ W.cell? ⟨w2.heap.size, 3, none⟩ = some (.int .i64 x4)) ∧ (W.cell? ⟨w3.heap.size, 0, none⟩ = some (.int .i64 x1) ∧ W.cell? ⟨w3.heap.size, 1, none⟩ = some (.int .i64 x2) ∧ W.cell? ⟨w3.heap.size, 2, none⟩ = some (.int .i64 x3) ∧ W.cell? ⟨w3.heap.size, 3, none⟩ = some (.int .i64 x4))) := fun W hb =>
      ⟨fourT (keep_blk (hk W hb) M6.out), threeT (keep_blk (hk W hb) M8.out), fourT (keep_blk (hk W hb) M14.out), fourT (keep_blk (hk W hb) M16.out)⟩
    have HKL : Hid (∀ W, Below wq.heap.size wq W → LaidA W) := fun W hb => HLA.out.below (hk W hb)
    have HKC : Hid (∀ W, Below wq.heap.size wq W → CRow W A0 l) := fun W hb => by
      have hb2 := HB.out.trans ((hk W hb).mono HB.out.size)
      exact HL.out.below hb2
    replace cW1 := fun W (hb : Below wq.heap.size wq W) => cW1 W (HKL.out W hb).i
    replace cW2 := fun W (hb : Below wq.heap.size wq W) => cW2 W
    replace cS1 := fun W (hb : Below wq.heap.size wq W) => cS1 W
    replace cS2 := fun W (hb : Below wq.heap.size wq W) => cS2 W
    replace cT1 := fun W (hb : Below wq.heap.size wq W) => cT1 W (HKC.out W hb)
    replace cT2 := fun W (hb : Below wq.heap.size wq W) => cT2 W (HKC.out W hb)
    have qw := eql_wts x1 x2 x3 x4
    have qk : ∀ W, (binOp .eql 4 (.bool ok) (.bool ok)).run Tryd.prog W = .ok (.bool true) W := fun W => by cases ok <;> rfl
    have tww : (WB == WB) = true := by simp
    have HFB := Lib.hid (HB.out.trans (hbw.mono HB.out.size))
    clear hbw hk HKL HKC HLA HL HB M6 M8 M14 M16 hin hi hi1
    go_upto_region 11 with fail
    refine wp_region_held_drew (S := (fun W => Below wq.heap.size wq W ∧ (W.cell? ⟨w.heap.size, 0, none⟩ = some (.int .i64 a) ∧ W.cell? ⟨w.heap.size, 1, none⟩ = some (.int .i64 b) ∧ W.cell? ⟨w.heap.size, 2, none⟩ = some (.int .i64 c) ∧ W.cell? ⟨w.heap.size, 3, none⟩ = some (.int .i64 d)) ∧ (W.cell? ⟨w.heap.size + 1, 0, none⟩ = some (.int .i64 ta) ∧ W.cell? ⟨w.heap.size + 1, 1, none⟩ = some (.int .i64 tb) ∧ W.cell? ⟨w.heap.size + 1, 2, none⟩ = some (.int .i64 tc)) ∧ (W.cell? ⟨w2.heap.size, 0, none⟩ = some (.int .i64 x1) ∧ W.cell? ⟨w2.heap.size, 1, none⟩ = some (.int .i64 x2) ∧ W.cell? ⟨w2.heap.size, 2, none⟩ = some (.int .i64 x3) ∧ W.cell? ⟨w2.heap.size, 3, none⟩ = some (.int .i64 x4)) ∧ (W.cell? ⟨w3.heap.size, 0, none⟩ = some (.int .i64 x1) ∧ W.cell? ⟨w3.heap.size, 1, none⟩ = some (.int .i64 x2) ∧ W.cell? ⟨w3.heap.size, 2, none⟩ = some (.int .i64 x3) ∧ W.cell? ⟨w3.heap.size, 3, none⟩ = some (.int .i64 x4)))) (by kernel_rfl) (⟨(Below.refl wq.heap.size wq).drew, FF.out _ (Below.refl wq.heap.size wq).drew⟩) (fun hHeld => ?_)
    refine wpAnyH_take (i := 0) (oi := { dst := some 66, op := Go.Op.move (Go.Operand.tmp 13), type := 4, pos := "law.go:38", after := #[], guard := none }) (v := ?vE0) rfl (by kernel_rfl) (by kernel_rfl) (by kernel_rfl) (fun _ _ _ h => h) (Or.inl ⟨by rfl, ?yE0⟩) (by assumption) ?_
    case yE0 => (intro wX hSw; (try dsimp only at hSw); go_simp <;> with_reducible rfl)
    try simp only [Act.put, List.setIfInBounds_toArray, List.set_cons_zero, List.set_cons_succ]
    refine wpAnyH_take (i := 1) (oi := { dst := some 67, op := Go.Op.move (Go.Operand.tmp 66), type := 4, pos := "law.go:38", after := #[{ on := 0, ground := Go.Ground.data }], guard := none }) (v := ?vE1) rfl (by kernel_rfl) (by kernel_rfl) (by kernel_rfl) (fun _ _ _ h => h) (Or.inl ⟨by rfl, ?yE1⟩) (by assumption) ?_
    case yE1 => (intro wX hSw; (try dsimp only at hSw); go_simp <;> with_reducible rfl)
    try simp only [Act.put, List.setIfInBounds_toArray, List.set_cons_zero, List.set_cons_succ]
    refine wpAnyH_take (i := 2) (oi := { dst := some 68, op := Go.Op.load 23 (Go.Operand.tmp 14), type := 23, pos := "law.go:38", after := #[{ on := 1, ground := Go.Ground.guard }], guard := some (1, true) }) (v := ?vE2) rfl (by kernel_rfl) (by kernel_rfl) (by kernel_rfl) (fun _ _ _ h => h) (Or.inl ⟨by rfl, ?yE2⟩) (by assumption) ?_
    case yE2 => (intro wX hSw; (try dsimp only at hSw); go_simp <;> with_reducible rfl)
    try simp only [Act.put, List.setIfInBounds_toArray, List.set_cons_zero, List.set_cons_succ]
    refine wpAnyH_take (i := 3) (oi := { dst := some 69, op := Go.Op.load 23 (Go.Operand.tmp 16), type := 23, pos := "law.go:38", after := #[{ on := 1, ground := Go.Ground.guard }], guard := some (1, true) }) (v := ?vE3) rfl (by kernel_rfl) (by kernel_rfl) (by kernel_rfl) (fun _ _ _ h => h) (Or.inl ⟨by rfl, ?yE3⟩) (by assumption) ?_
    case yE3 => (intro wX hSw; (try dsimp only at hSw); go_simp <;> with_reducible rfl)
    try simp only [Act.put, List.setIfInBounds_toArray, List.set_cons_zero, List.set_cons_succ]
    refine wpAnyH_take (i := 4) (oi := { dst := some 70, op := Go.Op.binOp Go.BinOp.eql 23 (Go.Operand.tmp 68) (Go.Operand.tmp 69) 23, type := 4, pos := "law.go:38", after := #[{ on := 2, ground := Go.Ground.data }, { on := 3, ground := Go.Ground.data }, { on := 1, ground := Go.Ground.guard }], guard := some (1, true) }) (v := ?vE4) rfl (by kernel_rfl) (by kernel_rfl) (by kernel_rfl) (fun _ _ _ h => h) (Or.inl ⟨by rfl, ?yE4⟩) (by assumption) ?_
    case yE4 => (intro wX hSw; (try dsimp only at hSw); go_simp <;> with_reducible rfl)
    try simp only [Act.put, List.setIfInBounds_toArray, List.set_cons_zero, List.set_cons_succ]
    refine wpAnyH_take (i := 5) (oi := { dst := some 71, op := Go.Op.pick (Go.Operand.tmp 67) (Go.Operand.tmp 70) (Go.Operand.const (Go.Value.bool false)), type := 4, pos := "law.go:38", after := #[{ on := 1, ground := Go.Ground.data }, { on := 4, ground := Go.Ground.data }], guard := none }) (v := ?vE5) rfl (by kernel_rfl) (by kernel_rfl) (by kernel_rfl) (fun _ _ _ h => h) (Or.inl ⟨by rfl, ?yE5⟩) (by assumption) ?_
    case yE5 => (intro wX hSw; (try dsimp only at hSw); go_simp <;> with_reducible rfl)
    try simp only [Act.put, List.setIfInBounds_toArray, List.set_cons_zero, List.set_cons_succ]
    refine wpAnyH_take (i := 6) (oi := { dst := some 72, op := Go.Op.move (Go.Operand.tmp 71), type := 4, pos := "law.go:38", after := #[{ on := 5, ground := Go.Ground.data }, { on := 1, ground := Go.Ground.chain }], guard := none }) (v := ?vE6) rfl (by kernel_rfl) (by kernel_rfl) (by kernel_rfl) (fun _ _ _ h => h) (Or.inl ⟨by rfl, ?yE6⟩) (by assumption) ?_
    case yE6 => (intro wX hSw; (try dsimp only at hSw); go_simp <;> with_reducible rfl)
    try simp only [Act.put, List.setIfInBounds_toArray, List.set_cons_zero, List.set_cons_succ]
    refine wpAnyH_take (i := 7) (oi := { dst := some 73, op := Go.Op.move (Go.Operand.tmp 15), type := 4, pos := "law.go:38", after := #[{ on := 6, ground := Go.Ground.guard }], guard := some (6, true) }) (v := ?vE7) rfl (by kernel_rfl) (by kernel_rfl) (by kernel_rfl) (fun _ _ _ h => h) (Or.inl ⟨by rfl, ?yE7⟩) (by assumption) ?_
    case yE7 => (intro wX hSw; (try dsimp only at hSw); go_simp <;> with_reducible rfl)
    try simp only [Act.put, List.setIfInBounds_toArray, List.set_cons_zero, List.set_cons_succ]
    refine wpAnyH_take (i := 8) (oi := { dst := some 74, op := Go.Op.move (Go.Operand.tmp 17), type := 4, pos := "law.go:38", after := #[{ on := 6, ground := Go.Ground.guard }], guard := some (6, true) }) (v := ?vE8) rfl (by kernel_rfl) (by kernel_rfl) (by kernel_rfl) (fun _ _ _ h => h) (Or.inl ⟨by rfl, ?yE8⟩) (by assumption) ?_
    case yE8 => (intro wX hSw; (try dsimp only at hSw); go_simp <;> with_reducible rfl)
    try simp only [Act.put, List.setIfInBounds_toArray, List.set_cons_zero, List.set_cons_succ]
    refine wpAnyH_take (i := 9) (oi := { dst := some 75, op := Go.Op.binOp Go.BinOp.eql 4 (Go.Operand.tmp 73) (Go.Operand.tmp 74) 4, type := 4, pos := "law.go:38", after := #[{ on := 7, ground := Go.Ground.data }, { on := 8, ground := Go.Ground.data }, { on := 6, ground := Go.Ground.guard }], guard := some (6, true) }) (v := ?vE9) rfl (by kernel_rfl) (by kernel_rfl) (by kernel_rfl) (fun _ _ _ h => h) (Or.inl ⟨by rfl, ?yE9⟩) (by assumption) ?_
    case yE9 => (intro wX hSw; (try dsimp only at hSw); go_simp <;> with_reducible rfl)
    try simp only [Act.put, List.setIfInBounds_toArray, List.set_cons_zero, List.set_cons_succ]
    refine wpAnyH_take (i := 10) (oi := { dst := some 76, op := Go.Op.pick (Go.Operand.tmp 72) (Go.Operand.tmp 75) (Go.Operand.const (Go.Value.bool false)), type := 4, pos := "law.go:38", after := #[{ on := 6, ground := Go.Ground.data }, { on := 9, ground := Go.Ground.data }], guard := none }) (v := ?vE10) rfl (by kernel_rfl) (by kernel_rfl) (by kernel_rfl) (fun _ _ _ h => h) (Or.inl ⟨by rfl, ?yE10⟩) (by assumption) ?_
    case yE10 => (intro wX hSw; (try dsimp only at hSw); go_simp <;> with_reducible rfl)
    try simp only [Act.put, List.setIfInBounds_toArray, List.set_cons_zero, List.set_cons_succ]
    refine wpAnyH_take (i := 11) (oi := { dst := some 77, op := Go.Op.move (Go.Operand.tmp 76), type := 4, pos := "law.go:38", after := #[{ on := 10, ground := Go.Ground.data }, { on := 6, ground := Go.Ground.chain }], guard := none }) (v := ?vE11) rfl (by kernel_rfl) (by kernel_rfl) (by kernel_rfl) (fun _ _ _ h => h) (Or.inl ⟨by rfl, ?yE11⟩) (by assumption) ?_
    case yE11 => (intro wX hSw; (try dsimp only at hSw); go_simp <;> with_reducible rfl)
    try simp only [Act.put, List.setIfInBounds_toArray, List.set_cons_zero, List.set_cons_succ]
    refine wpAnyH_take (i := 12) (oi := { dst := some 78, op := Go.Op.load 23 (Go.Operand.tmp 6), type := 23, pos := "law.go:38", after := #[{ on := 11, ground := Go.Ground.guard }], guard := some (11, true) }) (v := ?vE12) rfl (by kernel_rfl) (by kernel_rfl) (by kernel_rfl) (fun _ _ _ h => h) (Or.inl ⟨by rfl, ?yE12⟩) (by assumption) ?_
    case yE12 => (intro wX hSw; (try dsimp only at hSw); go_simp <;> with_reducible rfl)
    try simp only [Act.put, List.setIfInBounds_toArray, List.set_cons_zero, List.set_cons_succ]
    refine wpAnyH_take (i := 14) (oi := { dst := some 80, op := Go.Op.load 23 (Go.Operand.tmp 6), type := 23, pos := "law.go:38", after := #[{ on := 11, ground := Go.Ground.guard }], guard := some (11, true) }) (v := ?vE14) rfl (by kernel_rfl) (by kernel_rfl) (by kernel_rfl) (fun _ _ _ h => h) (Or.inl ⟨by rfl, ?yE14⟩) (by assumption) ?_
    case yE14 => (intro wX hSw; (try dsimp only at hSw); go_simp <;> with_reducible rfl)
    try simp only [Act.put, List.setIfInBounds_toArray, List.set_cons_zero, List.set_cons_succ]
    refine wpAnyH_ready (rs := [13]) (by kernel_rfl) (by simp) (AllReadyH.cons (o := { dst := some 79, op := Go.Op.call { callee := Go.Callee.value (Go.Operand.func 10), args := #[Go.Operand.tmp 78], argTypes := #[23] }, type := 9, pos := "law.go:38", after := #[{ on := 12, ground := Go.Ground.data }, { on := 11, ground := Go.Ground.chain }, { on := 11, ground := Go.Ground.guard }], guard := some (11, true) }) rfl (fun K hK => ?_) AllReadyH.nil)
    (go_simp; go_at_call 10; refine (cW1 _ ((Below.refl wq.heap.size wq).drew)).mono ?_; rintro e wc0 ⟨rfl, hbc0⟩)
    refine hK.out _ _ (⟨((Below.refl wq.heap.size wq).drew).trans (hbc0.mono ((Below.refl wq.heap.size wq).drew).size), FF.out _ (((Below.refl wq.heap.size wq).drew).trans (hbc0.mono ((Below.refl wq.heap.size wq).drew).size))⟩) (fun hHeld => ?_)
    clear hK K
    try simp only [Act.put, List.setIfInBounds_toArray, List.set_cons_zero, List.set_cons_succ]
    refine wpAnyH_ready (rs := [15]) (by kernel_rfl) (by simp) (AllReadyH.cons (o := { dst := some 81, op := Go.Op.call { callee := Go.Callee.value (Go.Operand.func 18), args := #[Go.Operand.tmp 80], argTypes := #[23] }, type := 9, pos := "law.go:38", after := #[{ on := 14, ground := Go.Ground.data }, { on := 13, ground := Go.Ground.chain }, { on := 11, ground := Go.Ground.guard }], guard := some (11, true) }) rfl (fun K hK => ?_) AllReadyH.nil)
    (go_simp; go_at_call 18; refine (cW2 _ (hHeld.1)).mono ?_; rintro e wc1 ⟨rfl, hbc1⟩)
    refine hK.out _ _ (⟨(hHeld.1).trans (hbc1.mono (hHeld.1).size), FF.out _ ((hHeld.1).trans (hbc1.mono (hHeld.1).size))⟩) (fun hHeld => ?_)
    clear hK K
    try simp only [Act.put, List.setIfInBounds_toArray, List.set_cons_zero, List.set_cons_succ]
    refine wpAnyH_take (i := 16) (oi := { dst := some 82, op := Go.Op.binOp Go.BinOp.eql 9 (Go.Operand.tmp 79) (Go.Operand.tmp 81) 9, type := 4, pos := "law.go:38", after := #[{ on := 13, ground := Go.Ground.data }, { on := 15, ground := Go.Ground.data }, { on := 11, ground := Go.Ground.guard }], guard := some (11, true) }) (v := ?vE16) rfl (by kernel_rfl) (by kernel_rfl) (by kernel_rfl) (fun _ _ _ h => h) (Or.inl ⟨by rfl, ?yE16⟩) (by assumption) ?_
    case yE16 => (intro wX hSw; (try dsimp only at hSw); go_simp <;> with_reducible rfl)
    try simp only [Act.put, List.setIfInBounds_toArray, List.set_cons_zero, List.set_cons_succ]
    refine wpAnyH_take (i := 17) (oi := { dst := some 83, op := Go.Op.pick (Go.Operand.tmp 77) (Go.Operand.tmp 82) (Go.Operand.const (Go.Value.bool false)), type := 4, pos := "law.go:38", after := #[{ on := 11, ground := Go.Ground.data }, { on := 16, ground := Go.Ground.data }], guard := none }) (v := ?vE17) rfl (by kernel_rfl) (by kernel_rfl) (by kernel_rfl) (fun _ _ _ h => h) (Or.inl ⟨by rfl, ?yE17⟩) (by assumption) ?_
    case yE17 => (intro wX hSw; (try dsimp only at hSw); go_simp <;> with_reducible rfl)
    try simp only [Act.put, List.setIfInBounds_toArray, List.set_cons_zero, List.set_cons_succ]
    refine wpAnyH_take (i := 18) (oi := { dst := some 84, op := Go.Op.move (Go.Operand.tmp 83), type := 4, pos := "law.go:38", after := #[{ on := 17, ground := Go.Ground.data }, { on := 15, ground := Go.Ground.chain }], guard := none }) (v := ?vE18) rfl (by kernel_rfl) (by kernel_rfl) (by kernel_rfl) (fun _ _ _ h => h) (Or.inl ⟨by rfl, ?yE18⟩) (by assumption) ?_
    case yE18 => (intro wX hSw; (try dsimp only at hSw); go_simp <;> with_reducible rfl)
    try simp only [Act.put, List.setIfInBounds_toArray, List.set_cons_zero, List.set_cons_succ]
    refine wpAnyH_take (i := 19) (oi := { dst := some 85, op := Go.Op.load 23 (Go.Operand.tmp 6), type := 23, pos := "law.go:38", after := #[{ on := 18, ground := Go.Ground.guard }], guard := some (18, true) }) (v := ?vE19) rfl (by kernel_rfl) (by kernel_rfl) (by kernel_rfl) (fun _ _ _ h => h) (Or.inl ⟨by rfl, ?yE19⟩) (by assumption) ?_
    case yE19 => (intro wX hSw; (try dsimp only at hSw); go_simp <;> with_reducible rfl)
    try simp only [Act.put, List.setIfInBounds_toArray, List.set_cons_zero, List.set_cons_succ]
    refine wpAnyH_take (i := 20) (oi := { dst := some 86, op := Go.Op.load 31 (Go.Operand.tmp 8), type := 31, pos := "law.go:38", after := #[{ on := 18, ground := Go.Ground.guard }], guard := some (18, true) }) (v := ?vE20) rfl (by kernel_rfl) (by kernel_rfl) (by kernel_rfl) (fun _ _ _ h => h) (Or.inl ⟨by rfl, ?yE20⟩) (by assumption) ?_
    case yE20 => (intro wX hSw; (try dsimp only at hSw); go_simp <;> with_reducible rfl)
    try simp only [Act.put, List.setIfInBounds_toArray, List.set_cons_zero, List.set_cons_succ]
    refine wpAnyH_take (i := 21) (oi := { dst := some 87, op := Go.Op.move (Go.Operand.tmp 3), type := 3, pos := "law.go:38", after := #[{ on := 18, ground := Go.Ground.guard }], guard := some (18, true) }) (v := ?vE21) rfl (by kernel_rfl) (by kernel_rfl) (by kernel_rfl) (fun _ _ _ h => h) (Or.inl ⟨by rfl, ?yE21⟩) (by assumption) ?_
    case yE21 => (intro wX hSw; (try dsimp only at hSw); go_simp <;> with_reducible rfl)
    try simp only [Act.put, List.setIfInBounds_toArray, List.set_cons_zero, List.set_cons_succ]
    refine wpAnyH_take (i := 22) (oi := { dst := some 88, op := Go.Op.move (Go.Operand.tmp 4), type := 3, pos := "law.go:38", after := #[{ on := 18, ground := Go.Ground.guard }], guard := some (18, true) }) (v := ?vE22) rfl (by kernel_rfl) (by kernel_rfl) (by kernel_rfl) (fun _ _ _ h => h) (Or.inl ⟨by rfl, ?yE22⟩) (by assumption) ?_
    case yE22 => (intro wX hSw; (try dsimp only at hSw); go_simp <;> with_reducible rfl)
    try simp only [Act.put, List.setIfInBounds_toArray, List.set_cons_zero, List.set_cons_succ]
    refine wpAnyH_take (i := 24) (oi := { dst := some 90, op := Go.Op.load 23 (Go.Operand.tmp 6), type := 23, pos := "law.go:38", after := #[{ on := 18, ground := Go.Ground.guard }], guard := some (18, true) }) (v := ?vE24) rfl (by kernel_rfl) (by kernel_rfl) (by kernel_rfl) (fun _ _ _ h => h) (Or.inl ⟨by rfl, ?yE24⟩) (by assumption) ?_
    case yE24 => (intro wX hSw; (try dsimp only at hSw); go_simp <;> with_reducible rfl)
    try simp only [Act.put, List.setIfInBounds_toArray, List.set_cons_zero, List.set_cons_succ]
    refine wpAnyH_take (i := 25) (oi := { dst := some 91, op := Go.Op.load 31 (Go.Operand.tmp 8), type := 31, pos := "law.go:38", after := #[{ on := 18, ground := Go.Ground.guard }], guard := some (18, true) }) (v := ?vE25) rfl (by kernel_rfl) (by kernel_rfl) (by kernel_rfl) (fun _ _ _ h => h) (Or.inl ⟨by rfl, ?yE25⟩) (by assumption) ?_
    case yE25 => (intro wX hSw; (try dsimp only at hSw); go_simp <;> with_reducible rfl)
    try simp only [Act.put, List.setIfInBounds_toArray, List.set_cons_zero, List.set_cons_succ]
    refine wpAnyH_take (i := 26) (oi := { dst := some 92, op := Go.Op.move (Go.Operand.tmp 3), type := 3, pos := "law.go:38", after := #[{ on := 18, ground := Go.Ground.guard }], guard := some (18, true) }) (v := ?vE26) rfl (by kernel_rfl) (by kernel_rfl) (by kernel_rfl) (fun _ _ _ h => h) (Or.inl ⟨by rfl, ?yE26⟩) (by assumption) ?_
    case yE26 => (intro wX hSw; (try dsimp only at hSw); go_simp <;> with_reducible rfl)
    try simp only [Act.put, List.setIfInBounds_toArray, List.set_cons_zero, List.set_cons_succ]
    refine wpAnyH_take (i := 27) (oi := { dst := some 93, op := Go.Op.move (Go.Operand.tmp 4), type := 3, pos := "law.go:38", after := #[{ on := 18, ground := Go.Ground.guard }], guard := some (18, true) }) (v := ?vE27) rfl (by kernel_rfl) (by kernel_rfl) (by kernel_rfl) (fun _ _ _ h => h) (Or.inl ⟨by rfl, ?yE27⟩) (by assumption) ?_
    case yE27 => (intro wX hSw; (try dsimp only at hSw); go_simp <;> with_reducible rfl)
    try simp only [Act.put, List.setIfInBounds_toArray, List.set_cons_zero, List.set_cons_succ]
    refine wpAnyH_ready (rs := [23]) (by kernel_rfl) (by simp) (AllReadyH.cons (o := { dst := some 89, op := Go.Op.call { callee := Go.Callee.value (Go.Operand.func 12), args := #[Go.Operand.tmp 85, Go.Operand.tmp 86, Go.Operand.tmp 87, Go.Operand.tmp 88], argTypes := #[23, 31, 3, 3] }, type := 3, pos := "law.go:38", after := #[{ on := 19, ground := Go.Ground.data }, { on := 20, ground := Go.Ground.data }, { on := 21, ground := Go.Ground.data }, { on := 22, ground := Go.Ground.data }, { on := 18, ground := Go.Ground.chain }, { on := 18, ground := Go.Ground.guard }], guard := some (18, true) }) rfl (fun K hK => ?_) AllReadyH.nil)
    (go_simp; go_at_call 12; refine (cS1 _ (hHeld.1)).mono ?_; rintro e wc2 ⟨rfl, hbc2⟩)
    refine hK.out _ _ (⟨(hHeld.1).trans (hbc2.mono (hHeld.1).size), FF.out _ ((hHeld.1).trans (hbc2.mono (hHeld.1).size))⟩) (fun hHeld => ?_)
    clear hK K
    try simp only [Act.put, List.setIfInBounds_toArray, List.set_cons_zero, List.set_cons_succ]
    refine wpAnyH_ready (rs := [28]) (by kernel_rfl) (by simp) (AllReadyH.cons (o := { dst := some 94, op := Go.Op.call { callee := Go.Callee.value (Go.Operand.func 19), args := #[Go.Operand.tmp 90, Go.Operand.tmp 91, Go.Operand.tmp 92, Go.Operand.tmp 93], argTypes := #[23, 31, 3, 3] }, type := 3, pos := "law.go:38", after := #[{ on := 24, ground := Go.Ground.data }, { on := 25, ground := Go.Ground.data }, { on := 26, ground := Go.Ground.data }, { on := 27, ground := Go.Ground.data }, { on := 23, ground := Go.Ground.chain }, { on := 18, ground := Go.Ground.guard }], guard := some (18, true) }) rfl (fun K hK => ?_) AllReadyH.nil)
    (go_simp; go_at_call 19; refine (cS2 _ (hHeld.1)).mono ?_; rintro e wc3 ⟨rfl, hbc3⟩)
    refine hK.out _ _ (⟨(hHeld.1).trans (hbc3.mono (hHeld.1).size), FF.out _ ((hHeld.1).trans (hbc3.mono (hHeld.1).size))⟩) (fun hHeld => ?_)
    clear hK K
    try simp only [Act.put, List.setIfInBounds_toArray, List.set_cons_zero, List.set_cons_succ]
    refine wpAnyH_take (i := 29) (oi := { dst := some 95, op := Go.Op.binOp Go.BinOp.eql 3 (Go.Operand.tmp 89) (Go.Operand.tmp 94) 3, type := 4, pos := "law.go:38", after := #[{ on := 23, ground := Go.Ground.data }, { on := 28, ground := Go.Ground.data }, { on := 18, ground := Go.Ground.guard }], guard := some (18, true) }) (v := ?vE29) rfl (by kernel_rfl) (by kernel_rfl) (by kernel_rfl) (fun _ _ _ h => h) (Or.inl ⟨by rfl, ?yE29⟩) (by assumption) ?_
    case yE29 => (intro wX hSw; (try dsimp only at hSw); go_simp <;> with_reducible rfl)
    try simp only [Act.put, List.setIfInBounds_toArray, List.set_cons_zero, List.set_cons_succ]
    refine wpAnyH_take (i := 30) (oi := { dst := some 96, op := Go.Op.pick (Go.Operand.tmp 84) (Go.Operand.tmp 95) (Go.Operand.const (Go.Value.bool false)), type := 4, pos := "law.go:38", after := #[{ on := 18, ground := Go.Ground.data }, { on := 29, ground := Go.Ground.data }], guard := none }) (v := ?vE30) rfl (by kernel_rfl) (by kernel_rfl) (by kernel_rfl) (fun _ _ _ h => h) (Or.inl ⟨by rfl, ?yE30⟩) (by assumption) ?_
    case yE30 => (intro wX hSw; (try dsimp only at hSw); go_simp <;> with_reducible rfl)
    try simp only [Act.put, List.setIfInBounds_toArray, List.set_cons_zero, List.set_cons_succ]
    refine wpAnyH_take (i := 31) (oi := { dst := some 97, op := Go.Op.move (Go.Operand.tmp 96), type := 4, pos := "law.go:38", after := #[{ on := 30, ground := Go.Ground.data }, { on := 28, ground := Go.Ground.chain }], guard := none }) (v := ?vE31) rfl (by kernel_rfl) (by kernel_rfl) (by kernel_rfl) (fun _ _ _ h => h) (Or.inl ⟨by rfl, ?yE31⟩) (by assumption) ?_
    case yE31 => (intro wX hSw; (try dsimp only at hSw); go_simp <;> with_reducible rfl)
    try simp only [Act.put, List.setIfInBounds_toArray, List.set_cons_zero, List.set_cons_succ]
    refine wpAnyH_take (i := 32) (oi := { dst := some 98, op := Go.Op.move (Go.Operand.tmp 5), type := 35, pos := "law.go:38", after := #[{ on := 31, ground := Go.Ground.guard }], guard := some (31, true) }) (v := ?vE32) rfl (by kernel_rfl) (by kernel_rfl) (by kernel_rfl) (fun _ _ _ h => h) (Or.inl ⟨by rfl, ?yE32⟩) (by assumption) ?_
    case yE32 => (intro wX hSw; (try dsimp only at hSw); go_simp <;> with_reducible rfl)
    try simp only [Act.put, List.setIfInBounds_toArray, List.set_cons_zero, List.set_cons_succ]
    refine wpAnyH_take (i := 34) (oi := { dst := some 100, op := Go.Op.move (Go.Operand.tmp 5), type := 35, pos := "law.go:38", after := #[{ on := 31, ground := Go.Ground.guard }], guard := some (31, true) }) (v := ?vE34) rfl (by kernel_rfl) (by kernel_rfl) (by kernel_rfl) (fun _ _ _ h => h) (Or.inl ⟨by rfl, ?yE34⟩) (by assumption) ?_
    case yE34 => (intro wX hSw; (try dsimp only at hSw); go_simp <;> with_reducible rfl)
    try simp only [Act.put, List.setIfInBounds_toArray, List.set_cons_zero, List.set_cons_succ]
    refine wpAnyH_ready (rs := [33]) (by kernel_rfl) (by simp) (AllReadyH.cons (o := { dst := some 99, op := Go.Op.call { callee := Go.Callee.value (Go.Operand.func 21), args := #[Go.Operand.tmp 98], argTypes := #[35] }, type := 35, pos := "law.go:38", after := #[{ on := 32, ground := Go.Ground.data }, { on := 31, ground := Go.Ground.chain }, { on := 31, ground := Go.Ground.guard }], guard := some (31, true) }) rfl (fun K hK => ?_) AllReadyH.nil)
    (go_simp; go_at_call 21; refine (cT1 _ (hHeld.1)).mono ?_; rintro e wc4 ⟨AS1, CS1, rfl, hr1, hbc4⟩)
    have HR1 := Lib.hid hr1
    clear hr1
    rw [HSL.out]
    refine hK.out _ _ (⟨(hHeld.1).trans (hbc4.mono (hHeld.1).size), FF.out _ ((hHeld.1).trans (hbc4.mono (hHeld.1).size))⟩) (fun hHeld => ?_)
    clear hK K
    try simp only [Act.put, List.setIfInBounds_toArray, List.set_cons_zero, List.set_cons_succ]
    refine wpAnyH_ready (rs := [35]) (by kernel_rfl) (by simp) (AllReadyH.cons (o := { dst := some 101, op := Go.Op.call { callee := Go.Callee.value (Go.Operand.func 22), args := #[Go.Operand.tmp 100], argTypes := #[35] }, type := 35, pos := "law.go:38", after := #[{ on := 34, ground := Go.Ground.data }, { on := 33, ground := Go.Ground.chain }, { on := 31, ground := Go.Ground.guard }], guard := some (31, true) }) rfl (fun K hK => ?_) AllReadyH.nil)
    (go_simp; go_at_call 22; refine (cT2 _ (hHeld.1)).mono ?_; rintro e wc5 ⟨AS2, CS2, rfl, hr2, hbc5⟩)
    have HR2 := Lib.hid hr2
    replace HR1 := Lib.hid (HR1.out.below hbc5)
    clear hr2
    rw [HSL.out]
    refine hK.out _ _ (⟨(hHeld.1).trans (hbc5.mono (hHeld.1).size), FF.out _ ((hHeld.1).trans (hbc5.mono (hHeld.1).size))⟩) (fun hHeld => ?_)
    clear hK K
    try simp only [Act.put, List.setIfInBounds_toArray, List.set_cons_zero, List.set_cons_succ]
    refine wpAnyH_ready (rs := [36]) (by kernel_rfl) (by simp) (AllReadyH.cons (o := { dst := some 102, op := Go.Op.call { callee := Go.Callee.value (Go.Operand.func 20), args := #[Go.Operand.tmp 99, Go.Operand.tmp 101], argTypes := #[35, 35] }, type := 4, pos := "law.go:38", after := #[{ on := 33, ground := Go.Ground.data }, { on := 35, ground := Go.Ground.data }, { on := 35, ground := Go.Ground.chain }, { on := 31, ground := Go.Ground.guard }], guard := some (31, true) }) rfl (fun K hK => ?_) AllReadyH.nil)
    (go_simp; go_at_call 20; refine (cT3 _ _ _ _ _ HR1.out HR2.out).mono ?_; rintro e wc6 ⟨rfl, hbc6⟩)
    refine hK.out _ _ (⟨(hHeld.1).trans (hbc6.mono (hHeld.1).size), FF.out _ ((hHeld.1).trans (hbc6.mono (hHeld.1).size))⟩) (fun hHeld => ?_)
    clear hK K
    try simp only [Act.put, List.setIfInBounds_toArray, List.set_cons_zero, List.set_cons_succ]
    refine wpAnyH_take (i := 37) (oi := { dst := some 103, op := Go.Op.pick (Go.Operand.tmp 97) (Go.Operand.tmp 102) (Go.Operand.const (Go.Value.bool false)), type := 4, pos := "law.go:38", after := #[{ on := 31, ground := Go.Ground.data }, { on := 36, ground := Go.Ground.data }], guard := none }) (v := ?vE37) rfl (by kernel_rfl) (by kernel_rfl) (by kernel_rfl) (fun _ _ _ h => h) (Or.inl ⟨by rfl, ?yE37⟩) (by assumption) ?_
    case yE37 => (intro wX hSw; (try dsimp only at hSw); go_simp <;> with_reducible rfl)
    try simp only [Act.put, List.setIfInBounds_toArray, List.set_cons_zero, List.set_cons_succ]
    refine wpAnyH_take (i := 38) (oi := { dst := some 12, op := Go.Op.assign (Go.Operand.tmp 103), type := 4, pos := "law.go:38", after := #[{ on := 37, ground := Go.Ground.data }, { on := 36, ground := Go.Ground.chain }, { on := 0, ground := Go.Ground.phase }, { on := 1, ground := Go.Ground.phase }, { on := 2, ground := Go.Ground.phase }, { on := 3, ground := Go.Ground.phase }, { on := 4, ground := Go.Ground.phase }, { on := 5, ground := Go.Ground.phase }, { on := 6, ground := Go.Ground.phase }, { on := 7, ground := Go.Ground.phase }, { on := 8, ground := Go.Ground.phase }, { on := 9, ground := Go.Ground.phase }, { on := 10, ground := Go.Ground.phase }, { on := 11, ground := Go.Ground.phase }, { on := 12, ground := Go.Ground.phase }, { on := 13, ground := Go.Ground.phase }, { on := 14, ground := Go.Ground.phase }, { on := 15, ground := Go.Ground.phase }, { on := 16, ground := Go.Ground.phase }, { on := 17, ground := Go.Ground.phase }, { on := 18, ground := Go.Ground.phase }, { on := 19, ground := Go.Ground.phase }, { on := 20, ground := Go.Ground.phase }, { on := 21, ground := Go.Ground.phase }, { on := 22, ground := Go.Ground.phase }, { on := 23, ground := Go.Ground.phase }, { on := 24, ground := Go.Ground.phase }, { on := 25, ground := Go.Ground.phase }, { on := 26, ground := Go.Ground.phase }, { on := 27, ground := Go.Ground.phase }, { on := 28, ground := Go.Ground.phase }, { on := 29, ground := Go.Ground.phase }, { on := 30, ground := Go.Ground.phase }, { on := 31, ground := Go.Ground.phase }, { on := 32, ground := Go.Ground.phase }, { on := 33, ground := Go.Ground.phase }, { on := 34, ground := Go.Ground.phase }, { on := 35, ground := Go.Ground.phase }, { on := 36, ground := Go.Ground.phase }, { on := 37, ground := Go.Ground.phase }], guard := none }) (v := ?vE38) rfl (by kernel_rfl) (by kernel_rfl) (by kernel_rfl) (fun _ _ _ h => h) (Or.inl ⟨by rfl, ?yE38⟩) (by assumption) ?_
    case yE38 => (intro wX hSw; (try dsimp only at hSw); go_simp <;> with_reducible rfl)
    try simp only [Act.put, List.setIfInBounds_toArray, List.set_cons_zero, List.set_cons_succ]
    refine wpAnyH_done (by kernel_rfl) ?_ _
    go_wp2
    go_ret
    exact ⟨rfl, HFB.out.trans (hHeld.1.mono HFB.out.size)⟩
theorem rtells_any (v : Wts) (s : List UInt8) (t : Tal) (time now : Int) (l : List Card) (A0 : Option Addr) (C0 : Nat) (w : World) (hL : LaidA w) (hv : v.Wf) (ht : t.Wf) (h1 : wf64 time) (h2 : wf64 now) (hl : CRow w A0 l) (hll : l.length ≤ 9223372036854775807) (hsl : s.length ≤ 9223372036854775807) :
    Calls Tryd.prog 5 #[.agg (cellsW v), .string (bs s), .agg (cellsT t), .int .i64 time, .int .i64 now, .slice A0 l.length C0] w (BoolPost w true) := by
  by_cases hs : s.length ≤ 1000
  · by_cases h60 : l.length ≤ 60
    · exact tells_main v s t time now l A0 C0 w hL hv ht h1 h2 hs h60 hl
    · exact tells_long v s t time now l A0 C0 w hL hv ht (.inr h60) hll hsl
  · exact tells_long v s t time now l A0 C0 w hL hv ht (.inl hs) hll hsl
theorem rtells_card (v : Wts) (s : List UInt8) (t : Tal) (time now : Int) (l : List Card) (A0 : Option Addr) (C0 : Nat) (w : World) (hv : v.Wf) (hs : s.length ≤ 140737488355328) (ht : t.Wf) (h1 : wf64 time) (h2 : wf64 now) (hl : CRow w A0 l) (hw : ∀ t, t ∈ l → t.Wf) (hn : l.length ≤ 9223372036854775807) (hL : LaidA w) :
    Calls Tryd.prog 5 #[.agg (cellsW v), .string (bs s), .agg (cellsT t), .int .i64 time, .int .i64 now, .slice A0 l.length C0] w (BoolPost w true) :=
  rtells_any v s t time now l A0 C0 w hL hv ht h1 h2 hl hn (by omega)
end Go.Proofs.YtjcaaiikccnpeaaDoor
