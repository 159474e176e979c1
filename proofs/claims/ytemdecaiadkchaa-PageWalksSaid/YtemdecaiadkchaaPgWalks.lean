/- PageWalks, walked: it answers true. -/
import Derived.Test.YtemdecaiadkchaaPgWPure
import Derived.Deep.RegionHeld3
namespace Go.Proofs.Ytemdecaiadkchaa
open Go.ChangeShapes Go.WideShapes Go.ChangeAt Go.RowKit Go.Lib
set_option linter.unusedVariables false
set_option linter.unusedSimpArgs false

/-- the walk's memory: the mark's box, the cards, the sizes -/
structure PW (w wr : World) (Bm : Nat) (k : Mk) (A : Option Addr) (X : List Card) (A1 : Option Addr) (a1 : List Int) : Prop where
  m : wr.heap[Bm]? = some (.cells (cellsM k) 23 (0, 0))
  row : CRow wr A X
  nums : RowAt wr A1 (ints a1)
  bel : Below w.heap.size w wr
  lo : w.heap.size ≤ Bm
  r1 : 0 < X.length → ∀ b o, A = some ⟨b, o, none⟩ → b ≠ Bm
  r2 : 0 < (ints a1).length → ∀ b o, A1 = some ⟨b, o, none⟩ → b ≠ Bm
theorem PW.below {w wr wr' : World} {Bm : Nat} {k : Mk} {A A1 : Option Addr} {X : List Card} {a1 : List Int} (h : PW w wr Bm k A X A1 a1) (hb : Below wr.heap.size wr wr') : PW w wr' Bm k A X A1 a1 :=
  ⟨keep_blkP hb h.m, h.row.below hb, h.nums.below hb, h.bel.trans (hb.mono h.bel.size), h.lo, h.r1, h.r2⟩
theorem PW.alloc {w wr : World} {Bm : Nat} {k : Mk} {A A1 : Option Addr} {X : List Card} {a1 : List Int} (h : PW w wr Bm k A X A1 a1) (o : Obj) : PW w (wr.alloc o) Bm k A X A1 a1 :=
  h.below ((Below.refl _ _).alloc (Nat.le_refl _) o)
theorem RowAt.of_block {W W' : World} {A : Option Addr} {xs : List Value} (h : RowAt W A xs) (hb : 0 < xs.length → ∀ b o, A = some ⟨b, o, none⟩ → W'.heap[b]? = W.heap[b]?) : RowAt W' A xs := fun h0 => by
  obtain ⟨b, o, rfl, hc⟩ := h h0
  exact ⟨b, o, rfl, fun i v hv => (World.cell?_of_block (a := ⟨b, o + i, none⟩) (hb h0 b o rfl)).trans (hc i v hv)⟩
theorem PW.set {w wr : World} {Bm : Nat} {k : Mk} {A A1 : Option Addr} {X : List Card} {a1 : List Int} (h : PW w wr Bm k A X A1 a1) (k' : Mk) : PW w (markW wr Bm k') Bm k' A X A1 a1 := by
  have hc : Chg [Bm] wr (markW wr Bm k') := markW_chg (by simp)
  have hblk : ∀ b, b < wr.heap.size → b ≠ Bm → (markW wr Bm k').heap[b]? = wr.heap[b]? := fun b hb hn => hc.block b hb (by simpa using hn)
  refine ⟨markW_heap h.m, h.row.of_block fun h0 b o e => hblk b ?_ (h.r1 h0 b o e), h.nums.of_block fun h0 b o e => hblk b ?_ (h.r2 h0 b o e), h.bel.trans (markW_below h.lo), h.lo, h.r1, h.r2⟩
  · obtain ⟨c, hx⟩ : ∃ c, X[0]? = some c := ⟨_, List.getElem?_eq_getElem h0⟩
    subst e
    exact World.block_lt_of_cell? wr _ (h.row.sixA hx).1
  · obtain ⟨c, hx⟩ : ∃ c, (ints a1)[0]? = some c := ⟨_, List.getElem?_eq_getElem h0⟩
    obtain ⟨b', o', e', hc'⟩ := h.nums.at hx
    rw [e] at e'
    simp only [Option.some.injEq, Addr.mk.injEq] at e'
    obtain ⟨rfl, _, _⟩ := e'
    exact lt_of_cell hc'
theorem PW.start {w wr : World} {k : Mk} {A A1 : Option Addr} {X : List Card} {a1 : List Int} (hr : CRow wr A X) (hn : RowAt wr A1 (ints a1)) (hb : Below w.heap.size w wr) : PW w (wr.alloc (.cells (cellsM k) 23)) wr.heap.size k A X A1 a1 := by
  have hA := (Below.refl wr.heap.size wr).alloc (Nat.le_refl _) (.cells (cellsM k) 23)
  refine ⟨heap_alloc_new _ _, hr.below hA, hn.below hA, hb.trans (hA.mono hb.size), hb.size, fun h0 b o e => ?_, fun h0 b o e => ?_⟩
  · obtain ⟨c, hx⟩ : ∃ c, X[0]? = some c := ⟨_, List.getElem?_eq_getElem h0⟩
    subst e
    have := World.block_lt_of_cell? wr _ (hr.sixA hx).1
    simp only at this
    omega
  · obtain ⟨c, hx⟩ : ∃ c, (ints a1)[0]? = some c := ⟨_, List.getElem?_eq_getElem h0⟩
    obtain ⟨b', o', e', hc'⟩ := hn.at hx
    rw [e] at e'
    simp only [Option.some.injEq, Addr.mk.injEq] at e'
    obtain ⟨rfl, _, _⟩ := e'
    have := lt_of_cell hc'
    simp only at this
    omega
def NextR (W : World) (k : Mk) (pg : List Card) (k' : Mk) (mo : Bool) (e : Ending) (w' : World) : Prop :=
  ∃ A C, e = .returned (.tuple #[.slice A pg.length C, .agg #[.int .i64 k'.now, .int .i64 k'.score, .int .i64 k'.time, .string (bs k'.id), .bool k'.beg], .bool mo]) ∧ CIn0 w' A pg ∧ Below W.heap.size W w'
set_option maxRecDepth 100000 in
set_option maxHeartbeats 20000000 in
theorem walks_main (l : List Card) (A0 : Option Addr) (C0 : Nat) (a1 : List Int) (A1 : Option Addr) (C1 : Nat) (now : Int) (w : World) (h80 : l.length ≤ 80) (hl : CRow w A0 l) (ha : RowAt w A1 (ints a1)) :
    Calls Try.prog 4 #[.slice A0 l.length C0, .slice A1 a1.length C1, .int .i64 now] w (BoolPost w true) := by
  obtain ⟨n, hn0⟩ : ∃ n, l.length = n := ⟨_, rfl⟩
  have cs := fun W => small_any W
  have cd := fun W h => differ_c l A0 C0 W (by omega) h
  have cS : ∀ W, CRow W A0 l → Calls Try.prog 12 #[.slice A0 n C0] W (SortedP W (sortS l)) := fun W h => by
    have := sort_c l A0 C0 W (by omega) h
    rw [hn0] at this
    exact this
  have hXl : (sortS l).length = n := by rw [sortS_length, hn0]
  have cN : ∀ (A : Option Addr) (C : Nat) (p q : Nat) W, Dif l → p ≤ n → q ≤ 50 → CRow W A (sortS l) →
      Calls Try.prog 15 #[.slice A n C, .agg (cellsM (nextM (beginM now) ((sortS l).take p))), .int .i64 q] W (NextR W (nextM (beginM now) ((sortS l).take p)) (((sortS l).drop p).take q) (nextM (beginM now) ((sortS l).take (p + min q (n - p)))) (decide (q < n - p))) := fun A C p q W hd hp hq hr => by
    have := next_any (nextM (beginM now) ((sortS l).take p)) A C (sortS l) q W (by omega) hr
    rw [hXl, show (min (q : Int) 50).toNat = q by omega] at this
    obtain ⟨e1, e2, e3⟩ := page_at hd now (p := p) (q := q) (by omega)
    unfold NextP at this
    rw [e1, e2, e3, hXl] at this
    exact this
  have hpl : ∀ p q, (((sortS l).drop p).take q).length = min q (n - p) := fun p q => by rw [List.length_take, List.length_drop, hXl]
  have hpg : ∀ p q j, j < min q (n - p) → (((sortS l).drop p).take q)[j]? = (sortS l)[p + j]? := fun p q j h => page_get (by rw [hXl]; exact h)
  have cz := fun i W hi h => size_any a1 A1 C1 i W hi h
  have cb := fun W => begin_any now W
  have hend : Hid (∀ p, n ≤ p → (sortS l).drop p = []) := fun p hp => List.drop_eq_nil_of_le (by omega)
  rw [hn0] at cd h80 ⊢
  have HPL := Lib.hid hpl
  have HPG := Lib.hid hpg
  have HX := Lib.hid hXl
  clear hpl hpg hXl hn0
  generalize sortS l = X at *
  have d80 : decide (80 < (n : Int)) = false := decide_eq_false (by omega)
  have d80N : decide (80 < n) = false := decide_eq_false (by omega)
  go_enter Try.func4, Try.ntmps4
  go_wp2_with fail
  refine (cs _).mono ?_
  rintro e w1 ⟨rfl, hb1⟩
  have hl1 := hl.below hb1
  have ha1 := ha.below hb1
  clear cs hl ha
  go_wp2_with fail
  refine (cd _ hl1).mono ?_
  rintro e w2 ⟨b, rfl, hd, hb2⟩
  have hl2 := hl1.below hb2
  have ha2 := ha1.below hb2
  have hB2 := hb1.trans (hb2.mono hb1.size)
  clear cd hl1 ha1 hb1 hb2
  cases b with
  | false =>
    go_wp2
    go_ret
    exact ⟨rfl, hB2⟩
  | true =>
    have HD := Lib.hid (hd rfl)
    clear hd
    go_wp2_with fail
    refine (cS _ hl2).mono ?_
    rintro e w3 ⟨A, C, rfl, hr3, hb3⟩
    have ha3 := ha2.below hb3
    have hB3 := hB2.trans (hb3.mono hB2.size)
    rw [HX.out]
    clear cS hl2 ha2 hB2 hb3
    go_wp2_with fail
    refine (cb _).mono ?_
    rintro e w4 ⟨rfl, hb4⟩
    have hP := PW.start (k := beginM now) (hr3.below hb4) (ha3.below hb4) (hB3.trans (hb4.mono hB3.size))
    have HP := Lib.hid hP
    clear hP hr3 ha3 hb4 hB3 cb
    unfold cellsM at HP ⊢
    simp only at HP ⊢
    go_wp2
    go_loopw [9, 10] (fun v9 v10 wr => ∃ p i : Nat, v9 = .int .i64 p ∧ v10 = .int .i64 i ∧ Hid (i ≤ p ∧ p ≤ n ∧ (i = 0 ∨ p < n) ∧ PW w wr w4.heap.size (nextM (beginM now) (X.take p)) A X A1 a1)) (fun _ v _ => 82 - (intOf v).toNat)
    case atStart => exact ⟨0, 0, rfl, rfl, ⟨Nat.le_refl _, Nat.zero_le _, .inl rfl, HP.out⟩⟩
    case round =>
      clear HP
      obtain ⟨p, i, rfl, rfl, hz⟩ := hrel
      obtain ⟨z1, z2, z3, hP⟩ := hz.out
      have di : decide ((i : Int) ≤ 81) = true := decide_eq_true (by omega)
      have diN : decide (i ≤ 81) = true := decide_eq_true (by omega)
      have wi : IntKind.i64.wrap ((i : Int) + 1) = (i : Int) + 1 := IntWalk.i64_in _ (by omega)
      have HI : Hid (i ≤ 81) := by unfold Hid; omega
      obtain ⟨k, hk⟩ : ∃ k, nextM (beginM now) (X.take p) = k := ⟨_, rfl⟩
      rw [hk] at hP
      have hP1 := Lib.hid hP
      obtain ⟨m0, m1, m2, m3, m4⟩ := fiveM hP.m
      clear hz hP
      go_wp2_with fail
      refine (cz i _ (by omega) hP1.out.nums).mono ?_
      rintro e w5 ⟨z, hz1, hz2, rfl, rfl⟩
      obtain ⟨q, hq, hq1, hq2⟩ : ∃ q : Nat, min (z : Int) 50 = (q : Int) ∧ 1 ≤ q ∧ q ≤ 50 := ⟨min z 50, by omega, by omega, by omega⟩
      obtain ⟨k', hk'⟩ : ∃ k', nextM (beginM now) (X.take (p + min q (n - p))) = k' := ⟨_, rfl⟩
      have hkn : (k'.now == now) = true := by rw [← hk', nextM_now]; simp [beginM]
      obtain ⟨np, hnp⟩ : ∃ np, n - p = np := ⟨_, rfl⟩
      obtain ⟨pl, hpl⟩ : ∃ pl, min q np = pl := ⟨_, rfl⟩
      obtain ⟨p', hp'⟩ : ∃ p', p + pl = p' := ⟨_, rfl⟩
      obtain ⟨pg, hpg⟩ : ∃ pg, (X.drop p).take q = pg := ⟨_, rfl⟩
      have hpgl : pg.length = pl := by rw [← hpg, HPL.out, hnp, hpl]
      have hpgg : ∀ j, j < pl → pg[j]? = X[p + j]? := fun j h => by rw [← hpg]; exact HPG.out p q j (by rw [hnp, hpl]; exact h)
      have cNi := fun W h => cN A C p q W HD.out z2 hq2 h
      rw [hk, hk', hpg, hnp] at cNi
      unfold NextR at cNi
      rw [hpgl] at cNi
      rw [hnp, hpl, hp'] at hk'
      have wsub : IntKind.i64.wrap ((n : Int) - (p : Int)) = (np : Int) := by rw [IntWalk.i64_in _ (by omega)]; omega
      have hmin : min (q : Int) (np : Int) = (pl : Int) := by omega
      have wadd : IntKind.i64.wrap ((p : Int) + (pl : Int)) = (p' : Int) := by rw [IntWalk.i64_in _ (by omega)]; omega
      have HPGG := Lib.hid hpgg
      have HPGL := Lib.hid hpgl
      have HK := Lib.hid hk
      have HK' := Lib.hid hk'
      have HNP := Lib.hid hnp
      have HPP := Lib.hid hpl
      have HP' := Lib.hid hp'
      clear hpg hpgg hpgl hk hk' hz1 hz2 hnp hpl hp'
      cases hmo : decide (q < np) with
      | true =>
        rw [hmo] at cNi
        have hq3 : q < np := of_decide_eq_true hmo
        have hlt : p' < n := by have := HNP.out; have := HPP.out; have := HP'.out; omega
        have dmo : decide ((p' : Int) < (n : Int)) = true := decide_eq_true (by omega)
        have dmoN : decide (p' < n) = true := decide_eq_true hlt
        have HREL : Hid (i + 1 ≤ p' ∧ p' ≤ n ∧ (i + 1 = 0 ∨ p' < n)) := ⟨by have := HNP.out; have := HPP.out; have := HP'.out; omega, by omega, .inr hlt⟩
        clear hmo z1 z2 z3
        go_wp2_with fail
        refine (cNi _ hP1.out.row).mono ?_
        rintro e w6 ⟨Ax, Cx, rfl, hc, hb6⟩
        have hP2 := hP1.out.below hb6
        have hP3 := Lib.hid (hP2.alloc (.cells #[.int .i64 k'.now, .int .i64 k'.score, .int .i64 k'.time, .string (bs k'.id), .bool k'.beg] 23))
        have h13 := Lib.hid (heap_alloc_new w6 (.cells #[.int .i64 k'.now, .int .i64 k'.score, .int .i64 k'.time, .string (bs k'.id), .bool k'.beg] 23))
        have HC := Lib.hid hc
        have hxb := Lib.hid ((Below.refl _ w6).alloc (Nat.le_refl _) (.cells #[.int .i64 k'.now, .int .i64 k'.score, .int .i64 k'.time, .string (bs k'.id), .bool k'.beg] 23))
        obtain ⟨r0, r1, r2, r3, r4⟩ := fiveM (k := k') h13.out
        clear hP1 hP2 hc hb6 m0 m1 m2 m3 m4 cNi
        go_wp2
        clear r0 r1 r2 r3 r4
        generalize hwb : World.alloc w6 _ = wb at *
        clear hwb
        go_loopw [15] (fun v15 wr => ∃ j : Nat, v15 = .int .i64 j ∧ j ≤ pl ∧ Below wb.heap.size wb wr) (fun v _ => pl - (intOf v).toNat)
        case atStart => exact ⟨0, rfl, Nat.zero_le _, Below.refl _ _⟩
        obtain ⟨j, rfl, hj, hbj⟩ := hrel
        by_cases hjl : j < pl
        · have dj : decide ((j : Int) < (pl : Int)) = true := decide_eq_true (by omega)
          have djN : decide (j < pl) = true := decide_eq_true hjl
          have bj : (j : Int) < (pl : Int) := by omega
          have wj : IntKind.i64.wrap ((j : Int) + 1) = (j : Int) + 1 := IntWalk.i64_in _ (by omega)
          obtain ⟨pj, hpj⟩ : ∃ pj, p + j = pj := ⟨_, rfl⟩
          have hpjn : pj < n := by have := HNP.out; have := HPP.out; omega
          have wpj : IntKind.i64.wrap ((p : Int) + (j : Int)) = (pj : Int) := by rw [IntWalk.i64_in _ (by omega)]; omega
          have bpj : (pj : Int) < (n : Int) := by omega
          obtain ⟨⟨xi, xb, xs, xt, xa, xr⟩, hx⟩ : ∃ c, X[pj]? = some c := ⟨_, List.getElem?_eq_getElem (by have := HX.out; omega)⟩
          have hx2 : pg[j]? = some ⟨xi, xb, xs, xt, xa, xr⟩ := by rw [HPGG.out j hjl, hpj]; exact hx
          obtain ⟨bx, rfl, hxr⟩ := HC.out.row (by have := HPGL.out; omega)
          obtain ⟨b, o, rfl, _⟩ := hP3.out.row (by have := HX.out; omega)
          obtain ⟨s0, s1, s2, s3, s4, s5⟩ := (hP3.out.row.below hbj).sixA hx
          obtain ⟨t0, t1, t2, t3, t4, t5⟩ := six0 ((hxr.below hxb.out).below hbj) (j * 6) rfl hx2
          have hne : ∀ W, (binOp .neq 39 (.agg #[.string (bs xi), .string (bs xb), .int .i64 xs, .int .i64 xt, .int .i64 xa, .string (bs xr)]) (.agg #[.string (bs xi), .string (bs xb), .int .i64 xs, .int .i64 xt, .int .i64 xa, .string (bs xr)])).run Try.prog W = .ok (.bool false) W := fun W => by
            have := neq_cards ⟨xi, xb, xs, xt, xa, xr⟩ ⟨xi, xb, xs, xt, xa, xr⟩ W
            rw [decide_eq_true rfl] at this
            exact this
          simp only at s0 s1 s2 s3 s4 s5 t0 t1 t2 t3 t4 t5
          have HBJ := Lib.hid hbj
          clear hx hx2 hxr hbj hpj
          go_wp2
          go_quiet (fail)
          go_wp2
          go_roundw
          case rel => exact ⟨j + 1, by go_num, hjl, below_drewN HBJ.out _⟩
          case measure => simp [intOf]; omega
        have dj : decide ((j : Int) < (pl : Int)) = false := decide_eq_false (by omega)
        have djN : decide (j < pl) = false := decide_eq_false hjl
        have hP4 := hP3.out.below hbj
        obtain ⟨r0, r1, r2, r3, r4⟩ := fiveM (k := k') (keep_blkP hbj h13.out)
        obtain ⟨m0, m1, m2, m3, m4⟩ := fiveM hP4.m
        have hf := fun j => frozen_row hP4.m j
        have f0 := hf 0
        have f1 := hf 1
        have f2 := hf 2
        have f3 := hf 3
        have f4 := hf 4
        clear hf
        go_wp2
        go_roundw
        case rel => exact ⟨p', i + 1, rfl, by go_num, ⟨HREL.out.1, HREL.out.2.1, HREL.out.2.2, by rw [HK'.out]; exact hP4.set k'⟩⟩
        case measure => have := HI.out; simp [intOf]; omega
      | false =>
        rw [hmo] at cNi
        have hq3 : ¬ q < np := of_decide_eq_false hmo
        have hpn : p' = n := by have := HNP.out; have := HPP.out; have := HP'.out; omega
        subst hpn
        have dmo : decide ((p' : Int) < (p' : Int)) = false := decide_eq_false (by omega)
        have cN2 := fun W h => cN A C p' 9 W HD.out (Nat.le_refl _) (by omega) h
        rw [Nat.sub_self, Nat.min_zero, Nat.add_zero, HK'.out, hend.out p' (Nat.le_refl _), List.take_nil] at cN2
        unfold NextR at cN2
        clear hmo z1 z2 z3
        go_wp2_with fail
        refine (cNi _ hP1.out.row).mono ?_
        rintro e w6 ⟨Ax, Cx, rfl, hc, hb6⟩
        have hP2 := hP1.out.below hb6
        have hP3 := Lib.hid (hP2.alloc (.cells #[.int .i64 k'.now, .int .i64 k'.score, .int .i64 k'.time, .string (bs k'.id), .bool k'.beg] 23))
        have h13 := Lib.hid (heap_alloc_new w6 (.cells #[.int .i64 k'.now, .int .i64 k'.score, .int .i64 k'.time, .string (bs k'.id), .bool k'.beg] 23))
        have HC := Lib.hid hc
        have hxb := Lib.hid ((Below.refl _ w6).alloc (Nat.le_refl _) (.cells #[.int .i64 k'.now, .int .i64 k'.score, .int .i64 k'.time, .string (bs k'.id), .bool k'.beg] 23))
        obtain ⟨r0, r1, r2, r3, r4⟩ := fiveM (k := k') h13.out
        clear hP1 hP2 hc hb6 m0 m1 m2 m3 m4 cNi
        go_wp2
        clear r0 r1 r2 r3 r4
        generalize hwb : World.alloc w6 _ = wb at *
        clear hwb
        go_loopw [15] (fun v15 wr => ∃ j : Nat, v15 = .int .i64 j ∧ j ≤ pl ∧ Below wb.heap.size wb wr) (fun v _ => pl - (intOf v).toNat)
        case atStart => exact ⟨0, rfl, Nat.zero_le _, Below.refl _ _⟩
        obtain ⟨j, rfl, hj, hbj⟩ := hrel
        by_cases hjl : j < pl
        · have dj : decide ((j : Int) < (pl : Int)) = true := decide_eq_true (by omega)
          have djN : decide (j < pl) = true := decide_eq_true hjl
          have bj : (j : Int) < (pl : Int) := by omega
          have wj : IntKind.i64.wrap ((j : Int) + 1) = (j : Int) + 1 := IntWalk.i64_in _ (by omega)
          obtain ⟨pj, hpj⟩ : ∃ pj, p + j = pj := ⟨_, rfl⟩
          have hpjn : pj < p' := by have := HNP.out; have := HPP.out; omega
          have wpj : IntKind.i64.wrap ((p : Int) + (j : Int)) = (pj : Int) := by rw [IntWalk.i64_in _ (by omega)]; omega
          have bpj : (pj : Int) < (p' : Int) := by omega
          obtain ⟨⟨xi, xb, xs, xt, xa, xr⟩, hx⟩ : ∃ c, X[pj]? = some c := ⟨_, List.getElem?_eq_getElem (by have := HX.out; omega)⟩
          have hx2 : pg[j]? = some ⟨xi, xb, xs, xt, xa, xr⟩ := by rw [HPGG.out j hjl, hpj]; exact hx
          obtain ⟨bx, rfl, hxr⟩ := HC.out.row (by have := HPGL.out; omega)
          obtain ⟨b, o, rfl, _⟩ := hP3.out.row (by have := HX.out; omega)
          obtain ⟨s0, s1, s2, s3, s4, s5⟩ := (hP3.out.row.below hbj).sixA hx
          obtain ⟨t0, t1, t2, t3, t4, t5⟩ := six0 ((hxr.below hxb.out).below hbj) (j * 6) rfl hx2
          have hne : ∀ W, (binOp .neq 39 (.agg #[.string (bs xi), .string (bs xb), .int .i64 xs, .int .i64 xt, .int .i64 xa, .string (bs xr)]) (.agg #[.string (bs xi), .string (bs xb), .int .i64 xs, .int .i64 xt, .int .i64 xa, .string (bs xr)])).run Try.prog W = .ok (.bool false) W := fun W => by
            have := neq_cards ⟨xi, xb, xs, xt, xa, xr⟩ ⟨xi, xb, xs, xt, xa, xr⟩ W
            rw [decide_eq_true rfl] at this
            exact this
          simp only at s0 s1 s2 s3 s4 s5 t0 t1 t2 t3 t4 t5
          have HBJ := Lib.hid hbj
          clear hx hx2 hxr hbj hpj
          go_wp2
          go_quiet (fail)
          go_wp2
          go_roundw
          case rel => exact ⟨j + 1, by go_num, hjl, below_drewN HBJ.out _⟩
          case measure => simp [intOf]; omega
        have dj : decide ((j : Int) < (pl : Int)) = false := decide_eq_false (by omega)
        have djN : decide (j < pl) = false := decide_eq_false hjl
        have hP4 := hP3.out.below hbj
        obtain ⟨r0, r1, r2, r3, r4⟩ := fiveM (k := k') (keep_blkP hbj h13.out)
        obtain ⟨m0, m1, m2, m3, m4⟩ := fiveM hP4.m
        have hf := fun j => frozen_row hP4.m j
        have f0 := hf 0
        have f1 := hf 1
        have f2 := hf 2
        have f3 := hf 3
        have f4 := hf 4
        clear hf
        have hP5 := hP4.set k'
        have HP5 := Lib.hid hP5
        obtain ⟨n0, n1, n2, n3, n4⟩ := fiveM hP5.m
        unfold markW at n0 n1 n2 n3 n4
        clear hP5
        go_wp2_with fail
        refine (cN2 _ HP5.out.row).mono ?_
        rintro e w8 ⟨Ay, Cy, rfl, hcy, hb8⟩
        have hP6 := HP5.out.below hb8
        have hP7 := Lib.hid (hP6.alloc (.cells #[.int .i64 k'.now, .int .i64 k'.score, .int .i64 k'.time, .string (bs k'.id), .bool k'.beg] 23))
        obtain ⟨n0, n1, n2, n3, n4⟩ := fiveM hP7.out.m
        obtain ⟨r0, r1, r2, r3, r4⟩ := fiveM (heap_alloc_new w8 (.cells (cellsM k') 23))
        have qk : ∀ W, (binOp .eql 23 (.agg #[.int .i64 k'.now, .int .i64 k'.score, .int .i64 k'.time, .string (bs k'.id), .bool k'.beg]) (.agg #[.int .i64 k'.now, .int .i64 k'.score, .int .i64 k'.time, .string (bs k'.id), .bool k'.beg])).run Try.prog W = .ok (.bool true) W := fun W => by
          have := eql_marks k' k' W
          rw [decide_eq_true rfl] at this
          exact this
        simp only [cellsM] at r0 r1 r2 r3 r4
        clear hP6 hcy hb8 cN cN2 HP5
        by_cases hn0 : p' = 0
        · have en : ((p' : Int) == 0) = true := beq_iff_eq.2 (by omega)
          have enN : (p' == 0) = true := beq_iff_eq.2 hn0
          clear hn0
          go_wp2
          go_ret
          exact ⟨rfl, hP7.out.bel⟩
        · have en : ((p' : Int) == 0) = false := beq_eq_false_iff_ne.2 (by omega)
          have enN : (p' == 0) = false := beq_eq_false_iff_ne.2 hn0
          clear hn0
          go_wp2
          go_ret
          exact ⟨rfl, hP7.out.bel⟩
theorem walks_long (l : List Card) (A0 : Option Addr) (C0 : Nat) (a1 : List Int) (A1 : Option Addr) (C1 : Nat) (now : Int) (w : World) (h : ¬ l.length ≤ 80) :
    Calls Try.prog 4 #[.slice A0 l.length C0, .slice A1 a1.length C1, .int .i64 now] w (BoolPost w true) := by
  have cs := fun W => small_any W
  have d80 : decide (80 < (l.length : Int)) = true := decide_eq_true (by omega)
  have d80N : decide (80 < l.length) = true := decide_eq_true (by omega)
  go_enter Try.func4, Try.ntmps4
  go_wp2_with fail
  refine (cs _).mono ?_
  rintro e w1 ⟨rfl, hb1⟩
  go_wp2
  go_ret
  exact ⟨rfl, hb1⟩
theorem pwalks_any (l : List Card) (A0 : Option Addr) (C0 : Nat) (a1 : List Int) (A1 : Option Addr) (C1 : Nat) (now : Int) (w : World) (hl : CRow w A0 l) (ha : RowAt w A1 (ints a1)) :
    Calls Try.prog 4 #[.slice A0 l.length C0, .slice A1 a1.length C1, .int .i64 now] w (BoolPost w true) := by
  by_cases h : l.length ≤ 80
  · exact walks_main l A0 C0 a1 A1 C1 now w h hl ha
  · exact walks_long l A0 C0 a1 A1 C1 now w h
end Go.Proofs.Ytemdecaiadkchaa
