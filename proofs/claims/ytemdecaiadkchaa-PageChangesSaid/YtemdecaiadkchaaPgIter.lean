/- page's iterator: the cards of a list that are behind a mark, walked. -/
import Derived.Test.YtemdecaiadkchaaSortS
import Derived.RangeFuncNested
import Derived.RangeFuncBound
import Derived.RangeFuncCalls
import Derived.RangeFuncLeaves
import Derived.Shelf.Abstract
import Derived.Shelf.RegionOpen
import Derived.OwnWalkIn
import Derived.TacticsInMore
import Derived.LoopNIn
import Derived.LoopIn
namespace Go.Proofs.Ytemdecaiadkchaa
open Go.ChangeShapes Go.WideShapes Go.ChangeAt Go.RowKit Go.Lib
set_option linter.unusedVariables false
attribute [local go_sem] Oper.semAt_some

/-- a mark -/
structure Mk where
  now : Int
  score : Int
  time : Int
  id : List UInt8
  beg : Bool
deriving DecidableEq
def cellsM (k : Mk) : Array Value := #[.int .i64 k.now, .int .i64 k.score, .int .i64 k.time, .string (bs k.id), .bool k.beg]
def atC (k : Mk) : Card := ⟨k.id, [], k.score, k.time, 0, []⟩
def passB (k : Mk) (x : Card) : Bool := k.beg || lessC (atC k) x
/-- what a round keeps: the blocks below n, but for those of S -/
structure Kept (n : Nat) (S : List Nat) (w w' : World) : Prop where
  size : w.heap.size ≤ w'.heap.size
  block : ∀ k, k < n → k ∉ S → w'.heap[k]? = w.heap[k]?
theorem Kept.refl (n : Nat) (S : List Nat) (w : World) : Kept n S w w := ⟨Nat.le_refl _, fun _ _ _ => rfl⟩
theorem Kept.trans {n : Nat} {S : List Nat} {A B C : World} (h : Kept n S A B) (k : Kept n S B C) : Kept n S A C := ⟨Nat.le_trans h.size k.size, fun i h1 h2 => (k.block i h1 h2).trans (h.block i h1 h2)⟩
theorem Kept.of_below {n : Nat} {S : List Nat} {w w' : World} (h : Below n w w') : Kept n S w w' := ⟨h.size, fun k hk _ => h.block k hk⟩
theorem Kept.b {n : Nat} {S : List Nat} {w : World} (hn : n ≤ w.heap.size) (W : World) (l : Nat) (o o' : Obj) (hl : w.heap.size ≤ l) (h : W.heap[l]? = some o) (h1 : o.isCells = false) (h2 : o.isWalk = false) : Kept n S W (W.putObj l o') :=
  .of_below (belowK_b hn W l o o' hl h h1 h2)
theorem sixC {W : World} {T : Nat} {c : Card} {t : TypeId} (h : W.heap[T]? = some (.cells (cellsC c) t (0, 0))) :
    W.cell? ⟨T, 0, none⟩ = some (.string (bs c.id)) ∧ W.cell? ⟨T, 1, none⟩ = some (.string (bs c.by')) ∧ W.cell? ⟨T, 2, none⟩ = some (.int .i64 c.score) ∧ W.cell? ⟨T, 3, none⟩ = some (.int .i64 c.time) ∧ W.cell? ⟨T, 4, none⟩ = some (.int .i64 c.act) ∧ W.cell? ⟨T, 5, none⟩ = some (.string (bs c.rea)) := by
  refine ⟨?_, ?_, ?_, ?_, ?_, ?_⟩ <;> (rw [cell_of_row _ _ _ _ _ _ h]; rfl)
theorem fiveM {W : World} {T : Nat} {k : Mk} {t : TypeId} (h : W.heap[T]? = some (.cells (cellsM k) t (0, 0))) :
    W.cell? ⟨T, 0, none⟩ = some (.int .i64 k.now) ∧ W.cell? ⟨T, 1, none⟩ = some (.int .i64 k.score) ∧ W.cell? ⟨T, 2, none⟩ = some (.int .i64 k.time) ∧ W.cell? ⟨T, 3, none⟩ = some (.string (bs k.id)) ∧ W.cell? ⟨T, 4, none⟩ = some (.bool k.beg) := by
  refine ⟨?_, ?_, ?_, ?_, ?_⟩ <;> (rw [cell_of_row _ _ _ _ _ _ h]; rfl)
theorem CRow.sixA {w : World} {b o : Nat} {l : List Card} (h : CRow w (some ⟨b, o, none⟩) l) {j : Nat} {c : Card} (hj : l[j]? = some c) :
    w.cell? ⟨b, o + j * 6, none⟩ = some (.string (bs c.id)) ∧ w.cell? ⟨b, o + j * 6 + 1, none⟩ = some (.string (bs c.by')) ∧ w.cell? ⟨b, o + j * 6 + 2, none⟩ = some (.int .i64 c.score) ∧ w.cell? ⟨b, o + j * 6 + 3, none⟩ = some (.int .i64 c.time) ∧ w.cell? ⟨b, o + j * 6 + 4, none⟩ = some (.int .i64 c.act) ∧ w.cell? ⟨b, o + j * 6 + 5, none⟩ = some (.string (bs c.rea)) := by
  have hlt := (List.getElem?_eq_some_iff.1 hj).1
  obtain ⟨b', o', hA, hc⟩ := h (by omega)
  simp only [Option.some.injEq, Addr.mk.injEq] at hA
  obtain ⟨rfl, rfl, _⟩ := hA
  have g : ∀ (k : Nat) v, k < 6 → (cellsC c).toList[k]? = some v → w.cell? ⟨b, o + (j * 6 + k), none⟩ = some v := fun k v hk hv => hc _ v (by rw [cardCells_get l j k hk, hj]; exact hv)
  have g0 := g 0 _ (by omega) rfl
  have g1 := g 1 _ (by omega) rfl
  have g2 := g 2 _ (by omega) rfl
  have g3 := g 3 _ (by omega) rfl
  have g4 := g 4 _ (by omega) rfl
  have g5 := g 5 _ (by omega) rfl
  simp only [Nat.add_zero, ← Nat.add_assoc] at g0 g1 g2 g3 g4 g5
  exact ⟨g0, g1, g2, g3, g4, g5⟩
/-- what the iterator reads -/
structure Src (W : World) (Bm Ba : Nat) (k : Mk) (A : Option Addr) (L : List Card) : Prop where
  mark : W.heap[Bm]? = some (.cells (cellsM k) 23 (0, 0))
  at_ : W.heap[Ba]? = some (.cells (cellsC (atC k)) 39 (0, 0))
  row : CRow W A L
theorem Src.alloc {W : World} {Bm Ba : Nat} {k : Mk} {A : Option Addr} {L : List Card} (h : Src W Bm Ba k A L) (X : Obj) : Src (W.alloc X) Bm Ba k A L :=
  ⟨(Below.heap_alloc _ X _ (Array.getElem?_eq_some_iff.1 h.mark).1).trans h.mark, (Below.heap_alloc _ X _ (Array.getElem?_eq_some_iff.1 h.at_).1).trans h.at_, h.row.below ((Below.refl _ _).alloc (Nat.le_refl _) X)⟩
theorem Src.below {W W' : World} {Bm Ba : Nat} {k : Mk} {A : Option Addr} {L : List Card} (h : Src W Bm Ba k A L) (hb : Below W.heap.size W W') : Src W' Bm Ba k A L :=
  ⟨(hb.block _ (Array.getElem?_eq_some_iff.1 h.mark).1).trans h.mark, (hb.block _ (Array.getElem?_eq_some_iff.1 h.at_).1).trans h.at_, h.row.below hb⟩
theorem CRow.of_block {W W' : World} {A : Option Addr} {L : List Card} (h : CRow W A L) (hb : 0 < L.length → ∀ b o, A = some ⟨b, o, none⟩ → W'.heap[b]? = W.heap[b]?) : CRow W' A L := fun h0 => by
  obtain ⟨b, o, rfl, hc⟩ := h h0
  exact ⟨b, o, rfl, fun i v hv => (World.cell?_of_block (a := ⟨b, o + i, none⟩) (hb h0 b o rfl)).trans (hc i v hv)⟩
theorem Src.kept {W W' : World} {Bm Ba n : Nat} {S : List Nat} {k : Mk} {A : Option Addr} {L : List Card} (h : Src W Bm Ba k A L) (hk : Kept n S W W') (h1 : Bm < n ∧ Bm ∉ S) (h2 : Ba < n ∧ Ba ∉ S) (h3 : 0 < L.length → ∀ b o, A = some ⟨b, o, none⟩ → b < n ∧ b ∉ S) : Src W' Bm Ba k A L :=
  ⟨(hk.block _ h1.1 h1.2).trans h.mark, (hk.block _ h2.1 h2.2).trans h.at_, h.row.of_block fun h0 b o e => hk.block _ (h3 h0 b o e).1 (h3 h0 b o e).2⟩
theorem filter_take {p : Card → Bool} {l : List Card} {j : Nat} {y : Card} (h : l[j]? = some y) : (l.take (j + 1)).filter p = (l.take j).filter p ++ if p y = true then [y] else [] := by
  obtain ⟨hj, rfl⟩ := List.getElem?_eq_some_iff.1 h
  rw [List.take_succ_eq_append_getElem hj, List.filter_append]
  by_cases e : p l[j] = true
  · simp [e]
  · simp [e]
theorem filter_pre (p : Card → Bool) (l : List Card) (j : Nat) : (l.take j).filter p <+: l.filter p := ⟨(l.drop j).filter p, by rw [← List.filter_append, List.take_append_drop]⟩
theorem Abides.grow {J : List Card → World → Prop} {B : Nat} (h : AbidesFrom B J) {pre : List Card} {W W' : World} (hJ : J pre W) (hb : Below W.heap.size W W') : J pre W' :=
  h pre W W' none hJ ⟨hb.os, hb.tape, hb.output, hb.size, fun k hk _ => hb.block k hk⟩ (fun r e => by cases e)
set_option maxRecDepth 100000 in
set_option maxHeartbeats 4000000 in
theorem behind_it (n l Bl Bm Ba n₁ : Nat) (S : List Nat) (k : Mk) (A : Option Addr) (C : Nat) (L : List Card) (J Jx : List Card → World → Prop) (W : World) (B : Nat) (hn : 1 ≤ n) (hL : L.length ≤ 1000000) (hJ : AbidesFrom B J)
    (hY : ∀ pre x W1, J pre W1 → pre.length < (L.filter (passB k)).length → YieldAt Fence.wide (n - 1) Try.prog l #[.agg (cellsC x)] W1 fun e W' =>
      (e = .returned (.bool true) ∧ J (pre ++ [x]) W' ∧ Kept n₁ S W1 W') ∨ (e = .returned (.bool false) ∧ Jx (pre ++ [x]) W'))
    (h1 : Bm < n₁ ∧ Bm ∉ S) (h2 : Ba < n₁ ∧ Ba ∉ S) (h3 : 0 < L.length → ∀ b o, A = some ⟨b, o, none⟩ → b < n₁ ∧ b ∉ S)
    (hl : W.cell? ⟨Bl, 0, none⟩ = some (.slice A L.length C)) (hs : Src W Bm Ba k A L) (h0 : J [] W) :
    CallsIn Fence.wide n Try.prog 39 #[.func (.yield l) #[] #[], .pointer (some ⟨Bl, 0, none⟩), .pointer (some ⟨Bm, 0, none⟩), .pointer (some ⟨Ba, 0, none⟩)] W fun e W' => (∃ v, e = .returned v) ∧
      ((∃ ys, ys = L.filter (passB k) ∧ J ys W') ∨ (∃ pre, pre <+: L.filter (passB k) ∧ Jx pre W')) := by
  obtain ⟨kn, ks, kt, ki, kb⟩ := k
  have hfl : Fence.wide.fn 17 := trivial
  refine callsIn_of_wp Try.func39 rfl trivial ?_ rfl
  simp only [Try.ntmps39, List.size_toArray, List.length_cons, List.length_nil, Nat.reduceAdd, Nat.reduceSub, Array.replicate_succ, Array.replicate_zero, List.push_toArray, List.append_toArray, List.nil_append, List.cons_append]
  gi_wp2
  gi_loopw [9] (fun v9 wr => ∃ i : Nat, v9 = .int .i64 i ∧ i ≤ L.length ∧ J ((L.take i).filter (passB ⟨kn, ks, kt, ki, kb⟩)) wr ∧ Src wr Bm Ba ⟨kn, ks, kt, ki, kb⟩ A L) (fun v _ => L.length - (intOf v).toNat)
  case atStart => exact ⟨0, rfl, Nat.zero_le _, h0, hs⟩
  case round =>
    obtain ⟨i, rfl, hi, hj, hsr⟩ := hrel
    by_cases hlt : i < L.length
    · have dlt : decide ((i : Int) < (L.length : Int)) = true := decide_eq_true (by omega)
      have dltN : decide (i < L.length) = true := decide_eq_true hlt
      have bi : (i : Int) < (L.length : Int) := by omega
      have wi : IntKind.i64.wrap ((i : Int) + 1) = (i : Int) + 1 := IntWalk.i64_in _ (by omega)
      obtain ⟨⟨xi, xb, xs, xt, xa, xr⟩, hx⟩ : ∃ x, L[i]? = some x := ⟨_, List.getElem?_eq_getElem hlt⟩
      obtain ⟨b, o, rfl, _⟩ := hsr.row (by omega)
      have hft := filter_take (p := passB ⟨kn, ks, kt, ki, kb⟩) hx
      have hpre : (L.take (i + 1)).filter (passB ⟨kn, ks, kt, ki, kb⟩) <+: L.filter (passB ⟨kn, ks, kt, ki, kb⟩) := filter_pre _ _ _
      obtain ⟨p0, p1, p2, p3, p4, p5⟩ := hsr.row.sixA hx
      have hs1 := hsr.alloc (.cells (cellsC ⟨xi, xb, xs, xt, xa, xr⟩) 39)
      obtain ⟨m0, m1, m2, m3, m4⟩ := fiveM hs1.mark
      obtain ⟨a0, a1, a2, a3, a4, a5⟩ := sixC hs1.at_
      obtain ⟨x0, x1, x2, x3, x4, x5⟩ := sixC (World.alloc_heap_new wr (.cells (cellsC ⟨xi, xb, xs, xt, xa, xr⟩) 39))
      have hj1 := Abides.grow hJ hj ((Below.refl _ _).alloc (Nat.le_refl _) (.cells (cellsC ⟨xi, xb, xs, xt, xa, xr⟩) 39))
      have HS1 := Lib.hid hs1
      have cless := fun W => callsIn_wide (n := n - 1) |>.2 (less_any (atC ⟨kn, ks, kt, ki, kb⟩) ⟨xi, xb, xs, xt, xa, xr⟩ W)
      unfold atC cellsC at *
      simp only at *
      have HPRE := Lib.hid hpre
      have HSR := Lib.hid hsr
      clear hs1 hsr hx
      cases kb with
      | true =>
        have hp : passB ⟨kn, ks, kt, ki, true⟩ ⟨xi, xb, xs, xt, xa, xr⟩ = true := rfl
        rw [hp, if_pos rfl] at hft
        have hlen := HPRE.out.length_le
        rw [hft, List.length_append] at hlen
        simp only [List.length_cons, List.length_nil] at hlen
        obtain ⟨fn, tmps, assign, body, hy, hR⟩ := hY _ ⟨xi, xb, xs, xt, xa, xr⟩ _ hj1 (by omega)
        have HFT := Lib.hid hft
        clear hft hp hlen
        gi_wp2
        refine hR.mono ?_
        rintro e W3 (⟨rfl, hJ3, hk3⟩ | ⟨rfl, hJx3⟩)
        · gi_wp2
          go_roundw
          case rel => exact ⟨i + 1, by go_num, hlt, by rw [HFT.out]; exact hJ3, HS1.out.kept hk3 h1 h2 h3⟩
          case measure => simp [intOf]; omega
        · gi_wp2
          refine bodyPost_ret (results_none rfl _ _ _) rfl ?_
          exact ⟨⟨_, rfl⟩, .inr ⟨_, by rw [← HFT.out]; exact HPRE.out, hJx3⟩⟩
      | false =>
        cases hls : lessC (atC ⟨kn, ks, kt, ki, false⟩) ⟨xi, xb, xs, xt, xa, xr⟩ with
        | true =>
          have hp : passB ⟨kn, ks, kt, ki, false⟩ ⟨xi, xb, xs, xt, xa, xr⟩ = true := by unfold passB; rw [hls]; rfl
          rw [hp, if_pos rfl] at hft
          have hlen := HPRE.out.length_le
          rw [hft, List.length_append] at hlen
          simp only [List.length_cons, List.length_nil] at hlen
          unfold atC at hls
          rw [hls] at cless
          have HFT := Lib.hid hft
          have HX := Lib.hid (World.alloc_heap_new wr (.cells (cellsC ⟨xi, xb, xs, xt, xa, xr⟩) 39))
          clear hft hp hls
          gi_wp2_with fail
          refine (cless _).mono ?_
          rintro e w7 ⟨rfl, hb7⟩
          obtain ⟨fn, tmps, assign, body, hy, hR⟩ := hY _ ⟨xi, xb, xs, xt, xa, xr⟩ _ (Abides.grow hJ hj1 hb7) (by omega)
          obtain ⟨x0, x1, x2, x3, x4, x5⟩ := sixC ((hb7.block _ (Array.getElem?_eq_some_iff.1 HX.out).1).trans HX.out)
          simp only at hy x0 x1 x2 x3 x4 x5
          gi_wp2
          refine hR.mono ?_
          rintro e W3 (⟨rfl, hJ3, hk3⟩ | ⟨rfl, hJx3⟩)
          · gi_wp2
            go_roundw
            case rel => exact ⟨i + 1, by go_num, hlt, by rw [HFT.out]; exact hJ3, (HS1.out.below hb7).kept hk3 h1 h2 h3⟩
            case measure => simp [intOf]; omega
          · gi_wp2
            refine bodyPost_ret (results_none rfl _ _ _) rfl ?_
            exact ⟨⟨_, rfl⟩, .inr ⟨_, by rw [← HFT.out]; exact HPRE.out, hJx3⟩⟩
        | false =>
          have hp : passB ⟨kn, ks, kt, ki, false⟩ ⟨xi, xb, xs, xt, xa, xr⟩ = false := by unfold passB; rw [hls]; rfl
          rw [hp, if_neg (by simp), List.append_nil] at hft
          unfold atC at hls
          rw [hls] at cless
          have HFT := Lib.hid hft
          clear hft hp hls
          gi_wp2_with (gi_at_call 17; refine (cless _).mono ?_; rintro e w7 ⟨rfl, hb7⟩)
          refine ⟨fun _ h => (by cases h), ?_⟩
          gi_wp2
          go_roundw
          case rel => exact ⟨i + 1, by go_num, hlt, by rw [HFT.out]; exact Abides.grow hJ hj1 hb7, HS1.out.below hb7⟩
          case measure => simp [intOf]; omega
    · have dlt : decide ((i : Int) < (L.length : Int)) = false := decide_eq_false (by omega)
      have dltN : decide (i < L.length) = false := decide_eq_false hlt
      rw [List.take_of_length_le (by omega)] at hj
      gi_wp2
      go_end0
      exact ⟨⟨_, rfl⟩, .inl ⟨_, rfl, hj⟩⟩
/-- the iterator, as a range over it wants it -/
theorem behind_stops (n Bl Bm Ba n₁ : Nat) (S : List Nat) (k : Mk) (A : Option Addr) (C : Nat) (L : List Card) (w : World) (hn : 1 ≤ n) (hL : L.length ≤ 1000000)
    (h1 : Bm < n₁ ∧ Bm ∉ S) (h2 : Ba < n₁ ∧ Ba ∉ S) (h3 : 0 < L.length → ∀ b o, A = some ⟨b, o, none⟩ → b < n₁ ∧ b ∉ S)
    (hl : w.cell? ⟨Bl, 0, none⟩ = some (.slice A L.length C)) (hs : Src w Bm Ba k A L) :
    SeqStopsK Fence.wide n Try.prog 39 #[.pointer (some ⟨Bl, 0, none⟩), .pointer (some ⟨Bm, 0, none⟩), .pointer (some ⟨Ba, 0, none⟩)] (fun x : Card => #[.agg (cellsC x)]) (Kept n₁ S) (fun ys => ys = L.filter (passB k)) (fun pre => pre <+: L.filter (passB k)) (L.filter (passB k)).length w := fun l J Jx W hW hJ _ hY h0 =>
  behind_it n l Bl Bm Ba n₁ S k A C L J Jx W _ hn hL hJ hY h1 h2 h3 ((hW.cell (p := ⟨Bl, 0, none⟩) (World.block_lt_of_cell? w _ hl)).trans hl) (hs.below hW) h0
theorem behind_any (k : Mk) (A : Option Addr) (C m : Nat) (w : World) : Calls Try.prog 30 #[.slice A m C, .agg (cellsM k)] w (fun e w' => e = .returned (.func (.func 39) #[] #[.pointer (some ⟨w.heap.size, 0, none⟩), .pointer (some ⟨w.heap.size + 1, 0, none⟩), .pointer (some ⟨w.heap.size + 2, 0, none⟩)]) ∧
    w' = ((w.alloc (.cells #[.slice A m C] 30)).alloc (.cells (cellsM k) 23)).alloc (.cells (cellsC (atC k)) 39)) := by
  obtain ⟨kn, ks, kt, ki, kb⟩ := k
  have hB := Lib.hid (((Below.refl _ w).alloc (Nat.le_refl _) (.cells #[.slice A m C] 30)))
  obtain ⟨m0, m1, m2, m3, m4⟩ := fiveM (World.alloc_heap_new (w.alloc (.cells #[.slice A m C] 30)) (.cells (cellsM ⟨kn, ks, kt, ki, kb⟩) 23))
  unfold atC cellsC cellsM at *
  simp only [World.size_alloc] at *
  go_enter Try.func30, Try.ntmps30
  go_wp2
  go_ret
  exact ⟨rfl, rfl⟩
end Go.Proofs.Ytemdecaiadkchaa
