/- within, walked: a plan that keeps its rules is found to keep them. -/
import Derived.Test.YtipklnakihinkaaMovesWalk
import Derived.Test.YtipklnakihinkaaWithinModel
import Derived.IntWalk
namespace Go.Proofs.Ytipklnakihinkaa
open Go.ChangeShapes Go.WideShapes Go.ChangeAt Go.RowKit
set_option linter.unusedVariables false

theorem quiet_same {P : Program} {f : FuncId} {args : Array Value} {w : World} {a n : Nat} {v : Value}
    (h : Calls P f args (w.drewN (a + n)) fun e w' => e = .returned v ∧ w.drewN (a + n) = w') :
    Calls P f args (w.drewN (a + n)) fun e w'' => e = .returned v ∧ ∃ m, w'' = w.drewN (a + m) :=
  h.mono fun _ _ ⟨he, hm⟩ => ⟨he, n, hm.symm⟩
def knownB (t : Int) (l : List Int) : Bool := l.any (fun e => e == t)
theorem knownB_take (t : Int) (l : List Int) (j : Nat) (h : j < l.length) : knownB t (l.take (j + 1)) = (knownB t (l.take j) || (l[j] == t)) := by
  unfold knownB
  rw [List.take_succ_eq_append_getElem h, List.any_append, List.any_cons, List.any_nil, Bool.or_false]
theorem knownB_mem {t : Int} {l : List Int} (h : t ∈ l) : knownB t l = true := by
  unfold knownB
  rw [List.any_eq_true]
  exact ⟨t, h, by simp⟩
set_option maxRecDepth 100000 in
set_option maxHeartbeats 2000000 in
theorem within_any {bB bP bM n : Nat} {X : BoxM} (me bud : Int) (ends : List (List Int)) (A : Option Addr) (C : Nat) (ok : Nat → Prop) (l : List Send) (v : Value) (w : World) (h : BoxAt w bB bP bM n X)
    (he : RowsAt w ok A ends) (hel : ends.length ≤ 9223372036854775807) (hel2 : ∀ l, l ∈ ends → l.length ≤ 9223372036854775807 ∧ ∀ x, x ∈ l → wf64 x) (hv : SendsAt w v l) (hvl : l.length ≤ 9223372036854775807)
    (hok : WithinOk me bud ends X l) (hbw : bud ≤ 9223372036854775807) :
    Calls Try.prog 16 #[.pointer (some ⟨bB, 0, none⟩), .int .i64 me, .int .i64 bud, .slice A ends.length C, v] w (LawPost w) := by
  obtain ⟨sa, sc, rfl, hcells⟩ := hv
  go_enter Try.func16, Try.ntmps16
  go_wp2
  go_loopw [11, 12, 13] (fun m e i wr => ∃ (k : Nat) (mm ee : Int), m = .int .i64 mm ∧ e = .int .i64 ee ∧ i = .int .i64 k ∧ k ≤ l.length ∧ Below w.heap.size w wr ∧
      (k = 0 → mm = 0 ∧ ee = 0) ∧ ∀ j, k = j + 1 → ∀ s, l[j]? = some s → mm = manyOf (l.take k) s.peer ∧ ee = entOf (l.take k) s.peer) (fun _ _ i _ => l.length - (intOf i).toNat)
  case atStart => exact ⟨0, 0, 0, rfl, rfl, rfl, by omega, Below.refl _ _, fun _ => ⟨rfl, rfl⟩, fun j hj => by omega⟩
  case round =>
    obtain ⟨k, mm, ee, rfl, rfl, rfl, hk, hbel, hz, hs⟩ := hrel
    have hchg := Chg.of_below hbel []
    by_cases hlt : k < l.length
    · obtain ⟨pb, po, rfl, hcl⟩ := hcells (by omega)
      obtain ⟨x, hx⟩ : ∃ x, l[k]? = some x := ⟨_, List.getElem?_eq_getElem hlt⟩
      obtain ⟨r0, r1, r2, r3⟩ := hcl k x hx
      have a0 := hchg.cell_lt r0
      have a1 := hchg.cell_lt r1
      have a2 := hchg.cell_lt r2
      have a3 := hchg.cell_lt r3
      clear r0 r1 r2 r3
      have hmem : x ∈ l := List.mem_of_getElem? hx
      obtain ⟨hme, hlp, hp0, hp20, L, hLg, hL1, hL20, hst, hc1, hc64, hin, hf0⟩ := hok.each x hmem
      obtain ⟨p, g, f, c⟩ := x
      simp only at hme hlp hp0 hp20 hLg hst hc1 hc64 hin hf0 a0 a1 a2 a3
      obtain rfl : g = (L : Int) := hLg
      have hst2 := hst.symm
      clear hst
      have hq1 : (p == me) = false := by simpa using hme
      have hq3 : decide ((L : Int) < 0) = false := by simp
      have hq4 : decide (ends.length ≤ L) = false := by simp; omega
      have hq5 : decide (c < 1) = false := by simp; omega
      have hq6 : decide (64 < c) = false := by simp; omega
      have hq2 : ((L : Int) == p) = false := by simpa using hlp
      obtain ⟨u1, u2, u3, u4⟩ := hok.take (k + 1) p
      have hstep := within_step hlt
      have hxe : l[k] = ⟨p, L, f, c⟩ := by rw [List.getElem?_eq_getElem hlt] at hx; injection hx
      rw [hxe] at hstep
      simp only at hstep
      obtain ⟨s1, s2⟩ := hstep
      have HFIN : Hid (∀ j, k + 1 = j + 1 → ∀ s, l[j]? = some s → s.peer = p) := by
        intro j hj s hjs
        have hjk : j = k := by omega
        rw [hjk, hx] at hjs
        injection hjs with hjs
        rw [← hjs]
      have HS1 := Lib.hid s1
      have HS2 := Lib.hid s2
      have hM0 := manyOf_nonneg (l.take k) p
      have hE0 := (hok.take k p).2.2.1
      rw [s1] at u1 u2
      rw [s2] at u3 u4
      by_cases hk0 : k = 0
      · subst hk0
        obtain ⟨rfl, rfl⟩ := hz rfl
        simp only [Nat.zero_mul, Nat.add_zero] at a0 a1 a2 a3
        have hM : Hid (manyOf (l.take 0) p = 0) := by simp [Hid, manyOf]
        have hE : Hid (entOf (l.take 0) p = 0) := by simp [Hid, entOf, total]
        clear hlp hme hs hz hcl hcells hx hxe
        go_wp2
        obtain ⟨W, hW⟩ : ∃ W, W = wr.alloc (.cells #[.int .i64 p, .int .i64 L, .int .i64 f, .int .i64 c] 34) := ⟨_, rfl⟩
        have hWx : ∀ i, W.cell? ⟨wr.heap.size, i, none⟩ = #[Value.int .i64 p, .int .i64 L, .int .i64 f, .int .i64 c][i]? := fun i => by rw [hW]; exact cell_new1 wr _ 34 i
        have hWc : Chg [] wr W := by rw [hW]; exact (Chg.refl [] wr).alloc _
        have e0 : W.cell? ⟨wr.heap.size, 0, none⟩ = some (.int .i64 p) := hWx 0
        have e1 : W.cell? ⟨wr.heap.size, 1, none⟩ = some (.int .i64 L) := hWx 1
        have e2 : W.cell? ⟨wr.heap.size, 2, none⟩ = some (.int .i64 f) := hWx 2
        have e3 : W.cell? ⟨wr.heap.size, 3, none⟩ = some (.int .i64 c) := hWx 3
        rw [← hW]
        clear hW hWx
        have hbelW := hbel.trans (hWc.below.mono hbel.size)
        have hbxW := (h.keep hchg (by simp) (by simp) (by simp)).keep hWc (by simp) (by simp) (by simp)
        have hheW := (he.keep hchg (by simp)).keep hWc (by simp)
        have hsent := fun q => sent_w p L f (W.drewN q) (hbxW.drewN q) (by unfold wf64; omega) (by unfold wf64; omega) hst2
        obtain ⟨eb, eo, rfl, _, hrow⟩ := hheW (by omega)
        obtain ⟨rv, hrc, ra, rc, rfl, hints⟩ := hrow L (ends.getD L []) (by simp [List.getD, List.getElem?_eq_getElem hL1])
        have hlen := (hel2 (ends.getD L []) (by simp [List.getD, List.getElem?_eq_getElem hL1])).1
        have hwfs := (hel2 (ends.getD L []) (by simp [List.getD, List.getElem?_eq_getElem hL1])).2
        generalize ends.getD L [] = es at *
        have hgen : f + c ≤ 9223372036854775807 := (hwfs _ hin).2
        have HIN := Lib.hid hin
        have HW := Lib.hid hwfs
        clear hwfs hin hrow hbel hWc
        have hu2 : (0 : Int) + 1 ≤ 8 := by omega
        have hu4 : 0 + c ≤ bud ∨ 0 + c ≤ 64 := by have := hE.out; omega
        clear u1 u2 u3 u4 hM0 hE0 s1 s2
        go_quiet (fail)
        go_wp2
        go_big_quiet ((go_at_call 10; exact quiet_same (hsent _)))
        go_wp2
        go_loopw [15, 16] (fun kn i wi => ∃ j : Nat, i = .int .i64 j ∧ j ≤ es.length ∧ kn = .bool (knownB (f + c) (es.take j)) ∧ ∃ q, wi = W.drewN q) (fun _ i _ => es.length - (intOf i).toNat)
        case atStart => exact ⟨0, rfl, by omega, rfl, _, rfl⟩
        case round =>
          obtain ⟨j, rfl, hj, rfl, q, rfl⟩ := hrel
          by_cases hjl : j < es.length
          · obtain ⟨ib, io, rfl, _, hx⟩ := hints (by omega)
            have hce := hx j es[j] (List.getElem?_eq_getElem hjl)
            have HT := Lib.hid (knownB_take (f + c) es j hjl)
            generalize es[j] = ev at *
            clear hx hints
            cases hkn : knownB (f + c) (es.take j)
            · go_wp2
              go_quiet (fail)
              go_wp2
              go_roundw
              case rel => exact ⟨j + 1, by go_num, by omega, by rw [HT.out, hkn]; simp, _, rfl⟩
              case measure => simp [intOf]; omega
            · go_wp2
              go_quiet (fail)
              go_wp2
              go_roundw
              case rel => exact ⟨j + 1, by go_num, by omega, by rw [HT.out, hkn]; rfl, _, rfl⟩
              case measure => simp [intOf]; omega
          · have hkt : knownB (f + c) (es.take j) = true := by rw [List.take_of_length_le (by omega)]; exact knownB_mem HIN.out
            clear hints
            by_cases hb64 : bud < 64
            · have hent : 0 + c ≤ 64 := by omega
              go_wp2
              go_roundw
              case rel =>
                refine ⟨0 + 1, _, _, rfl, rfl, by go_num, by omega, hbelW.trans (((Chg.refl [] W).drewN _).below.mono hbelW.size), by omega, fun j' hj' s' hs' => ?_⟩
                rw [HFIN.out j' hj' s' hs', HS1.out, HS2.out]
                have h1 := hM.out
                have h2 := hE.out
                constructor <;> omega
              case measure => simp [intOf]; omega
            · have hent : 0 + c ≤ bud := by omega
              go_wp2
              go_roundw
              case rel =>
                refine ⟨0 + 1, _, _, rfl, rfl, by go_num, by omega, hbelW.trans (((Chg.refl [] W).drewN _).below.mono hbelW.size), by omega, fun j' hj' s' hs' => ?_⟩
                rw [HFIN.out j' hj' s' hs', HS1.out, HS2.out]
                have h1 := hM.out
                have h2 := hE.out
                constructor <;> omega
              case measure => simp [intOf]; omega
      · obtain ⟨y, hy⟩ : ∃ y, l[k - 1]? = some y := ⟨_, List.getElem?_eq_getElem (by omega)⟩
        obtain ⟨y0, _⟩ := hcl (k - 1) y hy
        have y0r := hchg.cell_lt y0
        obtain ⟨z1, z2⟩ := hs (k - 1) (by omega) y hy
        have hle : y.peer ≤ p := hok.sorted (k - 1) k y _ (by omega) hy hx
        have hfr : y.peer ≠ p → manyOf (l.take k) p = 0 ∧ entOf (l.take k) p = 0 := by
          intro hne
          have h1 : l[k - 1]'(by omega) = y := by rw [List.getElem?_eq_getElem (by omega)] at hy; injection hy
          have h2 := hok.fresh (i := k - 1) (by omega)
          simp only [Nat.sub_add_cancel (by omega : 1 ≤ k), h1, hxe] at h2
          exact h2 hne
        obtain ⟨yp, yg, yf, yc⟩ := y
        simp only at y0r z1 z2 hle hfr
        have hkt : ((k : Int) - 1).toNat = k - 1 := by omega
        have hk5 : 1 ≤ (k : Int) := by omega
        have hk6 : 1 ≤ k := by omega
        have hgt : decide (p < yp) = false := by simp; omega
        have hk1 : ((k : Int) == 0) = false := by simp; omega
        have hk2 : 0 < k := by omega
        have hkw : IntKind.i64.wrap ((k : Int) - 1) = (k : Int) - 1 := IntWalk.i64_in _ (by omega)
        have hk3 : 0 ≤ (k : Int) - 1 := by omega
        have hk4 : (k : Int) - 1 < l.length := by omega
        by_cases hyp : yp = p
        · have hq7 : (yp != p) = false := by simp [hyp]
          rw [hyp] at z1 z2
          have hM : Hid (manyOf (l.take k) p = mm) := z1.symm
          have hE : Hid (entOf (l.take k) p = ee) := z2.symm
          clear hyp hlp hme hs hz hcl hcells hx hxe z1 z2 y0 hy hfr hk0 hle
          go_wp2
          obtain ⟨W, hW⟩ : ∃ W, W = wr.alloc (.cells #[.int .i64 p, .int .i64 L, .int .i64 f, .int .i64 c] 34) := ⟨_, rfl⟩
          have hWx : ∀ i, W.cell? ⟨wr.heap.size, i, none⟩ = #[Value.int .i64 p, .int .i64 L, .int .i64 f, .int .i64 c][i]? := fun i => by rw [hW]; exact cell_new1 wr _ 34 i
          have hWc : Chg [] wr W := by rw [hW]; exact (Chg.refl [] wr).alloc _
          have e0 : W.cell? ⟨wr.heap.size, 0, none⟩ = some (.int .i64 p) := hWx 0
          have e1 : W.cell? ⟨wr.heap.size, 1, none⟩ = some (.int .i64 L) := hWx 1
          have e2 : W.cell? ⟨wr.heap.size, 2, none⟩ = some (.int .i64 f) := hWx 2
          have e3 : W.cell? ⟨wr.heap.size, 3, none⟩ = some (.int .i64 c) := hWx 3
          rw [← hW]
          clear hW hWx
          have hbelW := hbel.trans (hWc.below.mono hbel.size)
          have hbxW := (h.keep hchg (by simp) (by simp) (by simp)).keep hWc (by simp) (by simp) (by simp)
          have hheW := (he.keep hchg (by simp)).keep hWc (by simp)
          have y0W := hWc.cell_lt y0r
          clear y0r
          have hsent := fun q => sent_w p L f (W.drewN q) (hbxW.drewN q) (by unfold wf64; omega) (by unfold wf64; omega) hst2
          obtain ⟨eb, eo, rfl, _, hrow⟩ := hheW (by omega)
          obtain ⟨rv, hrc, ra, rc, rfl, hints⟩ := hrow L (ends.getD L []) (by simp [List.getD, List.getElem?_eq_getElem hL1])
          have hlen := (hel2 (ends.getD L []) (by simp [List.getD, List.getElem?_eq_getElem hL1])).1
          have hwfs := (hel2 (ends.getD L []) (by simp [List.getD, List.getElem?_eq_getElem hL1])).2
          generalize ends.getD L [] = es at *
          have hgen : f + c ≤ 9223372036854775807 := (hwfs _ hin).2
          have HIN := Lib.hid hin
          have HW := Lib.hid hwfs
          clear hwfs hin hrow hbel hWc
          have hu2 : mm + 1 ≤ 8 := by have := hM.out; omega
          have hu3 : 0 ≤ mm ∧ 0 ≤ ee := by have := hE.out; have := hM.out; omega
          obtain ⟨hu5, hu6⟩ := hu3
          have hu4 : ee + c ≤ bud ∨ ee + c ≤ 64 := by have := hE.out; omega
          have hu7 : ee + c ≤ 9223372036854775807 := by omega
          clear u1 u2 u3 u4 hM0 hE0 s1 s2
          go_quiet (fail)
          go_wp2
          go_big_quiet ((go_at_call 10; exact quiet_same (hsent _)))
          go_wp2
          go_loopw [15, 16] (fun kn i wi => ∃ j : Nat, i = .int .i64 j ∧ j ≤ es.length ∧ kn = .bool (knownB (f + c) (es.take j)) ∧ ∃ q, wi = W.drewN q) (fun _ i _ => es.length - (intOf i).toNat)
          case atStart => exact ⟨0, rfl, by omega, rfl, _, rfl⟩
          case round =>
            obtain ⟨j, rfl, hj, rfl, q, rfl⟩ := hrel
            by_cases hjl : j < es.length
            · obtain ⟨ib, io, rfl, _, hx⟩ := hints (by omega)
              have hce := hx j es[j] (List.getElem?_eq_getElem hjl)
              have HT := Lib.hid (knownB_take (f + c) es j hjl)
              generalize es[j] = ev at *
              clear hx hints
              cases hkn : knownB (f + c) (es.take j)
              · go_wp2
                go_quiet (fail)
                go_wp2
                go_roundw
                case rel => exact ⟨j + 1, by go_num, by omega, by rw [HT.out, hkn]; simp, _, rfl⟩
                case measure => simp [intOf]; omega
              · go_wp2
                go_quiet (fail)
                go_wp2
                go_roundw
                case rel => exact ⟨j + 1, by go_num, by omega, by rw [HT.out, hkn]; rfl, _, rfl⟩
                case measure => simp [intOf]; omega
            · have hkt : knownB (f + c) (es.take j) = true := by rw [List.take_of_length_le (by omega)]; exact knownB_mem HIN.out
              clear hints
              by_cases hb64 : bud < 64
              · have hent : ee + c ≤ 64 := by omega
                go_wp2
                go_roundw
                case rel =>
                  refine ⟨k + 1, _, _, rfl, rfl, by go_num, by omega, hbelW.trans (((Chg.refl [] W).drewN _).below.mono hbelW.size), by omega, fun j' hj' s' hs' => ?_⟩
                  rw [HFIN.out j' hj' s' hs', HS1.out, HS2.out]
                  have h1 := hM.out
                  have h2 := hE.out
                  constructor <;> omega
                case measure => simp [intOf]; omega
              · have hent : ee + c ≤ bud := by omega
                go_wp2
                go_roundw
                case rel =>
                  refine ⟨k + 1, _, _, rfl, rfl, by go_num, by omega, hbelW.trans (((Chg.refl [] W).drewN _).below.mono hbelW.size), by omega, fun j' hj' s' hs' => ?_⟩
                  rw [HFIN.out j' hj' s' hs', HS1.out, HS2.out]
                  have h1 := hM.out
                  have h2 := hE.out
                  constructor <;> omega
                case measure => simp [intOf]; omega
        · have hq7 : (yp != p) = true := by simp [hyp]
          have hM : Hid (manyOf (l.take k) p = 0) := (hfr hyp).1
          have hE : Hid (entOf (l.take k) p = 0) := (hfr hyp).2
          clear hyp hlp hme hs hz hcl hcells hx hxe z1 z2 y0 hy hfr hk0 hle
          go_wp2
          obtain ⟨W, hW⟩ : ∃ W, W = wr.alloc (.cells #[.int .i64 p, .int .i64 L, .int .i64 f, .int .i64 c] 34) := ⟨_, rfl⟩
          have hWx : ∀ i, W.cell? ⟨wr.heap.size, i, none⟩ = #[Value.int .i64 p, .int .i64 L, .int .i64 f, .int .i64 c][i]? := fun i => by rw [hW]; exact cell_new1 wr _ 34 i
          have hWc : Chg [] wr W := by rw [hW]; exact (Chg.refl [] wr).alloc _
          have e0 : W.cell? ⟨wr.heap.size, 0, none⟩ = some (.int .i64 p) := hWx 0
          have e1 : W.cell? ⟨wr.heap.size, 1, none⟩ = some (.int .i64 L) := hWx 1
          have e2 : W.cell? ⟨wr.heap.size, 2, none⟩ = some (.int .i64 f) := hWx 2
          have e3 : W.cell? ⟨wr.heap.size, 3, none⟩ = some (.int .i64 c) := hWx 3
          rw [← hW]
          clear hW hWx
          have hbelW := hbel.trans (hWc.below.mono hbel.size)
          have hbxW := (h.keep hchg (by simp) (by simp) (by simp)).keep hWc (by simp) (by simp) (by simp)
          have hheW := (he.keep hchg (by simp)).keep hWc (by simp)
          have y0W := hWc.cell_lt y0r
          clear y0r
          have hsent := fun q => sent_w p L f (W.drewN q) (hbxW.drewN q) (by unfold wf64; omega) (by unfold wf64; omega) hst2
          obtain ⟨eb, eo, rfl, _, hrow⟩ := hheW (by omega)
          obtain ⟨rv, hrc, ra, rc, rfl, hints⟩ := hrow L (ends.getD L []) (by simp [List.getD, List.getElem?_eq_getElem hL1])
          have hlen := (hel2 (ends.getD L []) (by simp [List.getD, List.getElem?_eq_getElem hL1])).1
          have hwfs := (hel2 (ends.getD L []) (by simp [List.getD, List.getElem?_eq_getElem hL1])).2
          generalize ends.getD L [] = es at *
          have hgen : f + c ≤ 9223372036854775807 := (hwfs _ hin).2
          have HIN := Lib.hid hin
          have HW := Lib.hid hwfs
          clear hwfs hin hrow hbel hWc
          have hu2 : (0 : Int) + 1 ≤ 8 := by omega
          have hu4 : 0 + c ≤ bud ∨ 0 + c ≤ 64 := by have := hE.out; omega
          clear u1 u2 u3 u4 hM0 hE0 s1 s2
          go_quiet (fail)
          go_wp2
          go_big_quiet ((go_at_call 10; exact quiet_same (hsent _)))
          go_wp2
          go_loopw [15, 16] (fun kn i wi => ∃ j : Nat, i = .int .i64 j ∧ j ≤ es.length ∧ kn = .bool (knownB (f + c) (es.take j)) ∧ ∃ q, wi = W.drewN q) (fun _ i _ => es.length - (intOf i).toNat)
          case atStart => exact ⟨0, rfl, by omega, rfl, _, rfl⟩
          case round =>
            obtain ⟨j, rfl, hj, rfl, q, rfl⟩ := hrel
            by_cases hjl : j < es.length
            · obtain ⟨ib, io, rfl, _, hx⟩ := hints (by omega)
              have hce := hx j es[j] (List.getElem?_eq_getElem hjl)
              have HT := Lib.hid (knownB_take (f + c) es j hjl)
              generalize es[j] = ev at *
              clear hx hints
              cases hkn : knownB (f + c) (es.take j)
              · go_wp2
                go_quiet (fail)
                go_wp2
                go_roundw
                case rel => exact ⟨j + 1, by go_num, by omega, by rw [HT.out, hkn]; simp, _, rfl⟩
                case measure => simp [intOf]; omega
              · go_wp2
                go_quiet (fail)
                go_wp2
                go_roundw
                case rel => exact ⟨j + 1, by go_num, by omega, by rw [HT.out, hkn]; rfl, _, rfl⟩
                case measure => simp [intOf]; omega
            · have hkt : knownB (f + c) (es.take j) = true := by rw [List.take_of_length_le (by omega)]; exact knownB_mem HIN.out
              clear hints
              by_cases hb64 : bud < 64
              · have hent : 0 + c ≤ 64 := by omega
                go_wp2
                go_roundw
                case rel =>
                  refine ⟨k + 1, _, _, rfl, rfl, by go_num, by omega, hbelW.trans (((Chg.refl [] W).drewN _).below.mono hbelW.size), by omega, fun j' hj' s' hs' => ?_⟩
                  rw [HFIN.out j' hj' s' hs', HS1.out, HS2.out]
                  have h1 := hM.out
                  have h2 := hE.out
                  constructor <;> omega
                case measure => simp [intOf]; omega
              · have hent : 0 + c ≤ bud := by omega
                go_wp2
                go_roundw
                case rel =>
                  refine ⟨k + 1, _, _, rfl, rfl, by go_num, by omega, hbelW.trans (((Chg.refl [] W).drewN _).below.mono hbelW.size), by omega, fun j' hj' s' hs' => ?_⟩
                  rw [HFIN.out j' hj' s' hs', HS1.out, HS2.out]
                  have h1 := hM.out
                  have h2 := hE.out
                  constructor <;> omega
                case measure => simp [intOf]; omega
    · clear hcells hz hs
      go_wp2
      go_ret
      exact ⟨rfl, hbel⟩
end Go.Proofs.Ytipklnakihinkaa
