/- page.Read, walked. -/
import Derived.Test.YtemdecaiadkchaaPgRead
namespace Go.Proofs.Ytemdecaiadkchaa
open Go.ChangeShapes Go.WideShapes Go.ChangeAt Go.RowKit Go.Lib
set_option linter.unusedVariables false

theorem results_cell1 {P : Program} {fn : Func} {p a : Tmp} {ty : TypeId} (h : fn.results = #[.cell p ty, .tmp a]) (tmps : Array Value) (w : World) (g : Nat) (t : TypeId) (cs : Array Value) (fr : Nat × Nat) (d : TypeDesc)
    (hp : tmps.getD p undef = .pointer (some ⟨g, 0, none⟩)) (hg : w.heap[g]? = some (.cells cs t fr))
    (hu : P.underlying ty = some d) (hd : (match d with | .struct _ | .array _ _ => true | _ => false) = true) (hi : (P.info? ty).map (·.size) = some cs.size) :
    (results fn tmps).run P w = .ok (.tuple #[.agg cs, tmps.getD a undef]) w := by
  have hp' : tmps[p]?.getD undef = .pointer (some ⟨g, 0, none⟩) := by simpa using hp
  simp [results, h, hp', asAddr, run_loadVar_row w g t ty cs fr d hg hu hd hi]
def ReadP (w : World) (s : List UInt8) (e : Ending) (w' : World) : Prop := e = .returned (.tuple #[.agg (cellsM ((readM s).getD zeroM)), .bool (readM s).isSome]) ∧ Below w.heap.size w w'
/-- the world of a reader at block p, with the result's mark below it -/
structure RW (w : World) (p : Nat) (r : Rd) (W : World) : Prop where
  z : W.heap[w.heap.size]? = some (.cells (cellsM zeroM) 23 (0, 0))
  rd : RdAt W p 58 r
  bel : Below w.heap.size w W
  lt : w.heap.size < p
theorem RW.step {w : World} {p : Nat} {r r' : Rd} {W W' : World} (h : RW w p r W) (hr : RdAt W' p 58 r') (hc : Chg [p] W W') : RW w p r' W' := by
  have hlt := h.lt
  exact ⟨hc.heap_some (by simp; omega) h.z, hr, Chg.below ((Chg.of_below h.bel []).step hc (fun b hb => .inr (by simp at hb; omega))), h.lt⟩
theorem RW.below {w : World} {p : Nat} {r : Rd} {W W' : World} (h : RW w p r W) (hb : Below W.heap.size W W') : RW w p r W' :=
  ⟨keep_blkP hb h.z, h.rd.below hb, h.bel.trans (hb.mono h.bel.size), h.lt⟩
/-- a mark stored as the result -/
theorem RW.out {w : World} {p : Nat} {r : Rd} {W : World} (h : RW w p r W) (K : Mk) : (markW W w.heap.size K).heap[w.heap.size]? = some (.cells (cellsM K) 23 (0, 0)) ∧ Below w.heap.size w (markW W w.heap.size K) :=
  ⟨markW_heap h.z, h.bel.trans (markW_below (Nat.le_refl _))⟩
def mkOf (s : List UInt8) : Mk := ⟨(Rd.mk s false).num.1, (Rd.mk s false).num.2.num.2.int.1, (Rd.mk s false).num.2.num.2.int.2.num.1, (Rd.mk s false).num.2.num.2.int.2.num.2.text.1, (Rd.mk s false).num.2.num.1 == 1⟩
theorem readM_eq (s : List UInt8) : readM s = if (Rd.mk s false).num.2.num.2.int.2.num.2.text.2.done = true ∧ (Rd.mk s false).num.2.num.1 ≤ 1 ∧ rightB (mkOf s) = true ∧ bytesM (mkOf s) = s then some (mkOf s) else none := rfl
set_option maxRecDepth 100000 in
set_option maxHeartbeats 8000000 in
theorem read_any (s : List UInt8) (w : World) (hs : s.length ≤ 1000000) : Calls Try.prog 8 #[.string (bs s)] w (ReadP w s) := by
  obtain ⟨R, hR⟩ : ∃ R, readM s = R := ⟨_, rfl⟩
  unfold ReadP
  rw [hR]
  rw [readM_eq] at hR
  obtain ⟨mk, hmk⟩ : ∃ mk, mkOf s = mk := ⟨_, rfl⟩
  rw [hmk] at hR
  have co := fun W => open_rd s W
  have k1 := Rd.num_len (Rd.mk s false)
  obtain ⟨r1, hr1⟩ : ∃ r, (Rd.mk s false).num.2 = r := ⟨_, rfl⟩
  have k2 := Rd.num_len r1
  obtain ⟨r2, hr2⟩ : ∃ r, r1.num.2 = r := ⟨_, rfl⟩
  have k3 := Rd.int_len r2
  obtain ⟨r3, hr3⟩ : ∃ r, r2.int.2 = r := ⟨_, rfl⟩
  have k4 := Rd.num_len r3
  obtain ⟨r4, hr4⟩ : ∃ r, r3.num.2 = r := ⟨_, rfl⟩
  have k5 := Rd.text_len r4
  obtain ⟨r5, hr5⟩ : ∃ r, r4.text.2 = r := ⟨_, rfl⟩
  have c1 := fun p W h => num_rd p (Rd.mk s false) W h (by simp; omega)
  have c2 := fun p W h => num_rd p r1 W h (by rw [← hr1]; simp at k1; omega)
  have c3 := fun p W h => int_rd p r2 W h (by rw [← hr2]; rw [hr1] at k1; simp at k1; omega)
  have c4 := fun p W h => num_rd p r3 W h (by rw [← hr3]; rw [hr2] at k2; rw [hr1] at k1; simp at k1; omega)
  have c5 := fun p W h => text_rd p r4 W h (by rw [← hr4]; rw [hr3] at k3; rw [hr2] at k2; rw [hr1] at k1; simp at k1; omega)
  have c6 := fun p W h => done_rd p r5 W h
  have hb1 := Rd.num_lt (Rd.mk s false)
  have hb2 := Rd.num_lt r1
  have hb4 := Rd.num_lt r3
  rw [hr1] at c1
  rw [hr2] at c2
  rw [hr3] at c3
  rw [hr4] at c4
  rw [hr5] at c5
  unfold mkOf at hmk
  rw [hr1, hr2, hr3, hr4] at hmk hR
  rw [hr5] at hR
  clear k1 k2 k3 k4 k5 hr1 hr2 hr3 hr4 hr5
  generalize (Rd.mk s false).num.1 = n1 at *
  generalize r1.num.1 = n2 at *
  generalize r2.int.1 = n3 at *
  generalize r3.num.1 = n4 at *
  generalize r4.text.1 = n5 at *
  unfold RdPost at c1 c2 c3 c4 c5
  subst hmk
  have cr := fun W => right_any ⟨(n1 : Int), n3, (n4 : Int), n5, n2 == 1⟩ W
  have cb := fun W => bytes_any ⟨(n1 : Int), n3, (n4 : Int), n5, n2 == 1⟩ W
  have heq : ((n2 : Int) == 1) = (n2 == 1) := by
    by_cases h : n2 = 1
    · subst h; rfl
    · rw [beq_eq_false_iff_ne.2 h, beq_eq_false_iff_ne.2 (by omega)]
  have hz0 := heap_alloc_new w (.cells (cellsM zeroM) 23)
  have hB0 := (Below.refl w.heap.size w).alloc (Nat.le_refl _) (.cells (cellsM zeroM) 23)
  have hZ := Lib.hid hz0
  have hB := Lib.hid hB0
  have tb := bs_toList s
  clear hz0 hB0 hs
  go_enter Try.func8, Try.ntmps8
  go_wp2_with fail
  refine (co _).mono ?_
  rintro e w1 ⟨rfl, hrd, hbx⟩
  have h1 : RW w (w.heap.size + 1) ⟨s, false⟩ w1 := by
    rw [World.size_alloc] at hrd hbx
    refine ⟨(hbx.block _ (by omega)).trans hZ.out, hrd, hB.out.trans (hbx.mono (by omega)), by omega⟩
  clear co hrd hbx hZ hB
  go_wp2_with fail
  (try simp only [World.size_alloc])
  refine (c1 _ _ h1.rd).mono ?_
  rintro e w2 ⟨rfl, hrd, hch⟩
  have h2 := h1.step hrd hch
  clear h1 hrd hch c1
  go_wp2_with fail
  (try simp only [World.size_alloc])
  refine (c2 _ _ h2.rd).mono ?_
  rintro e w3 ⟨rfl, hrd, hch⟩
  have h3 := h2.step hrd hch
  clear h2 hrd hch c2
  go_wp2_with fail
  (try simp only [World.size_alloc])
  refine (c3 _ _ h3.rd).mono ?_
  rintro e w4 ⟨rfl, hrd, hch⟩
  have h4 := h3.step hrd hch
  clear h3 hrd hch c3
  go_wp2_with fail
  (try simp only [World.size_alloc])
  refine (c4 _ _ h4.rd).mono ?_
  rintro e w5 ⟨rfl, hrd, hch⟩
  have h5 := h4.step hrd hch
  clear h4 hrd hch c4
  go_wp2_with fail
  (try simp only [World.size_alloc])
  refine (c5 _ _ h5.rd).mono ?_
  rintro e w6 ⟨rfl, hrd, hch⟩
  have h6 := h5.step hrd hch
  clear h5 hrd hch c5
  have c7 := c6 _ _ h6.rd
  clear c6
  have hf := fun j => frozen_row h6.z j
  obtain ⟨z0, z1, z2, z3, z4⟩ := fiveM h6.z
  have f0 := hf 0
  have f1 := hf 1
  have f2 := hf 2
  have f3 := hf 3
  have f4 := hf 4
  clear hf
  have HO := fun K => h6.out K
  have HO0 := Lib.hid (HO zeroM)
  cases hd : r5.done with
  | false =>
    have HR : Hid (R = none) := by rw [Hid, ← hR, hd, if_neg (by simp)]
    rw [hd] at c7
    clear hR hd HO cr cb
    go_wp2_with fail
    refine c7.mono ?_
    rintro e w7 ⟨rfl, rfl⟩
    clear c7
    go_wp2
    refine bodyPost_ret (results_cell1 rfl _ _ w.heap.size 23 (cellsM zeroM) (0, 0) _ rfl HO0.out.1 Try.underlying23 rfl infoM) rfl ?_
    exact ⟨by rw [HR.out]; rfl, HO0.out.2⟩
  | true =>
    rw [hd] at c7
    by_cases h1 : n2 ≤ 1
    · have d1 : decide ((1 : Int) < (n2 : Int)) = false := decide_eq_false (by omega)
      have d1N : decide (1 < n2) = false := decide_eq_false (by omega)
      cases hr : rightB ⟨(n1 : Int), n3, (n4 : Int), n5, n2 == 1⟩ with
      | false =>
        have HR : Hid (R = none) := by rw [Hid, ← hR, hr, if_neg (by simp)]
        rw [hr] at cr
        clear hR hr HO HO0 cb z0 z1 z2 z3 z4 f0 f1 f2 f3 f4 hd
        unfold cellsM at cr
        simp only at cr
        go_wp2_with fail
        refine c7.mono ?_
        rintro e w7 ⟨rfl, rfl⟩
        clear c7
        have h7 := h6.below ((Below.refl _ w7).alloc (Nat.le_refl _) (.cells #[.int .i64 n1, .int .i64 n3, .int .i64 n4, .string (bs n5), .bool (n2 == 1)] 23))
        have hn := Lib.hid (heap_alloc_new w7 (.cells #[.int .i64 n1, .int .i64 n3, .int .i64 n4, .string (bs n5), .bool (n2 == 1)] 23))
        clear h6
        go_wp2_with fail
        refine (cr _).mono ?_
        rintro e w8 ⟨rfl, hb8⟩
        have h8 := h7.below hb8
        clear h7 hb8 hn cr
        have HO8 := Lib.hid (h8.out zeroM)
        have hf := fun j => frozen_row h8.z j
        obtain ⟨z0, z1, z2, z3, z4⟩ := fiveM h8.z
        have f0 := hf 0
        have f1 := hf 1
        have f2 := hf 2
        have f3 := hf 3
        have f4 := hf 4
        clear hf
        go_wp2
        refine bodyPost_ret (results_cell1 rfl _ _ w.heap.size 23 (cellsM zeroM) (0, 0) _ rfl HO8.out.1 Try.underlying23 rfl infoM) rfl ?_
        exact ⟨by rw [HR.out]; rfl, HO8.out.2⟩
      | true =>
        rw [hr] at cr
        obtain ⟨X, hX⟩ : ∃ X, bytesM ⟨(n1 : Int), n3, (n4 : Int), n5, n2 == 1⟩ = X := ⟨_, rfl⟩
        rw [hX] at cb hR
        have tx := bs_toList X
        unfold cellsM at cr cb
        simp only at cr cb
        clear HO HO0 z0 z1 z2 z3 z4 f0 f1 f2 f3 f4
        go_wp2_with fail
        refine c7.mono ?_
        rintro e w7 ⟨rfl, rfl⟩
        clear c7
        have h7 := h6.below ((Below.refl _ w7).alloc (Nat.le_refl _) (.cells #[.int .i64 n1, .int .i64 n3, .int .i64 n4, .string (bs n5), .bool (n2 == 1)] 23))
        have hn := Lib.hid (heap_alloc_new w7 (.cells #[.int .i64 n1, .int .i64 n3, .int .i64 n4, .string (bs n5), .bool (n2 == 1)] 23))
        clear h6
        go_wp2_with fail
        refine (cr _).mono ?_
        rintro e w8 ⟨rfl, hb8⟩
        have h8 := h7.below hb8
        have hn8 := Lib.hid (keep_blkP hb8 hn.out)
        clear h7 hb8 hn cr
        obtain ⟨q0, q1, q2, q3, q4⟩ := fiveM (k := ⟨(n1 : Int), n3, (n4 : Int), n5, n2 == 1⟩) hn8.out
        go_wp2_with fail
        refine (cb _).mono ?_
        rintro e w9 ⟨rfl, hb9⟩
        have h9 := h8.below hb9
        have hn9 := Lib.hid (keep_blkP hb9 hn8.out)
        clear h8 hb9 hn8 cb q0 q1 q2 q3 q4
        obtain ⟨q0, q1, q2, q3, q4⟩ := fiveM (k := ⟨(n1 : Int), n3, (n4 : Int), n5, n2 == 1⟩) hn9.out
        have hf := fun j => frozen_row h9.z j
        obtain ⟨z0, z1, z2, z3, z4⟩ := fiveM h9.z
        have f0 := hf 0
        have f1 := hf 1
        have f2 := hf 2
        have f3 := hf 3
        have f4 := hf 4
        clear hf
        by_cases hxs : X = s
        · have HR : Hid (R = some ⟨(n1 : Int), n3, (n4 : Int), n5, n2 == 1⟩) := by rw [Hid, ← hR, if_pos ⟨hd, h1, hr, hxs⟩]
          have HO9 := Lib.hid (h9.out ⟨(n1 : Int), n3, (n4 : Int), n5, n2 == 1⟩)
          have te : (X == s) = true := by rw [hxs]; simp
          clear hR hr hd hX h1 hn9 h9 hxs
          go_wp2
          refine bodyPost_ret (results_cell1 rfl _ _ w.heap.size 23 (cellsM ⟨(n1 : Int), n3, (n4 : Int), n5, n2 == 1⟩) (0, 0) _ rfl HO9.out.1 Try.underlying23 rfl infoM) rfl ?_
          exact ⟨by rw [HR.out]; rfl, HO9.out.2⟩
        · have HR : Hid (R = none) := by rw [Hid, ← hR, if_neg (fun h => hxs h.2.2.2)]
          have HO9 := Lib.hid (h9.out zeroM)
          have te : (X == s) = false := beq_eq_false_iff_ne.2 hxs
          clear hR hr hd hX h1 hn9 h9 hxs
          go_wp2
          refine bodyPost_ret (results_cell1 rfl _ _ w.heap.size 23 (cellsM zeroM) (0, 0) _ rfl HO9.out.1 Try.underlying23 rfl infoM) rfl ?_
          exact ⟨by rw [HR.out]; rfl, HO9.out.2⟩
    · have d1 : decide ((1 : Int) < (n2 : Int)) = true := decide_eq_true (by omega)
      have d1N : decide (1 < n2) = true := decide_eq_true (by omega)
      have HR : Hid (R = none) := by rw [Hid, ← hR, if_neg (fun h => h1 h.2.1)]
      clear hR hd HO cr cb h1
      go_wp2_with fail
      refine c7.mono ?_
      rintro e w7 ⟨rfl, rfl⟩
      clear c7
      go_wp2
      refine bodyPost_ret (results_cell1 rfl _ _ w.heap.size 23 (cellsM zeroM) (0, 0) _ rfl HO0.out.1 Try.underlying23 rfl infoM) rfl ?_
      exact ⟨by rw [HR.out]; rfl, HO0.out.2⟩
end Go.Proofs.Ytemdecaiadkchaa
