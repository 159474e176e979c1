/- page.Right, Begin, Bytes, Read, walked. -/
import Derived.Test.YtemdecaiadkchaaPgNext
import Derived.Test.YtemdecaiadkchaaCRd2
import Derived.Deep.RegionHeld3
namespace Go.Proofs.Ytemdecaiadkchaa
open Go.ChangeShapes Go.WideShapes Go.ChangeAt Go.RowKit Go.Lib
set_option linter.unusedVariables false

def rightB (k : Mk) : Bool := decide (0 ≤ k.now ∧ k.now ≤ 1099511627776) && (if k.beg = true then decide (k.score = 0 ∧ k.time = 0 ∧ k.id = []) else decide (-1125899906842624 ≤ k.score ∧ k.score ≤ 1125899906842624 ∧ 0 ≤ k.time ∧ k.time ≤ 1099511627776 ∧ k.id.length = 32))
set_option maxHeartbeats 4000000 in
theorem right_any (k : Mk) (w : World) : Calls Try.prog 10 #[.agg (cellsM k)] w (BoolPost w (rightB k)) := by
  obtain ⟨kn, ks, kt, ki, kb⟩ := k
  have hsz := bs_size ki
  have htl := bs_toList ki
  have hB := Lib.hid ((Below.refl w.heap.size w).alloc (Nat.le_refl _) (.cells (cellsM ⟨kn, ks, kt, ki, kb⟩) 23))
  obtain ⟨R, hR⟩ : ∃ R, rightB ⟨kn, ks, kt, ki, kb⟩ = R := ⟨_, rfl⟩
  rw [hR]
  unfold rightB at hR
  simp only at hR
  unfold cellsM at *
  simp only at *
  by_cases ha : kn < 0
  · skip
    have fa0 : decide (kn < 0) = true := decide_eq_true ha
    have HR : Hid (R = false) := by
      rw [Hid, ← hR]
      rw [decide_eq_false (by omega)]; rfl
    clear hR ha
    go_wp2
    go_ret
    exact ⟨by rw [HR.out]; first | done | rfl, hB.out⟩
  · skip
    have fa0 : decide (kn < 0) = false := decide_eq_false ha
    by_cases hb : 1099511627776 < kn
    · skip
      have fb0 : decide (1099511627776 < kn) = true := decide_eq_true hb
      have HR : Hid (R = false) := by
        rw [Hid, ← hR]
        rw [decide_eq_false (by omega)]; rfl
      clear hR ha hb
      go_wp2
      go_ret
      exact ⟨by rw [HR.out]; first | done | rfl, hB.out⟩
    · skip
      have fb0 : decide (1099511627776 < kn) = false := decide_eq_false hb
      cases kb with
      | true =>
        by_cases hs : ks = 0
        · skip
          have fs0 : (ks == 0) = true := beq_iff_eq.2 (by omega)
          by_cases ht : kt = 0
          · skip
            have ft0 : (kt == 0) = true := beq_iff_eq.2 (by omega)
            by_cases hi : ki = []
            · skip
              have HR : Hid (R = true) := by
                rw [Hid, ← hR]
                rw [if_pos rfl, decide_eq_true ⟨by omega, by omega⟩, decide_eq_true ⟨by omega, by omega, hi⟩]; rfl
              subst hi
              clear hR ha hb hs ht
              go_wp2
              go_ret
              exact ⟨by rw [HR.out]; first | done | rfl, hB.out⟩
            · skip
              have fi0 : (ki == []) = false := by cases ki with | nil => exact absurd rfl hi | cons x r => rfl
              have fi1 : ki.isEmpty = false := by cases ki with | nil => exact absurd rfl hi | cons x r => rfl
              have HR : Hid (R = false) := by
                rw [Hid, ← hR]
                rw [if_pos rfl, decide_eq_false (p := ks = 0 ∧ kt = 0 ∧ ki = []) (fun h => hi h.2.2)]; simp
              clear hR ha hb hs ht hi
              go_wp2
              go_ret
              exact ⟨by rw [HR.out]; first | done | rfl, hB.out⟩
          · skip
            have ft0 : (kt == 0) = false := beq_eq_false_iff_ne.2 (by omega)
            have HR : Hid (R = false) := by
              rw [Hid, ← hR]
              rw [if_pos rfl, decide_eq_false (p := ks = 0 ∧ kt = 0 ∧ ki = []) (fun h => ht h.2.1)]; simp
            clear hR ha hb hs ht
            go_wp2
            go_ret
            exact ⟨by rw [HR.out]; first | done | rfl, hB.out⟩
        · skip
          have fs0 : (ks == 0) = false := beq_eq_false_iff_ne.2 (by omega)
          have HR : Hid (R = false) := by
            rw [Hid, ← hR]
            rw [if_pos rfl, decide_eq_false (p := ks = 0 ∧ kt = 0 ∧ ki = []) (fun h => hs h.1)]; simp
          clear hR ha hb hs
          go_wp2
          go_ret
          exact ⟨by rw [HR.out]; first | done | rfl, hB.out⟩
      | false =>
        by_cases hc : -1125899906842624 ≤ ks
        · skip
          have fc0 : decide (-1125899906842624 ≤ ks) = true := decide_eq_true hc
          by_cases hd : ks ≤ 1125899906842624
          · skip
            have fd0 : decide (ks ≤ 1125899906842624) = true := decide_eq_true hd
            by_cases he : 0 ≤ kt
            · skip
              have fe0 : decide (0 ≤ kt) = true := decide_eq_true he
              by_cases hf : kt ≤ 1099511627776
              · skip
                have ff0 : decide (kt ≤ 1099511627776) = true := decide_eq_true hf
                by_cases hg : ki.length = 32
                · skip
                  have fg0 : ((ki.length : Int) == 32) = true := beq_iff_eq.2 (by omega)
                  have fg1 : (ki.length == 32) = true := beq_iff_eq.2 (by omega)
                  have HR : Hid (R = true) := by
                    rw [Hid, ← hR]
                    rw [if_neg (by simp), decide_eq_true ⟨by omega, by omega⟩, decide_eq_true ⟨by omega, by omega, by omega, by omega, by omega⟩]; rfl
                  clear hR ha hb hc hd he hf hg
                  go_wp2
                  go_ret
                  exact ⟨by rw [HR.out]; first | done | rfl, hB.out⟩
                · skip
                  have fg0 : ((ki.length : Int) == 32) = false := beq_eq_false_iff_ne.2 (by omega)
                  have fg1 : (ki.length == 32) = false := beq_eq_false_iff_ne.2 (by omega)
                  have HR : Hid (R = false) := by
                    rw [Hid, ← hR]
                    rw [if_neg (by simp), decide_eq_false (p := -1125899906842624 ≤ ks ∧ ks ≤ 1125899906842624 ∧ 0 ≤ kt ∧ kt ≤ 1099511627776 ∧ ki.length = 32) (by omega)]; simp
                  clear hR ha hb hc hd he hf hg
                  go_wp2
                  go_ret
                  exact ⟨by rw [HR.out]; first | done | rfl, hB.out⟩
              · skip
                have ff0 : decide (kt ≤ 1099511627776) = false := decide_eq_false hf
                have HR : Hid (R = false) := by
                  rw [Hid, ← hR]
                  rw [if_neg (by simp), decide_eq_false (p := -1125899906842624 ≤ ks ∧ ks ≤ 1125899906842624 ∧ 0 ≤ kt ∧ kt ≤ 1099511627776 ∧ ki.length = 32) (by omega)]; simp
                clear hR ha hb hc hd he hf
                go_wp2
                go_ret
                exact ⟨by rw [HR.out]; first | done | rfl, hB.out⟩
            · skip
              have fe0 : decide (0 ≤ kt) = false := decide_eq_false he
              have HR : Hid (R = false) := by
                rw [Hid, ← hR]
                rw [if_neg (by simp), decide_eq_false (p := -1125899906842624 ≤ ks ∧ ks ≤ 1125899906842624 ∧ 0 ≤ kt ∧ kt ≤ 1099511627776 ∧ ki.length = 32) (by omega)]; simp
              clear hR ha hb hc hd he
              go_wp2
              go_ret
              exact ⟨by rw [HR.out]; first | done | rfl, hB.out⟩
          · skip
            have fd0 : decide (ks ≤ 1125899906842624) = false := decide_eq_false hd
            have HR : Hid (R = false) := by
              rw [Hid, ← hR]
              rw [if_neg (by simp), decide_eq_false (p := -1125899906842624 ≤ ks ∧ ks ≤ 1125899906842624 ∧ 0 ≤ kt ∧ kt ≤ 1099511627776 ∧ ki.length = 32) (by omega)]; simp
            clear hR ha hb hc hd
            go_wp2
            go_ret
            exact ⟨by rw [HR.out]; first | done | rfl, hB.out⟩
        · skip
          have fc0 : decide (-1125899906842624 ≤ ks) = false := decide_eq_false hc
          have HR : Hid (R = false) := by
            rw [Hid, ← hR]
            rw [if_neg (by simp), decide_eq_false (p := -1125899906842624 ≤ ks ∧ ks ≤ 1125899906842624 ∧ 0 ≤ kt ∧ kt ≤ 1099511627776 ∧ ki.length = 32) (by omega)]; simp
          clear hR ha hb hc
          go_wp2
          go_ret
          exact ⟨by rw [HR.out]; first | done | rfl, hB.out⟩
theorem infoM : (Try.prog.info? 23).map (·.size) = some 5 := by kernel_rfl
theorem keep_blkP {w1 w2 : World} {i : Nat} {o : Obj} (h : Below w1.heap.size w1 w2) (g : w1.heap[i]? = some o) : w2.heap[i]? = some o := (h.block _ (Array.getElem?_eq_some_iff.1 g).1).trans g
def beginM (n : Int) : Mk := ⟨n, 0, 0, [], true⟩
theorem begin_any (n : Int) (w : World) : Calls Try.prog 13 #[.int .i64 n] w (fun e w' => e = .returned (.agg (cellsM (beginM n))) ∧ Below w.heap.size w w') := by
  have hB := Lib.hid ((Below.refl w.heap.size w).alloc (Nat.le_refl _) (.cells (cellsM (beginM n)) 23))
  unfold cellsM beginM at *
  simp only at *
  go_enter Try.func13, Try.ntmps13
  have hZ := Lib.hid (heap_alloc_new w (.cells #[.int .i64 n, .int .i64 0, .int .i64 0, .string (bs []), .bool true] 23))
  go_wp2
  refine bodyPost_ret (v := .agg #[.int .i64 n, .int .i64 0, .int .i64 0, .string (bs []), .bool true]) (results_cell_row rfl _ _ w.heap.size 23 _ (0, 0) _ rfl hZ.out Try.underlying23 rfl infoM) rfl ?_
  exact ⟨rfl, hB.out⟩
def bytesM (k : Mk) : List UInt8 := if rightB k = true then numI k.now ++ numI (if k.beg = true then 1 else 0) ++ intI k.score ++ numI k.time ++ textL k.id else []
theorem right_bounds {k : Mk} (h : rightB k = true) : 0 ≤ k.now ∧ k.now ≤ 1099511627776 ∧ -1125899906842624 ≤ k.score ∧ k.score ≤ 1125899906842624 ∧ 0 ≤ k.time ∧ k.time ≤ 1099511627776 ∧ k.id.length ≤ 32 := by
  unfold rightB at h
  rw [Bool.and_eq_true, decide_eq_true_eq] at h
  obtain ⟨⟨h1, h2⟩, h3⟩ := h
  split at h3
  · have := of_decide_eq_true h3
    obtain ⟨e1, e2, e3⟩ := this
    rw [e1, e2, e3]
    exact ⟨h1, h2, by omega, by omega, by omega, by omega, by simp⟩
  · have := of_decide_eq_true h3
    exact ⟨h1, h2, by omega, by omega, by omega, by omega, by omega⟩
set_option maxRecDepth 100000 in
set_option maxHeartbeats 4000000 in
theorem bytes_any (k : Mk) (w : World) : Calls Try.prog 9 #[.agg (cellsM k)] w (StrPost w (bytesM k)) := by
  have cr := fun W => right_any k W
  obtain ⟨R, hR⟩ : ∃ R, bytesM k = R := ⟨_, rfl⟩
  rw [hR]
  have hbox := Lib.hid (heap_alloc_new w (.cells (cellsM k) 23))
  have hB0 := Lib.hid ((Below.refl w.heap.size w).alloc (Nat.le_refl _) (.cells (cellsM k) 23))
  cases hr : rightB k with
  | false =>
    have HR : Hid (R = []) := by rw [Hid, ← hR]; unfold bytesM; rw [hr, if_neg (by simp)]
    rw [hr] at cr
    clear hR hr hbox
    obtain ⟨kn, ks, kt, ki, kb⟩ := k
    unfold cellsM at *
    simp only at *
    go_enter Try.func9, Try.ntmps9
    go_wp2_with fail
    refine (cr _).mono ?_
    rintro e w1 ⟨rfl, hb⟩
    have hBB := Lib.hid (hB0.out.trans (hb.mono hB0.out.size))
    clear hb
    go_wp2
    go_ret
    exact ⟨by rw [HR.out]; first | done | rfl, hBB.out⟩
  | true =>
    obtain ⟨g1, g2, g3, g4, g5, g6, g7⟩ := right_bounds hr
    have HR : Hid (R = numI k.now ++ numI (if k.beg = true then 1 else 0) ++ intI k.score ++ numI k.time ++ textL k.id) := by rw [Hid, ← hR]; unfold bytesM; rw [hr, if_pos rfl]
    rw [hr] at cr
    have c1 := fun W => num_any k.now W (by omega)
    have c2 := fun W => num_any 1 W (by omega)
    have c2' := fun W => num_any 0 W (by omega)
    have c3 := fun W => int_any k.score W (by omega) (by omega)
    have c4 := fun W => num_any k.time W (by omega)
    have c5 := fun W => text_any k.id W (by omega)
    have m1 := numI_length k.now
    have m2 := numI_length (if k.beg = true then 1 else 0)
    have m3 := intI_length k.score
    have m4 := numI_length k.time
    have m5 : (textL k.id).length ≤ 42 := by have := textL_length k.id; omega
    clear hR hr
    obtain ⟨kn, ks, kt, ki, kb⟩ := k
    unfold cellsM NumPost StrPost at *
    simp only at *
    clear g1 g2 g3 g4 g5 g6 g7
    go_enter Try.func9, Try.ntmps9
    go_wp2_with fail
    refine (cr _).mono ?_
    rintro e w1 ⟨rfl, hb⟩
    have hbx1 := keep_blkP hb hbox.out
    have F3 : Hid (∀ W, Below w1.heap.size w1 W → Below w.heap.size w W) := fun W h => (hB0.out.trans (hb.mono hB0.out.size)).trans (h.mono (by have := hb.size; have := hB0.out.size; omega))
    have F1 : Hid (∀ W, Below w1.heap.size w1 W → W.cell? ⟨w.heap.size, 0, none⟩ = some (.int .i64 kn) ∧ W.cell? ⟨w.heap.size, 1, none⟩ = some (.int .i64 ks) ∧ W.cell? ⟨w.heap.size, 2, none⟩ = some (.int .i64 kt) ∧ W.cell? ⟨w.heap.size, 3, none⟩ = some (.string (bs ki)) ∧ W.cell? ⟨w.heap.size, 4, none⟩ = some (.bool kb)) := fun W h => fiveM (k := ⟨kn, ks, kt, ki, kb⟩) (keep_blkP h hbx1)
    have F2 : Hid (∀ W W', Below w1.heap.size w1 W → Below W.heap.size W W' → Below w1.heap.size w1 W') := fun W W' h h' => h.trans (h'.mono h.size)
    have K0 := Lib.hid (Below.refl w1.heap.size w1)
    clear hb hbx1 hbox hB0 cr
    obtain ⟨p0, p1, p2, p3, p4⟩ := F1.out _ K0.out
    cases kb with
    | true =>
      have hif : (if true = true then (1 : Int) else 0) = 1 := by rfl
      rw [hif] at m2
      have HR2 : Hid (R = numI kn ++ numI 1 ++ intI ks ++ numI kt ++ textL ki) := HR.out
      clear hif HR
      generalize numI kn = ta at *
      generalize numI 1 = tb at *
      generalize intI ks = tc at *
      generalize numI kt = td at *
      generalize textL ki = te at *
      have l1 : (ta ++ tb).length ≤ 20 := by simp; omega
      have l2 : (ta ++ tb ++ tc).length ≤ 30 := by simp; omega
      have l3 : (ta ++ tb ++ tc ++ td).length ≤ 40 := by simp; omega
      have q1 := bs_append ta tb
      have q2 := bs_append (ta ++ tb) tc
      have q3 := bs_append (ta ++ tb ++ tc) td
      have q4 := bs_append (ta ++ tb ++ tc ++ td) te
      generalize hx1 : ta ++ tb = x1 at *
      clear hx1
      generalize hx2 : x1 ++ tc = x2 at *
      clear hx2
      generalize hx3 : x2 ++ td = x3 at *
      clear hx3
      generalize hx4 : x3 ++ te = x4 at *
      clear hx4
      have z1 := bs_size x1
      have z2 := bs_size x2
      have z3 := bs_size x3
      have y1 := bs_size ta
      have y2 := bs_size tb
      have y3 := bs_size tc
      have y4 := bs_size td
      have y5 := bs_size te
      have n1 : ¬ (9223372036854775807 < ta.length + tb.length) := by omega
      have n2 : ¬ (9223372036854775807 < x1.length + tc.length) := by omega
      have n3 : ¬ (9223372036854775807 < x2.length + td.length) := by omega
      have n4 : ¬ (9223372036854775807 < x3.length + te.length) := by omega
      go_wp2
      clear p0 p1 p2 p3 p4
      go_region_held3 (fun W => Below w1.heap.size w1 W ∧ (W.cell? ⟨w.heap.size, 0, none⟩ = some (.int .i64 kn) ∧ W.cell? ⟨w.heap.size, 1, none⟩ = some (.int .i64 ks) ∧ W.cell? ⟨w.heap.size, 2, none⟩ = some (.int .i64 kt) ∧ W.cell? ⟨w.heap.size, 3, none⟩ = some (.string (bs ki)) ∧ W.cell? ⟨w.heap.size, 4, none⟩ = some (.bool true))) (first | exact ⟨K0.out, F1.out _ K0.out⟩ | exact ⟨K0.out.drew, F1.out _ K0.out.drew⟩ | go_keep | exact ⟨F2.out _ _ (by first | assumption | (apply And.left; assumption)) hbx, F1.out _ (F2.out _ _ (by first | assumption | (apply And.left; assumption)) hbx)⟩) (first
        | (go_at_call 24; (with_reducible refine Calls.mono (c1 _) ?_); rintro e w' ⟨rfl, hbx⟩)
        | (go_at_call 24; (with_reducible refine Calls.mono (c2 _) ?_); rintro e w' ⟨rfl, hbx⟩)
        | (go_at_call 24; (with_reducible refine Calls.mono (c4 _) ?_); rintro e w' ⟨rfl, hbx⟩)
        | (go_at_call 25; (with_reducible refine Calls.mono (c3 _) ?_); rintro e w' ⟨rfl, hbx⟩)
        | (go_at_call 26; (with_reducible refine Calls.mono (c5 _) ?_); rintro e w' ⟨rfl, hbx⟩))
      all_goals
        go_wp2
        go_ret
        exact ⟨by rw [HR2.out]; first | done | rfl, F3.out _ (by first | assumption | (apply And.left; assumption) | exact F2.out _ _ (by first | assumption | (apply And.left; assumption)) hbx)⟩
    | false =>
      have hif : (if false = true then (1 : Int) else 0) = 0 := by rfl
      rw [hif] at m2
      have HR2 : Hid (R = numI kn ++ numI 0 ++ intI ks ++ numI kt ++ textL ki) := HR.out
      clear hif HR
      generalize numI kn = ta at *
      generalize numI 0 = tb at *
      generalize intI ks = tc at *
      generalize numI kt = td at *
      generalize textL ki = te at *
      have l1 : (ta ++ tb).length ≤ 20 := by simp; omega
      have l2 : (ta ++ tb ++ tc).length ≤ 30 := by simp; omega
      have l3 : (ta ++ tb ++ tc ++ td).length ≤ 40 := by simp; omega
      have q1 := bs_append ta tb
      have q2 := bs_append (ta ++ tb) tc
      have q3 := bs_append (ta ++ tb ++ tc) td
      have q4 := bs_append (ta ++ tb ++ tc ++ td) te
      generalize hx1 : ta ++ tb = x1 at *
      clear hx1
      generalize hx2 : x1 ++ tc = x2 at *
      clear hx2
      generalize hx3 : x2 ++ td = x3 at *
      clear hx3
      generalize hx4 : x3 ++ te = x4 at *
      clear hx4
      have z1 := bs_size x1
      have z2 := bs_size x2
      have z3 := bs_size x3
      have y1 := bs_size ta
      have y2 := bs_size tb
      have y3 := bs_size tc
      have y4 := bs_size td
      have y5 := bs_size te
      have n1 : ¬ (9223372036854775807 < ta.length + tb.length) := by omega
      have n2 : ¬ (9223372036854775807 < x1.length + tc.length) := by omega
      have n3 : ¬ (9223372036854775807 < x2.length + td.length) := by omega
      have n4 : ¬ (9223372036854775807 < x3.length + te.length) := by omega
      go_wp2
      clear p0 p1 p2 p3 p4
      go_region_held3 (fun W => Below w1.heap.size w1 W ∧ (W.cell? ⟨w.heap.size, 0, none⟩ = some (.int .i64 kn) ∧ W.cell? ⟨w.heap.size, 1, none⟩ = some (.int .i64 ks) ∧ W.cell? ⟨w.heap.size, 2, none⟩ = some (.int .i64 kt) ∧ W.cell? ⟨w.heap.size, 3, none⟩ = some (.string (bs ki)) ∧ W.cell? ⟨w.heap.size, 4, none⟩ = some (.bool false))) (first | exact ⟨K0.out, F1.out _ K0.out⟩ | exact ⟨K0.out.drew, F1.out _ K0.out.drew⟩ | go_keep | exact ⟨F2.out _ _ (by first | assumption | (apply And.left; assumption)) hbx, F1.out _ (F2.out _ _ (by first | assumption | (apply And.left; assumption)) hbx)⟩) (first
        | (go_at_call 24; (with_reducible refine Calls.mono (c1 _) ?_); rintro e w' ⟨rfl, hbx⟩)
        | (go_at_call 24; (with_reducible refine Calls.mono (c2' _) ?_); rintro e w' ⟨rfl, hbx⟩)
        | (go_at_call 24; (with_reducible refine Calls.mono (c4 _) ?_); rintro e w' ⟨rfl, hbx⟩)
        | (go_at_call 25; (with_reducible refine Calls.mono (c3 _) ?_); rintro e w' ⟨rfl, hbx⟩)
        | (go_at_call 26; (with_reducible refine Calls.mono (c5 _) ?_); rintro e w' ⟨rfl, hbx⟩))
      all_goals
        go_wp2
        go_ret
        exact ⟨by rw [HR2.out]; first | done | rfl, F3.out _ (by first | assumption | (apply And.left; assumption) | exact F2.out _ _ (by first | assumption | (apply And.left; assumption)) hbx)⟩
def readM (s : List UInt8) : Option Mk :=
  let q1 := (Rd.mk s false).num
  let q2 := q1.2.num
  let q3 := q2.2.int
  let q4 := q3.2.num
  let q5 := q4.2.text
  let mk : Mk := ⟨q1.1, q3.1, q4.1, q5.1, q2.1 == 1⟩
  if q5.2.done = true ∧ q2.1 ≤ 1 ∧ rightB mk = true ∧ bytesM mk = s then some mk else none
end Go.Proofs.Ytemdecaiadkchaa
