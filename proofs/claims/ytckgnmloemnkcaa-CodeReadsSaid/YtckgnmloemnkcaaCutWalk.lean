/- CodeCut, walked: it answers true. -/
import Derived.Test.YtckgnmloemnkcaaPure2
namespace Go.Proofs.Ytckgnmloemnkcaa
open Go.ChangeShapes Go.WideShapes Go.ChangeAt Go.RowKit Go.Lib
set_option linter.unusedVariables false

theorem validB_true {v : V} (h : v.validB = true) : v.valid := by unfold V.validB at h; simpa using h
/-- the value lies at block g -/
def ValAt (w : World) (g : Nat) (v : V) (q : VP) : Prop := w.heap[g]? = some (.cells #[.int .i64 v.k, .int .i64 v.n, .string (bs v.s), .slice q.A v.l.length q.C, .slice q.B v.m.length q.D] 45 (0, 0))
theorem ValAt.f0 {w : World} {g : Nat} {v : V} {q : VP} (h : ValAt w g v q) : w.cell? ⟨g, 0, none⟩ = some (.int .i64 v.k) := cell_row h 0
theorem ValAt.f1 {w : World} {g : Nat} {v : V} {q : VP} (h : ValAt w g v q) : w.cell? ⟨g, 1, none⟩ = some (.int .i64 v.n) := cell_row h 1
theorem ValAt.f2 {w : World} {g : Nat} {v : V} {q : VP} (h : ValAt w g v q) : w.cell? ⟨g, 2, none⟩ = some (.string (bs v.s)) := cell_row h 2
theorem ValAt.f3 {w : World} {g : Nat} {v : V} {q : VP} (h : ValAt w g v q) : w.cell? ⟨g, 3, none⟩ = some (.slice q.A v.l.length q.C) := cell_row h 3
theorem ValAt.f4 {w : World} {g : Nat} {v : V} {q : VP} (h : ValAt w g v q) : w.cell? ⟨g, 4, none⟩ = some (.slice q.B v.m.length q.D) := cell_row h 4
theorem ValAt.below {w w' : World} {g : Nat} {v : V} {q : VP} (h : ValAt w g v q) (hb : Below w.heap.size w w') : ValAt w' g v q := (hb.block g (lt_of_heap h)).trans h
theorem ValAt.new (w : World) (v : V) (q : VP) : ValAt (w.alloc (.cells #[.int .i64 v.k, .int .i64 v.n, .string (bs v.s), .slice q.A v.l.length q.C, .slice q.B v.m.length q.D] 45)) w.heap.size v q := heap_alloc_new w _
set_option maxRecDepth 100000 in
set_option maxHeartbeats 800000 in
theorem cut_any (v : V) (q : VP) (n : Int) (w : World) (hv : VAt w v q) (hw : v.wf) (n0 : -9223372036854775808 ≤ n) (n1 : n ≤ 9223372036854775807) :
    Calls Try.prog 7 #[.agg #[.int .i64 v.k, .int .i64 v.n, .string (bs v.s), .slice q.A v.l.length q.C, .slice q.B v.m.length q.D], .int .i64 n] w (BoolPost w true) := by
  have HV := Lib.hid hv
  have HW := Lib.hid hw
  clear hv hw
  obtain ⟨W, hW⟩ : ∃ W, W = w.alloc (.cells #[.int .i64 v.k, .int .i64 v.n, .string (bs v.s), .slice q.A v.l.length q.C, .slice q.B v.m.length q.D] 45) := ⟨_, rfl⟩
  have hbW : Below w.heap.size w W := by rw [hW]; exact (Below.refl _ _).alloc (Nat.le_refl _) _
  have hvW : ValAt W w.heap.size v q := by rw [hW]; exact ValAt.new w v q
  have ck := kind_any v.k (.int .i64 v.n) (.string (bs v.s)) (.slice q.A v.l.length q.C) (.slice q.B v.m.length q.D)
  go_enter Try.func7, Try.ntmps7
  go_wp2_with fail
  rw [← hW]
  clear hW
  refine (small_any W).mono ?_
  rintro e w1 ⟨rfl, hb1⟩
  have hv1 := hvW.below hb1
  have hw1 := hbW.trans (hb1.mono hbW.size)
  have f0 := hv1.f0
  have f1 := hv1.f1
  have f2 := hv1.f2
  have f3 := hv1.f3
  have f4 := hv1.f4
  go_wp2_with fail
  refine (valid_any v q w1 (HV.out.below hw1) HW.out).mono ?_
  rintro e w2 ⟨rfl, hb2⟩
  have hv2 := hv1.below hb2
  have hw2 := hw1.trans (hb2.mono hw1.size)
  clear f0 f1 f2 f3 f4 hb1 hv1 hb2 hw1 hvW hbW
  have f0 := hv2.f0
  have f1 := hv2.f1
  have f2 := hv2.f2
  have f3 := hv2.f3
  have f4 := hv2.f4
  cases hval : v.validB
  · clear hval
    go_wp2
    go_ret
    exact ⟨rfl, hw2⟩
  · have HVAL := Lib.hid (validB_true hval)
    clear hval
    go_wp2_with fail
    refine (write_any v q w2 (HV.out.below hw2) HW.out HVAL.out.1.mid).mono ?_
    rintro e w3 ⟨rfl, hb3⟩
    have hv3 := hv2.below hb3
    have hw3 := hw2.trans (hb3.mono hw2.size)
    clear f0 f1 f2 f3 f4 hb3 hv2 hw2
    have f0 := hv3.f0
    have f1 := hv3.f1
    have f2 := hv3.f2
    have f3 := hv3.f3
    have f4 := hv3.f4
    have hss := bs_size v.write
    by_cases hn : n < 0
    · go_wp2
      go_ret
      exact ⟨rfl, hw3⟩
    · have hn' : decide (n < 0) = false := by simpa using hn
      obtain ⟨i, rfl⟩ : ∃ i : Nat, n = i := ⟨n.toNat, by omega⟩
      by_cases hge : v.write.length ≤ i
      · have hge' : decide ((v.write.length : Int) ≤ (i : Int)) = true := decide_eq_true (by omega)
        go_wp2
        go_ret
        exact ⟨rfl, hw3⟩
      · have hge' : decide ((v.write.length : Int) ≤ (i : Int)) = false := decide_eq_false (by omega)
        have hex : (bs v.write).extract 0 i = bs (v.write.take i) := by rw [bs_extract]; simp
        have HC := Lib.hid (read_cut (HVAL.out.codec HW.out) (n := i) (by omega))
        have hil : i < v.write.length := by omega
        go_wp2_with fail
        refine (open_rd _ _).mono ?_
        rintro e w4 ⟨rfl, hr4, hb4⟩
        have hv4 := hv3.below hb4
        have hw4 := hw3.trans (hb4.mono hw3.size)
        have hp3 : w.heap.size ≤ w3.heap.size := hw3.size
        obtain ⟨p, hp⟩ : ∃ p, p = w3.heap.size := ⟨_, rfl⟩
        rw [← hp] at hr4 hp3 ⊢
        clear f0 f1 f2 f3 f4 hb4 hv3 hw3 hp
        have f0 := hv4.f0
        have f1 := hv4.f1
        have f2 := hv4.f2
        have f3 := hv4.f3
        have f4 := hv4.f4
        go_wp2_with fail
        refine (ck _).mono ?_
        rintro e w5 ⟨rfl, hb5⟩
        have hr5 := hr4.below hb5
        have hw5 := hw4.trans (hb5.mono hw4.size)
        clear hb5 hr4 hw4 hv4 f0 f1 f2 f3 f4
        go_wp2_with fail
        have c := read_any p _ (v.k % 5) w5 hr5 (by
          have := HVAL.out.1.mid.len
          simp; omega) (by omega)
        have hfail : ((Rd.mk (v.write.take i) false).read (v.k % 5)).2 = Rd.fail := HC.out
        rw [hfail] at c
        refine (Calls.mono c ?_)
        rintro e w6 ⟨⟨q', rfl, _⟩, hr6, hch6⟩
        have hw6 : Below w.heap.size w w6 := ((Chg.of_below hw5 []).step hch6 (by intro b hb; simp at hb; omega)).below
        have d3 : Rd.fail.done = false := rfl
        have d4 : Rd.fail.rest = [] := rfl
        go_wp2_with fail
        refine (done_rd p _ w6 hr6).mono ?_
        rintro e w7 ⟨rfl, rfl⟩
        go_wp2_with fail
        refine (left_any p _ w7 hr6).mono ?_
        rintro e w8 ⟨rfl, rfl⟩
        go_wp2
        go_ret
        exact ⟨rfl, hw6⟩
end Go.Proofs.Ytckgnmloemnkcaa
