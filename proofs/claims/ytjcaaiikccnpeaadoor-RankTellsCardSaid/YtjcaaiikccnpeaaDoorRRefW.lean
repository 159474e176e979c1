/- The reference's Write of weights, walked. -/
import Derived.Test.YtjcaaiikccnpeaaDoorRRefA
namespace Go.Proofs.YtjcaaiikccnpeaaDoor
open Go.ChangeShapes Go.WideShapes Go.ChangeAt Go.RowKit Go.Lib
set_option linter.unusedVariables false
set_option linter.unusedSimpArgs false

set_option maxRecDepth 100000 in
set_option maxHeartbeats 4000000 in
theorem rwrite_any (v : Wts) (w : World) (hv : v.Wf) : Calls Tryd.prog 18 #[.agg (cellsW v)] w (StrPost w (writeB v)) := by
  obtain ⟨a, b, c, d⟩ := v
  obtain ⟨va, vb, vc, vd⟩ := hv
  have c1 := fun (W : World) => rtext_any a W va
  have k1 := fun (W : World) => rvalid_any a W
  have c2 := fun (W : World) => rtext_any b W vb
  have k2 := fun (W : World) => rvalid_any b W
  have c3 := fun (W : World) => rtext_any c W vc
  have k3 := fun (W : World) => rvalid_any c W
  have c4 := fun (W : World) => rtext_any d W vd
  have k4 := fun (W : World) => rvalid_any d W
  have l1 := itoa_length va.1 va.2
  have l2 := itoa_length vb.1 vb.2
  have l3 := itoa_length vc.1 vc.2
  have l4 := itoa_length vd.1 vd.2
  have hY : Hid (okN a → okN b → okN c → okN d → writeB ⟨a, b, c, d⟩ = likeB ++ itoa a ++ boostB ++ itoa b ++ replyB ++ itoa c ++ ageB ++ itoa d) := fun h1 h2 h3 h4 => if_pos ⟨h1, h2, h3, h4⟩
  have hN : Hid (¬ (okN a ∧ okN b ∧ okN c ∧ okN d) → writeB ⟨a, b, c, d⟩ = []) := fun h => if_neg h
  clear va vb vc vd
  generalize writeB ⟨a, b, c, d⟩ = R at *
  generalize itoa a = ta at *
  generalize itoa b = tb at *
  generalize itoa c = tc at *
  generalize itoa d = td at *
  have q1 : (⟨#[108, 105, 107, 101, 32]⟩ : ByteArray) ++ bs ta = bs (likeB ++ ta) := bs_append likeB ta
  have q2 : bs (likeB ++ ta) ++ (⟨#[32, 98, 111, 111, 115, 116, 32]⟩ : ByteArray) = bs (likeB ++ ta ++ boostB) := bs_append _ boostB
  have q3 : bs (likeB ++ ta ++ boostB) ++ bs tb = bs (likeB ++ ta ++ boostB ++ tb) := bs_append _ _
  have q4 : bs (likeB ++ ta ++ boostB ++ tb) ++ (⟨#[32, 114, 101, 112, 108, 121, 32]⟩ : ByteArray) = bs (likeB ++ ta ++ boostB ++ tb ++ replyB) := bs_append _ replyB
  have q5 : bs (likeB ++ ta ++ boostB ++ tb ++ replyB) ++ bs tc = bs (likeB ++ ta ++ boostB ++ tb ++ replyB ++ tc) := bs_append _ _
  have q6 : bs (likeB ++ ta ++ boostB ++ tb ++ replyB ++ tc) ++ (⟨#[32, 97, 103, 101, 32]⟩ : ByteArray) = bs (likeB ++ ta ++ boostB ++ tb ++ replyB ++ tc ++ ageB) := bs_append _ ageB
  have q7 : bs (likeB ++ ta ++ boostB ++ tb ++ replyB ++ tc ++ ageB) ++ bs td = bs (likeB ++ ta ++ boostB ++ tb ++ replyB ++ tc ++ ageB ++ td) := bs_append _ _
  have m1 : (likeB ++ ta).length ≤ 80 := by simp only [List.length_append, likeB, boostB, replyB, ageB, List.length_cons, List.length_nil]; omega
  have m2 : (likeB ++ ta ++ boostB).length ≤ 120 := by simp only [List.length_append, likeB, boostB, replyB, ageB, List.length_cons, List.length_nil]; omega
  have m3 : (likeB ++ ta ++ boostB ++ tb).length ≤ 160 := by simp only [List.length_append, likeB, boostB, replyB, ageB, List.length_cons, List.length_nil]; omega
  have m4 : (likeB ++ ta ++ boostB ++ tb ++ replyB).length ≤ 200 := by simp only [List.length_append, likeB, boostB, replyB, ageB, List.length_cons, List.length_nil]; omega
  have m5 : (likeB ++ ta ++ boostB ++ tb ++ replyB ++ tc).length ≤ 240 := by simp only [List.length_append, likeB, boostB, replyB, ageB, List.length_cons, List.length_nil]; omega
  have m6 : (likeB ++ ta ++ boostB ++ tb ++ replyB ++ tc ++ ageB).length ≤ 280 := by simp only [List.length_append, likeB, boostB, replyB, ageB, List.length_cons, List.length_nil]; omega
  have m7 : (likeB ++ ta ++ boostB ++ tb ++ replyB ++ tc ++ ageB ++ td).length ≤ 320 := by simp only [List.length_append, likeB, boostB, replyB, ageB, List.length_cons, List.length_nil]; omega
  generalize hx1 : likeB ++ ta = x1 at *
  clear hx1
  generalize hx2 : x1 ++ boostB = x2 at *
  clear hx2
  generalize hx3 : x2 ++ tb = x3 at *
  clear hx3
  generalize hx4 : x3 ++ replyB = x4 at *
  clear hx4
  generalize hx5 : x4 ++ tc = x5 at *
  clear hx5
  generalize hx6 : x5 ++ ageB = x6 at *
  clear hx6
  generalize hx7 : x6 ++ td = x7 at *
  clear hx7
  have z1 := bs_size x1
  have z2 := bs_size x2
  have z3 := bs_size x3
  have z4 := bs_size x4
  have z5 := bs_size x5
  have z6 := bs_size x6
  have z7 := bs_size x7
  have y1 := bs_size ta
  have y2 := bs_size tb
  have y3 := bs_size tc
  have y4 := bs_size td
  have n1 : ¬ (9223372036854775807 < 5 + ta.length) := by omega
  have n2 : ¬ (9223372036854775807 < x1.length + 7) := by omega
  have n3 : ¬ (9223372036854775807 < x2.length + tb.length) := by omega
  have n4 : ¬ (9223372036854775807 < x3.length + 7) := by omega
  have n5 : ¬ (9223372036854775807 < x4.length + tc.length) := by omega
  have n6 : ¬ (9223372036854775807 < x5.length + 5) := by omega
  have n7 : ¬ (9223372036854775807 < x6.length + td.length) := by omega
  clear l1 l2 l3 l4 m1 m2 m3 m4 m5 m6 m7
  have hb0 : Below w.heap.size w (w.alloc (.cells #[.int .i64 a, .int .i64 b, .int .i64 c, .int .i64 d] 23)) := (Below.refl _ _).alloc (Nat.le_refl _) _
  have f1 : ∀ W, Below (w.heap.size + 1) (w.alloc (.cells #[.int .i64 a, .int .i64 b, .int .i64 c, .int .i64 d] 23)) W →
      W.cell? ⟨w.heap.size, 0, none⟩ = some (.int .i64 a) ∧ W.cell? ⟨w.heap.size, 1, none⟩ = some (.int .i64 b) ∧ W.cell? ⟨w.heap.size, 2, none⟩ = some (.int .i64 c) ∧ W.cell? ⟨w.heap.size, 3, none⟩ = some (.int .i64 d) := by
    intro W hW
    have hA : W.heap[w.heap.size]? = some (.cells #[.int .i64 a, .int .i64 b, .int .i64 c, .int .i64 d] 23 (0, 0)) := by
      rw [hW.block _ (by omega), heap_alloc_new]
    refine ⟨?_, ?_, ?_, ?_⟩
    · rw [cell_of_row W _ 0 _ _ _ hA]; rfl
    · rw [cell_of_row W _ 1 _ _ _ hA]; rfl
    · rw [cell_of_row W _ 2 _ _ _ hA]; rfl
    · rw [cell_of_row W _ 3 _ _ _ hA]; rfl
  have f2 : ∀ W W', Below (w.heap.size + 1) (w.alloc (.cells #[.int .i64 a, .int .i64 b, .int .i64 c, .int .i64 d] 23)) W → Below W.heap.size W W' → Below (w.heap.size + 1) (w.alloc (.cells #[.int .i64 a, .int .i64 b, .int .i64 c, .int .i64 d] 23)) W' := fun W W' h h' => h.trans (h'.mono (by have := h.size; simpa using this))
  have f3 : ∀ W, Below (w.heap.size + 1) (w.alloc (.cells #[.int .i64 a, .int .i64 b, .int .i64 c, .int .i64 d] 23)) W → Below w.heap.size w W := fun W h => hb0.trans (h.mono (by omega))
  have hk0 := Below.refl (w.heap.size + 1) (w.alloc (.cells #[.int .i64 a, .int .i64 b, .int .i64 c, .int .i64 d] 23))
  have F1 := Lib.hid f1
  have F2 := Lib.hid f2
  have F3 := Lib.hid f3
  have K0 := Lib.hid hk0
  clear f1 f2 f3 hk0 hb0
  unfold cellsW
  simp only
  obtain ⟨p0, p1, p2, p3⟩ := F1.out _ K0.out
  go_enter Tryd.func18, Tryd.ntmps18
  by_cases h1 : okN a
  · by_cases h2 : okN b
    · by_cases h3 : okN c
      · by_cases h4 : okN d
        · have hRy := Lib.hid (hY.out h1 h2 h3 h4)
          clear hN hY
          rw [decide_eq_true h1] at k1
          rw [decide_eq_true h2] at k2
          rw [decide_eq_true h3] at k3
          rw [decide_eq_true h4] at k4
          clear h1 h2 h3 h4
          go_wp2_with fail
          refine (k1 _).mono ?_
          rintro e w1 ⟨rfl, rfl⟩
          go_wp2_with fail
          refine (k2 _).mono ?_
          rintro e w1 ⟨rfl, rfl⟩
          go_wp2_with fail
          refine (k3 _).mono ?_
          rintro e w1 ⟨rfl, rfl⟩
          go_wp2_with fail
          refine (k4 _).mono ?_
          rintro e w1 ⟨rfl, rfl⟩
          go_wp2_with fail
          go_quiet (first | (go_at_call 39; with_reducible exact q_same0 (c1 _)) | (go_at_call 39; with_reducible exact q_same0 (c2 _)) | (go_at_call 39; with_reducible exact q_same0 (c3 _)) | (go_at_call 39; with_reducible exact q_same0 (c4 _)))
          go_wp2
          go_ret
          exact ⟨by rw [hRy.out]; first | done | rfl, below_drewN (F3.out _ K0.out) _⟩
        · have hRn : Hid (R = []) := hN.out (fun h => h4 h.2.2.2)
          rw [decide_eq_true h1] at k1
          rw [decide_eq_true h2] at k2
          rw [decide_eq_true h3] at k3
          rw [decide_eq_false h4] at k4
          clear hN hY h1 h2 h3 h4
          go_wp2_with fail
          refine (k1 _).mono ?_
          rintro e w1 ⟨rfl, rfl⟩
          go_wp2_with fail
          refine (k2 _).mono ?_
          rintro e w1 ⟨rfl, rfl⟩
          go_wp2_with fail
          refine (k3 _).mono ?_
          rintro e w1 ⟨rfl, rfl⟩
          go_wp2_with fail
          refine (k4 _).mono ?_
          rintro e w1 ⟨rfl, rfl⟩
          go_wp2
          go_ret
          exact ⟨by rw [hRn.out]; first | done | rfl, F3.out _ K0.out⟩
      · have hRn : Hid (R = []) := hN.out (fun h => h3 h.2.2.1)
        rw [decide_eq_true h1] at k1
        rw [decide_eq_true h2] at k2
        rw [decide_eq_false h3] at k3
        clear hN hY h1 h2 h3
        go_wp2_with fail
        refine (k1 _).mono ?_
        rintro e w1 ⟨rfl, rfl⟩
        go_wp2_with fail
        refine (k2 _).mono ?_
        rintro e w1 ⟨rfl, rfl⟩
        go_wp2_with fail
        refine (k3 _).mono ?_
        rintro e w1 ⟨rfl, rfl⟩
        go_wp2
        go_ret
        exact ⟨by rw [hRn.out]; first | done | rfl, F3.out _ K0.out⟩
    · have hRn : Hid (R = []) := hN.out (fun h => h2 h.2.1)
      rw [decide_eq_true h1] at k1
      rw [decide_eq_false h2] at k2
      clear hN hY h1 h2
      go_wp2_with fail
      refine (k1 _).mono ?_
      rintro e w1 ⟨rfl, rfl⟩
      go_wp2_with fail
      refine (k2 _).mono ?_
      rintro e w1 ⟨rfl, rfl⟩
      go_wp2
      go_ret
      exact ⟨by rw [hRn.out]; first | done | rfl, F3.out _ K0.out⟩
  · have hRn : Hid (R = []) := hN.out (fun h => h1 h.1)
    rw [decide_eq_false h1] at k1
    clear hN hY h1
    go_wp2_with fail
    refine (k1 _).mono ?_
    rintro e w1 ⟨rfl, rfl⟩
    go_wp2
    go_ret
    exact ⟨by rw [hRn.out]; first | done | rfl, F3.out _ K0.out⟩
end Go.Proofs.YtjcaaiikccnpeaaDoor
