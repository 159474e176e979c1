/- The weights' text, walked. -/
import Derived.Test.YtjcaaiikccnpeaaDoorScore
import Derived.Deep.RegionHeld3
namespace Go.Proofs.YtjcaaiikccnpeaaDoor
open Go.ChangeShapes Go.WideShapes Go.ChangeAt Go.RowKit Go.Lib
set_option linter.unusedVariables false
set_option linter.unusedSimpArgs false

def okN (n : Int) : Prop := 0 ≤ n ∧ n ≤ 1125899906842624
instance (n : Int) : Decidable (okN n) := by unfold okN; exact inferInstance
def Wts.Ok (v : Wts) : Prop := okN v.li ∧ okN v.bo ∧ okN v.re ∧ okN v.ag
instance (v : Wts) : Decidable v.Ok := by unfold Wts.Ok; exact inferInstance
def likeB : List UInt8 := [108, 105, 107, 101, 32]
def boostB : List UInt8 := [32, 98, 111, 111, 115, 116, 32]
def replyB : List UInt8 := [32, 114, 101, 112, 108, 121, 32]
def ageB : List UInt8 := [32, 97, 103, 101, 32]
def writeB (v : Wts) : List UInt8 :=
  if v.Ok then likeB ++ itoa v.li ++ boostB ++ itoa v.bo ++ replyB ++ itoa v.re ++ ageB ++ itoa v.ag else []
theorem Wts.Ok.wf {v : Wts} (h : v.Ok) : v.Wf := by
  obtain ⟨⟨_, _⟩, ⟨_, _⟩, ⟨_, _⟩, ⟨_, _⟩⟩ := h
  unfold Wts.Wf wf64
  omega
set_option maxRecDepth 100000 in
set_option maxHeartbeats 1000000 in
theorem write_any (v : Wts) (w : World) (hv : v.Wf) (hL : Laid w) : Calls Tryd.prog 10 #[.agg (cellsW v)] w (StrPost w (writeB v)) := by
  obtain ⟨a, b, c, d⟩ := v
  obtain ⟨va, vb, vc, vd⟩ := hv
  have c1 := fun (W : World) (h : Laid W) => text_any a W va h
  have c2 := fun (W : World) (h : Laid W) => text_any b W vb h
  have c3 := fun (W : World) (h : Laid W) => text_any c W vc h
  have c4 := fun (W : World) (h : Laid W) => text_any d W vd h
  have l1 := itoa_length va.1 va.2
  have l2 := itoa_length vb.1 vb.2
  have l3 := itoa_length vc.1 vc.2
  have l4 := itoa_length vd.1 vd.2
  have hY : Hid (okN a → okN b → okN c → okN d → writeB ⟨a, b, c, d⟩ = likeB ++ itoa a ++ boostB ++ itoa b ++ replyB ++ itoa c ++ ageB ++ itoa d) := fun h1 h2 h3 h4 => if_pos ⟨h1, h2, h3, h4⟩
  have hN : Hid (¬ (okN a ∧ okN b ∧ okN c ∧ okN d) → writeB ⟨a, b, c, d⟩ = []) := fun h => if_neg h
  clear va vb vc vd
  generalize writeB ⟨a, b, c, d⟩ = R at *
  generalize itoa a = ta at *
  generalize itoa b = tb at *
  generalize itoa c = tc at *
  generalize itoa d = td at *
  have q1 : (⟨#[108, 105, 107, 101, 32]⟩ : ByteArray) ++ bs ta = bs (likeB ++ ta) := bs_append likeB ta
  have q2 : bs (likeB ++ ta) ++ (⟨#[32, 98, 111, 111, 115, 116, 32]⟩ : ByteArray) = bs (likeB ++ ta ++ boostB) := bs_append _ boostB
  have q3 : bs (likeB ++ ta ++ boostB) ++ bs tb = bs (likeB ++ ta ++ boostB ++ tb) := bs_append _ _
  have q4 : bs (likeB ++ ta ++ boostB ++ tb) ++ (⟨#[32, 114, 101, 112, 108, 121, 32]⟩ : ByteArray) = bs (likeB ++ ta ++ boostB ++ tb ++ replyB) := bs_append _ replyB
  have q5 : bs (likeB ++ ta ++ boostB ++ tb ++ replyB) ++ bs tc = bs (likeB ++ ta ++ boostB ++ tb ++ replyB ++ tc) := bs_append _ _
  have q6 : bs (likeB ++ ta ++ boostB ++ tb ++ replyB ++ tc) ++ (⟨#[32, 97, 103, 101, 32]⟩ : ByteArray) = bs (likeB ++ ta ++ boostB ++ tb ++ replyB ++ tc ++ ageB) := bs_append _ ageB
  have q7 : bs (likeB ++ ta ++ boostB ++ tb ++ replyB ++ tc ++ ageB) ++ bs td = bs (likeB ++ ta ++ boostB ++ tb ++ replyB ++ tc ++ ageB ++ td) := bs_append _ _
  have m1 : (likeB ++ ta).length ≤ 80 := by simp only [List.length_append, likeB, boostB, replyB, ageB, List.length_cons, List.length_nil]; omega
  have m2 : (likeB ++ ta ++ boostB).length ≤ 120 := by simp only [List.length_append, likeB, boostB, replyB, ageB, List.length_cons, List.length_nil]; omega
  have m3 : (likeB ++ ta ++ boostB ++ tb).length ≤ 160 := by simp only [List.length_append, likeB, boostB, replyB, ageB, List.length_cons, List.length_nil]; omega
  have m4 : (likeB ++ ta ++ boostB ++ tb ++ replyB).length ≤ 200 := by simp only [List.length_append, likeB, boostB, replyB, ageB, List.length_cons, List.length_nil]; omega
  have m5 : (likeB ++ ta ++ boostB ++ tb ++ replyB ++ tc).length ≤ 240 := by simp only [List.length_append, likeB, boostB, replyB, ageB, List.length_cons, List.length_nil]; omega
  have m6 : (likeB ++ ta ++ boostB ++ tb ++ replyB ++ tc ++ ageB).length ≤ 280 := by simp only [List.length_append, likeB, boostB, replyB, ageB, List.length_cons, List.length_nil]; omega
  have m7 : (likeB ++ ta ++ boostB ++ tb ++ replyB ++ tc ++ ageB ++ td).length ≤ 320 := by simp only [List.length_append, likeB, boostB, replyB, ageB, List.length_cons, List.length_nil]; omega
  generalize hx1 : likeB ++ ta = x1 at *
  clear hx1
  generalize hx2 : x1 ++ boostB = x2 at *
  clear hx2
  generalize hx3 : x2 ++ tb = x3 at *
  clear hx3
  generalize hx4 : x3 ++ replyB = x4 at *
  clear hx4
  generalize hx5 : x4 ++ tc = x5 at *
  clear hx5
  generalize hx6 : x5 ++ ageB = x6 at *
  clear hx6
  generalize hx7 : x6 ++ td = x7 at *
  clear hx7
  have z1 := bs_size x1
  have z2 := bs_size x2
  have z3 := bs_size x3
  have z4 := bs_size x4
  have z5 := bs_size x5
  have z6 := bs_size x6
  have z7 := bs_size x7
  have y1 := bs_size ta
  have y2 := bs_size tb
  have y3 := bs_size tc
  have y4 := bs_size td
  have n1 : ¬ (9223372036854775807 < 5 + ta.length) := by omega
  have n2 : ¬ (9223372036854775807 < x1.length + 7) := by omega
  have n3 : ¬ (9223372036854775807 < x2.length + tb.length) := by omega
  have n4 : ¬ (9223372036854775807 < x3.length + 7) := by omega
  have n5 : ¬ (9223372036854775807 < x4.length + tc.length) := by omega
  have n6 : ¬ (9223372036854775807 < x5.length + 5) := by omega
  have n7 : ¬ (9223372036854775807 < x6.length + td.length) := by omega
  clear l1 l2 l3 l4 m1 m2 m3 m4 m5 m6 m7
  have hb0 : Below w.heap.size w (w.alloc (.cells #[.int .i64 a, .int .i64 b, .int .i64 c, .int .i64 d] 23)) := (Below.refl _ _).alloc (Nat.le_refl _) _
  have f1 : ∀ W, Below (w.heap.size + 1) (w.alloc (.cells #[.int .i64 a, .int .i64 b, .int .i64 c, .int .i64 d] 23)) W →
      W.cell? ⟨w.heap.size, 0, none⟩ = some (.int .i64 a) ∧ W.cell? ⟨w.heap.size, 1, none⟩ = some (.int .i64 b) ∧ W.cell? ⟨w.heap.size, 2, none⟩ = some (.int .i64 c) ∧ W.cell? ⟨w.heap.size, 3, none⟩ = some (.int .i64 d) := by
    intro W hW
    have hA : W.heap[w.heap.size]? = some (.cells #[.int .i64 a, .int .i64 b, .int .i64 c, .int .i64 d] 23 (0, 0)) := by
      rw [hW.block _ (by omega), heap_alloc_new]
    refine ⟨?_, ?_, ?_, ?_⟩
    · rw [cell_of_row W _ 0 _ _ _ hA]; rfl
    · rw [cell_of_row W _ 1 _ _ _ hA]; rfl
    · rw [cell_of_row W _ 2 _ _ _ hA]; rfl
    · rw [cell_of_row W _ 3 _ _ _ hA]; rfl
  have f2 : ∀ W W', Below (w.heap.size + 1) (w.alloc (.cells #[.int .i64 a, .int .i64 b, .int .i64 c, .int .i64 d] 23)) W → Below W.heap.size W W' → Below (w.heap.size + 1) (w.alloc (.cells #[.int .i64 a, .int .i64 b, .int .i64 c, .int .i64 d] 23)) W' := fun W W' h h' => h.trans (h'.mono (by have := h.size; simpa using this))
  have f3 : ∀ W, Below (w.heap.size + 1) (w.alloc (.cells #[.int .i64 a, .int .i64 b, .int .i64 c, .int .i64 d] 23)) W → Below w.heap.size w W := fun W h => hb0.trans (h.mono (by omega))
  have hk0 := Below.refl (w.heap.size + 1) (w.alloc (.cells #[.int .i64 a, .int .i64 b, .int .i64 c, .int .i64 d] 23))
  have F1 := Lib.hid f1
  have F2 := Lib.hid f2
  have F3 := Lib.hid f3
  have K0 := Lib.hid hk0
  clear f1 f2 f3 hk0 hb0
  have ix0 : ∀ W : World, (Instr.index 47 (.agg #[.int .i64 a, .int .i64 b, .int .i64 c, .int .i64 d]) (.int .i64 0)).run Tryd.prog W = .ok (.int .i64 a) W := fun _ => by kernel_rfl
  have ix1 : ∀ W : World, (Instr.index 47 (.agg #[.int .i64 a, .int .i64 b, .int .i64 c, .int .i64 d]) (.int .i64 1)).run Tryd.prog W = .ok (.int .i64 b) W := fun _ => by kernel_rfl
  have ix2 : ∀ W : World, (Instr.index 47 (.agg #[.int .i64 a, .int .i64 b, .int .i64 c, .int .i64 d]) (.int .i64 2)).run Tryd.prog W = .ok (.int .i64 c) W := fun _ => by kernel_rfl
  have ix3 : ∀ W : World, (Instr.index 47 (.agg #[.int .i64 a, .int .i64 b, .int .i64 c, .int .i64 d]) (.int .i64 3)).run Tryd.prog W = .ok (.int .i64 d) W := fun _ => by kernel_rfl
  unfold cellsW
  simp only
  go_enter Tryd.func10, Tryd.ntmps10
  go_wp2
  generalize (w.alloc (.cells #[.int .i64 a, .int .i64 b, .int .i64 c, .int .i64 d] 23)) = Wb at *
  obtain ⟨p0, p1, p2, p3⟩ := F1.out _ K0.out
  go_wp2
  go_loop [14] (fun v => ∃ k : Nat, v = .int .i64 k ∧ k ≤ 4 ∧ Hid ((1 ≤ k → okN a) ∧ (2 ≤ k → okN b) ∧ (3 ≤ k → okN c) ∧ (4 ≤ k → okN d))) (fun v => 4 - (intOf v).toNat)
  case atStart => exact ⟨0, rfl, by omega, by omega, by omega, by omega, by omega⟩
  case round =>
    obtain ⟨k, rfl, hk, hz⟩ := hrel
    rcases (show k = 0 ∨ k = 1 ∨ k = 2 ∨ k = 3 ∨ k = 4 by omega) with rfl | rfl | rfl | rfl | rfl
    · by_cases h0 : a < 0
      · have hR : Hid (R = []) := hN.out (fun h => by have := h.1.1; omega)
        have d0 : decide (a < 0) = true := decide_eq_true h0
        clear h0 hz
        go_wp2
        go_ret
        exact ⟨by rw [hR.out]; first | done | rfl, F3.out _ K0.out⟩
      · by_cases h1 : 1125899906842624 < a
        · have hR : Hid (R = []) := hN.out (fun h => by have := h.1.2; omega)
          have d0 : decide (a < 0) = false := decide_eq_false h0
          have d1 : decide (1125899906842624 < a) = true := decide_eq_true h1
          clear h0 h1 hz
          go_wp2
          go_ret
          exact ⟨by rw [hR.out]; first | done | rfl, F3.out _ K0.out⟩
        · have hn : Hid ((1 ≤ 1 → okN a) ∧ (2 ≤ 1 → okN b) ∧ (3 ≤ 1 → okN c) ∧ (4 ≤ 1 → okN d)) := ⟨fun _ => ⟨by omega, by omega⟩, by omega, by omega, by omega⟩
          have d0 : decide (a < 0) = false := decide_eq_false h0
          have d1 : decide (1125899906842624 < a) = false := decide_eq_false h1
          clear h0 h1 hz
          go_wp2
          go_round
          case rel => exact ⟨1, rfl, by omega, hn⟩
          case measure => simp [intOf]
    · by_cases h0 : b < 0
      · have hR : Hid (R = []) := hN.out (fun h => by have := h.2.1.1; omega)
        have d0 : decide (b < 0) = true := decide_eq_true h0
        clear h0 hz
        go_wp2
        go_ret
        exact ⟨by rw [hR.out]; first | done | rfl, F3.out _ K0.out⟩
      · by_cases h1 : 1125899906842624 < b
        · have hR : Hid (R = []) := hN.out (fun h => by have := h.2.1.2; omega)
          have d0 : decide (b < 0) = false := decide_eq_false h0
          have d1 : decide (1125899906842624 < b) = true := decide_eq_true h1
          clear h0 h1 hz
          go_wp2
          go_ret
          exact ⟨by rw [hR.out]; first | done | rfl, F3.out _ K0.out⟩
        · have hn : Hid ((1 ≤ 2 → okN a) ∧ (2 ≤ 2 → okN b) ∧ (3 ≤ 2 → okN c) ∧ (4 ≤ 2 → okN d)) := ⟨fun _ => hz.out.1 (by omega), fun _ => ⟨by omega, by omega⟩, by omega, by omega⟩
          have d0 : decide (b < 0) = false := decide_eq_false h0
          have d1 : decide (1125899906842624 < b) = false := decide_eq_false h1
          clear h0 h1 hz
          go_wp2
          go_round
          case rel => exact ⟨2, rfl, by omega, hn⟩
          case measure => simp [intOf]
    · by_cases h0 : c < 0
      · have hR : Hid (R = []) := hN.out (fun h => by have := h.2.2.1.1; omega)
        have d0 : decide (c < 0) = true := decide_eq_true h0
        clear h0 hz
        go_wp2
        go_ret
        exact ⟨by rw [hR.out]; first | done | rfl, F3.out _ K0.out⟩
      · by_cases h1 : 1125899906842624 < c
        · have hR : Hid (R = []) := hN.out (fun h => by have := h.2.2.1.2; omega)
          have d0 : decide (c < 0) = false := decide_eq_false h0
          have d1 : decide (1125899906842624 < c) = true := decide_eq_true h1
          clear h0 h1 hz
          go_wp2
          go_ret
          exact ⟨by rw [hR.out]; first | done | rfl, F3.out _ K0.out⟩
        · have hn : Hid ((1 ≤ 3 → okN a) ∧ (2 ≤ 3 → okN b) ∧ (3 ≤ 3 → okN c) ∧ (4 ≤ 3 → okN d)) := ⟨fun _ => hz.out.1 (by omega), fun _ => hz.out.2.1 (by omega), fun _ => ⟨by omega, by omega⟩, by omega⟩
          have d0 : decide (c < 0) = false := decide_eq_false h0
          have d1 : decide (1125899906842624 < c) = false := decide_eq_false h1
          clear h0 h1 hz
          go_wp2
          go_round
          case rel => exact ⟨3, rfl, by omega, hn⟩
          case measure => simp [intOf]
    · by_cases h0 : d < 0
      · have hR : Hid (R = []) := hN.out (fun h => by have := h.2.2.2.1; omega)
        have d0 : decide (d < 0) = true := decide_eq_true h0
        clear h0 hz
        go_wp2
        go_ret
        exact ⟨by rw [hR.out]; first | done | rfl, F3.out _ K0.out⟩
      · by_cases h1 : 1125899906842624 < d
        · have hR : Hid (R = []) := hN.out (fun h => by have := h.2.2.2.2; omega)
          have d0 : decide (d < 0) = false := decide_eq_false h0
          have d1 : decide (1125899906842624 < d) = true := decide_eq_true h1
          clear h0 h1 hz
          go_wp2
          go_ret
          exact ⟨by rw [hR.out]; first | done | rfl, F3.out _ K0.out⟩
        · have hn : Hid ((1 ≤ 4 → okN a) ∧ (2 ≤ 4 → okN b) ∧ (3 ≤ 4 → okN c) ∧ (4 ≤ 4 → okN d)) := ⟨fun _ => hz.out.1 (by omega), fun _ => hz.out.2.1 (by omega), fun _ => hz.out.2.2.1 (by omega), fun _ => ⟨by omega, by omega⟩⟩
          have d0 : decide (d < 0) = false := decide_eq_false h0
          have d1 : decide (1125899906842624 < d) = false := decide_eq_false h1
          clear h0 h1 hz
          go_wp2
          go_round
          case rel => exact ⟨4, rfl, by omega, hn⟩
          case measure => simp [intOf]
    · have hR : Hid (R = x7) := by rw [Hid, hY.out (hz.out.1 (by omega)) (hz.out.2.1 (by omega)) (hz.out.2.2.1 (by omega)) (hz.out.2.2.2 (by omega))]
      clear hz hY hN
      clear p0 p1 p2 p3
      go_wp2
      go_region_held3 (fun W => Below (w.heap.size + 1) Wb W ∧ W.cell? ⟨w.heap.size, 0, none⟩ = some (.int .i64 a) ∧ W.cell? ⟨w.heap.size, 1, none⟩ = some (.int .i64 b) ∧ W.cell? ⟨w.heap.size, 2, none⟩ = some (.int .i64 c) ∧ W.cell? ⟨w.heap.size, 3, none⟩ = some (.int .i64 d)) (first | exact ⟨K0.out, F1.out _ K0.out⟩ | exact ⟨K0.out.drew, F1.out _ K0.out.drew⟩ | go_keep | exact ⟨F2.out _ _ (by first | assumption | (apply And.left; assumption)) hbx, F1.out _ (F2.out _ _ (by first | assumption | (apply And.left; assumption)) hbx)⟩) (first
        | (go_at_call 28; (with_reducible refine Calls.mono (c1 _ (hL.below (F3.out _ (by first | assumption | (apply And.left; assumption))))) ?_); rintro e w' ⟨rfl, hbx⟩)
        | (go_at_call 28; (with_reducible refine Calls.mono (c2 _ (hL.below (F3.out _ (by first | assumption | (apply And.left; assumption))))) ?_); rintro e w' ⟨rfl, hbx⟩)
        | (go_at_call 28; (with_reducible refine Calls.mono (c3 _ (hL.below (F3.out _ (by first | assumption | (apply And.left; assumption))))) ?_); rintro e w' ⟨rfl, hbx⟩)
        | (go_at_call 28; (with_reducible refine Calls.mono (c4 _ (hL.below (F3.out _ (by first | assumption | (apply And.left; assumption))))) ?_); rintro e w' ⟨rfl, hbx⟩))
      all_goals
        go_wp2
        go_ret
        exact ⟨by rw [hR.out]; first | done | rfl, F3.out _ (by first | assumption | (apply And.left; assumption) | exact F2.out _ _ (by first | assumption | (apply And.left; assumption)) hbx)⟩
end Go.Proofs.YtjcaaiikccnpeaaDoor
