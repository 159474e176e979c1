/- NumReads, walked: it answers true. -/
import Derived.Test.YthbnjlpiehlcfaaDoorRefParse
import Derived.Deep.DeepCutAuto
namespace Go.Proofs.YthbnjlpiehlcfaaDoor
open Go.ChangeShapes Go.WideShapes Go.ChangeAt Go.RowKit Go.Lib
set_option linter.unusedVariables false

def badL (t : List UInt8) : Nat → List UInt8
  | 0 => 43 :: t
  | 1 => 48 :: t
  | 2 => 32 :: t
  | 3 => t ++ [32]
  | 4 => 45 :: 45 :: t
  | _ => t ++ [46]
theorem badL_none (n lo hi : Int) (k : Nat) : parseI (badL (itoa n) k) lo hi = none := by
  cases h : parseI (badL (itoa n) k) lo hi with
  | none => rfl
  | some m =>
    obtain ⟨e, _⟩ := of_parse h
    match k with
    | 0 => exact absurd e (itoa_bad_front m n 43 (by simp))
    | 1 => exact absurd e (itoa_zero_front m n)
    | 2 => exact absurd e (itoa_bad_front m n 32 (by simp))
    | 3 => exact absurd e (itoa_bad_back m n 32 (by simp))
    | 4 => exact absurd e (itoa_minus_front m n)
    | k + 5 => exact absurd e (itoa_bad_back m n 46 (by simp))
theorem badL_len (t : List UInt8) (k : Nat) : (badL t k).length ≤ t.length + 2 := by
  match k with
  | 0 => simp [badL]
  | 1 => simp [badL]
  | 2 => simp [badL]
  | 3 => simp [badL]
  | 4 => simp [badL]
  | k + 5 => simp [badL]

set_option maxRecDepth 100000 in
set_option maxHeartbeats 1600000 in
theorem reads_in (n lo hi X Y : Int) (o o2 i1 i2 : Bool) (s t u : List UInt8) (w : World) (hL : Laid w) (ht : t.length ≤ 20) (d1 : decide (lo ≤ n) = i1) (d2 : decide (n ≤ hi) = i2)
    (hin : (i1 = true ∧ i2 = true ∧ o = true ∧ X = n) ∨ (i1 = false ∧ o = false ∧ X = 0) ∨ (i1 = true ∧ i2 = false ∧ o = false ∧ X = 0))
    (hout : o2 = false ∨ (o2 = true ∧ (u == s) = true ∧ decide (Y < lo) = false ∧ decide (hi < Y) = false))
    (cs : Calls Tryd.prog 8 #[] w (BoolPost w true)) (cT : ∀ W, Laid W → Calls Tryd.prog 15 #[.int .i64 n] W (StrPost W t))
    (cP : ∀ W, Laid W → Calls Tryd.prog 9 #[.string (bs t), .int .i64 lo, .int .i64 hi] W (TwoPost W X o))
    (cB : ∀ k W, Laid W → Calls Tryd.prog 9 #[.string (bs (badL t k)), .int .i64 lo, .int .i64 hi] W (TwoPost W 0 false))
    (cQ : ∀ W, Laid W → Calls Tryd.prog 9 #[.string (bs s), .int .i64 lo, .int .i64 hi] W (TwoPost W Y o2))
    (cU : ∀ W, Laid W → Calls Tryd.prog 15 #[.int .i64 Y] W (StrPost W u)) :
    Calls Tryd.prog 4 #[.int .i64 n, .int .i64 lo, .int .i64 hi, .string (bs s)] w (BoolPost w true) := by
  have hb0 := Below.refl w.heap.size w
  have tl := bs_toList t
  have tu := bs_toList u
  have ts := bs_toList s
  have b0 : bs [43] = (⟨#[43]⟩ : ByteArray) := rfl
  have b1 : bs [48] = (⟨#[48]⟩ : ByteArray) := rfl
  have b2 : bs [32] = (⟨#[32]⟩ : ByteArray) := rfl
  have b4 : bs [45, 45] = (⟨#[45, 45]⟩ : ByteArray) := rfl
  have b5 : bs [46] = (⟨#[46]⟩ : ByteArray) := rfl
  have p0 : (⟨#[43]⟩ : ByteArray) ++ bs t = bs (badL t 0) := by rw [← b0, bs_append]; rfl
  have p1 : (⟨#[48]⟩ : ByteArray) ++ bs t = bs (badL t 1) := by rw [← b1, bs_append]; rfl
  have p2 : (⟨#[32]⟩ : ByteArray) ++ bs t = bs (badL t 2) := by rw [← b2, bs_append]; rfl
  have p3 : bs t ++ (⟨#[32]⟩ : ByteArray) = bs (badL t 3) := by rw [← b2, bs_append]; rfl
  have p4 : (⟨#[45, 45]⟩ : ByteArray) ++ bs t = bs (badL t 4) := by rw [← b4, bs_append]; rfl
  have p5 : bs t ++ (⟨#[46]⟩ : ByteArray) = bs (badL t 5) := by rw [← b5, bs_append]; rfl
  have hz := bs_size t
  clear b0 b1 b2 b4 b5
  generalize hB : badL t = B at *
  clear hB
  have HL := Lib.hid hL
  go_enter Tryd.func4, Tryd.ntmps4
  go_wp2_with fail
  refine (cs).mono ?_
  rintro e v1 ⟨rfl, hbx⟩
  have hb1 := hb0.trans (hbx.mono hb0.size)
  clear hbx hb0
  go_wp2_with fail
  refine (cT _ (hL.below hb1)).mono ?_
  rintro e v2 ⟨rfl, hbx⟩
  have hb2 := hb1.trans (hbx.mono hb1.size)
  clear hbx hb1
  go_wp2_with fail
  refine (cP _ (hL.below hb2)).mono ?_
  rintro e v3 ⟨rfl, hbx⟩
  have hb3 := hb2.trans (hbx.mono hb2.size)
  clear hbx hb2
  rcases hin with ⟨rfl, rfl, rfl, rfl⟩ | ⟨rfl, rfl, rfl⟩ | ⟨rfl, rfl, rfl, rfl⟩
  all_goals
    go_wp2_with fail
    go_loopw [15] (fun v wr => ∃ k : Nat, k ≤ 6 ∧ v = .int .i64 k ∧ Laid wr ∧ Below w.heap.size w wr ∧ v3.heap.size < wr.heap.size ∧ ∀ j, j < 6 → wr.cell? ⟨v3.heap.size, j, none⟩ = some (.string (bs (B j)))) (fun v _ => 6 - (intOf v).toNat)
    case atStart =>
      have hbA := hb3.alloc hb3.size (.cells #[.string (bs (B 0)), .string (bs (B 1)), .string (bs (B 2)), .string (bs (B 3)), .string (bs (B 4)), .string (bs (B 5))] 9)
      refine ⟨0, by omega, rfl, HL.out.below hbA, hbA, by simp, ?_⟩
      intro j hj
      rcases (by omega : j = 0 ∨ j = 1 ∨ j = 2 ∨ j = 3 ∨ j = 4 ∨ j = 5) with rfl | rfl | rfl | rfl | rfl | rfl
      all_goals (rw [cell_of_row _ _ _ _ _ (0, 0) (heap_alloc_new v3 _)]; rfl)
    case round =>
      obtain ⟨k, hk, rfl, hLr, hbr, hsz, hcs⟩ := hrel
      by_cases hlt : k < 6
      · have hc := hcs k hlt
        have HC := Lib.hid hcs
        clear hcs
        go_wp2_with fail
        refine (cB k _ hLr).mono ?_
        rintro e wx ⟨rfl, hbx⟩
        have hb' := hbr.trans (hbx.mono hbr.size)
        have hL' := hLr.below hbx
        have hz' : v3.heap.size < wx.heap.size := Nat.lt_of_lt_of_le hsz hbx.size
        have HC' : Hid (∀ j, j < 6 → wx.cell? ⟨v3.heap.size, j, none⟩ = some (.string (bs (B j)))) := Lib.hid (fun j hj => (hbx.cell (p := ⟨v3.heap.size, j, none⟩) hsz).trans (HC.out j hj))
        clear hbx
        go_wp2_with fail
        go_roundw
        case rel => exact ⟨k + 1, by omega, by go_num, hL', hb', hz', HC'.out⟩
        case measure => simp [intOf]; omega
      · obtain rfl : k = 6 := by omega
        clear hcs hlt
        go_wp2_with fail
        refine (cQ _ hLr).mono ?_
        rintro e wx ⟨rfl, hbx⟩
        have hb' := hbr.trans (hbx.mono hbr.size)
        have hL' := hLr.below hbx
        clear hbx
        rcases hout with rfl | ⟨rfl, y1, y2, y3⟩
        · go_wp2_with fail
          go_ret
          exact ⟨rfl, hb'⟩
        · go_wp2_with fail
          refine (cU _ hL').mono ?_
          rintro e wy ⟨rfl, hby⟩
          have hb2 := hb'.trans (hby.mono hb'.size)
          clear hby
          go_wp2_with fail
          go_ret
          exact ⟨rfl, hb2⟩
theorem reads_any (n lo hi : Int) (s : List UInt8) (w : World) (wn : wf64 n) (wl : wf64 lo) (wh : wf64 hi) (hs : s.length ≤ 281474976710656) (hL : Laid w) : Calls Tryd.prog 4 #[.int .i64 n, .int .i64 lo, .int .i64 hi, .string (bs s)] w (BoolPost w true) := by
  have ht := (itoa_length wn.1 wn.2).1
  have cB : ∀ k W, Laid W → Calls Tryd.prog 9 #[.string (bs (badL (itoa n) k)), .int .i64 lo, .int .i64 hi] W (TwoPost W 0 false) := by
    intro k W h
    have hl := badL_len (itoa n) k
    have c := parse_any (badL (itoa n) k) lo hi W (by omega) h
    rw [badL_none] at c
    exact c
  have hout : ∃ Y o2, wf64 Y ∧ (∀ W, Laid W → Calls Tryd.prog 9 #[.string (bs s), .int .i64 lo, .int .i64 hi] W (TwoPost W Y o2)) ∧ (o2 = false ∨ (o2 = true ∧ (itoa Y == s) = true ∧ decide (Y < lo) = false ∧ decide (hi < Y) = false)) := by
    cases h : parseI s lo hi with
    | none =>
      refine ⟨0, false, by unfold wf64; decide, fun W hW => ?_, .inl rfl⟩
      have c := parse_any s lo hi W hs hW
      rw [h] at c
      exact c
    | some y =>
      obtain ⟨h1, h2, h3, h4⟩ := of_parse h
      refine ⟨y, true, h2, fun W hW => ?_, .inr ⟨rfl, beq_iff_eq.2 h1, decide_eq_false (by omega), decide_eq_false (by omega)⟩⟩
      have c := parse_any s lo hi W hs hW
      rw [h] at c
      exact c
  obtain ⟨Y, o2, wY, cQ, ho⟩ := hout
  have hin : ∃ X o, (∀ W, Laid W → Calls Tryd.prog 9 #[.string (bs (itoa n)), .int .i64 lo, .int .i64 hi] W (TwoPost W X o)) ∧
      ((decide (lo ≤ n) = true ∧ decide (n ≤ hi) = true ∧ o = true ∧ X = n) ∨ (decide (lo ≤ n) = false ∧ o = false ∧ X = 0) ∨ (decide (lo ≤ n) = true ∧ decide (n ≤ hi) = false ∧ o = false ∧ X = 0)) := by
    have hno : ¬ (lo ≤ n ∧ n ≤ hi) → parseI (itoa n) lo hi = none := by
      intro hn
      cases h : parseI (itoa n) lo hi with
      | none => rfl
      | some m =>
        obtain ⟨h1, h2, h3, h4⟩ := of_parse h
        have e1 := atoi_itoa h2.1 h2.2
        rw [h1, atoi_itoa wn.1 wn.2] at e1
        injection e1 with e1
        omega
    by_cases h1 : lo ≤ n
    · by_cases h2 : n ≤ hi
      · refine ⟨n, true, fun W hW => ?_, .inl ⟨decide_eq_true h1, decide_eq_true h2, rfl, rfl⟩⟩
        have c := parse_any (itoa n) lo hi W (by omega) hW
        rw [parse_of rfl wn h1 h2] at c
        exact c
      · refine ⟨0, false, fun W hW => ?_, .inr (.inr ⟨decide_eq_true h1, decide_eq_false h2, rfl, rfl⟩)⟩
        have c := parse_any (itoa n) lo hi W (by omega) hW
        rw [hno (by omega)] at c
        exact c
    · refine ⟨0, false, fun W hW => ?_, .inr (.inl ⟨decide_eq_false h1, rfl, rfl⟩)⟩
      have c := parse_any (itoa n) lo hi W (by omega) hW
      rw [hno (by omega)] at c
      exact c
  obtain ⟨X, o, cP, hi'⟩ := hin
  exact reads_in n lo hi X Y o o2 _ _ s (itoa n) (itoa Y) w hL ht rfl rfl hi' ho (small_any w hL) (fun W h => text_any n W wn h) cP cB cQ (fun W h => text_any Y W wY h)
end Go.Proofs.YthbnjlpiehlcfaaDoor
