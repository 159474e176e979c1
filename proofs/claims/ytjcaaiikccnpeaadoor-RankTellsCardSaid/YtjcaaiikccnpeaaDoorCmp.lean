/- compare and Less, walked. -/
import Derived.Test.YtjcaaiikccnpeaaDoorNumB
import Derived.Test.YtjcaaiikccnpeaaDoorRankPure
import Derived.WalkSpells
import Derived.WalkLawsBesides
namespace Go.Proofs.YtjcaaiikccnpeaaDoor
open Go.ChangeShapes Go.WideShapes Go.ChangeAt Go.RowKit Go.Lib
set_option linter.unusedVariables false

/-- a card's cells -/
def cellsC (c : Card) : Array Value := #[.string (bs c.id), .string (bs c.by'), .int .i64 c.score, .int .i64 c.time, .int .i64 c.act, .string (bs c.rea)]
theorem isnan_int (x : Int) (w : World) : Calls Tryd.prog 67 #[.int .i64 x] w (Same (.bool false) w) := by
  go_enter Tryd.func67, Tryd.ntmps67
  go_wp2
  go_ret
  exact ⟨by simp, rfl⟩
theorem isnan_str (x : List UInt8) (w : World) : Calls Tryd.prog 68 #[.string (bs x)] w (Same (.bool false) w) := by
  go_enter Tryd.func68, Tryd.ntmps68
  go_wp2
  go_ret
  exact ⟨by simp, rfl⟩
theorem cmpi_any (x y : Int) (w : World) : Calls Tryd.prog 52 #[.int .i64 x, .int .i64 y] w (Same (.int .i64 (cmpI x y)) w) := by
  have c1 := fun W => isnan_int x W
  have c2 := fun W => isnan_int y W
  by_cases h1 : x < y
  · have hR : Hid (cmpI x y = -1) := by unfold Hid cmpI; rw [if_pos h1]
    have d1 : decide (x < y) = true := decide_eq_true h1
    go_enter Tryd.func52, Tryd.ntmps52
    go_wp2_with fail
    refine (c1 _).mono ?_
    rintro e w' ⟨rfl, rfl⟩
    go_wp2_with fail
    refine (c2 _).mono ?_
    rintro e w' ⟨rfl, rfl⟩
    go_wp2
    go_ret
    exact ⟨by rw [hR.out]; first | done | rfl, rfl⟩
  · have d1 : decide (x < y) = false := decide_eq_false h1
    by_cases h2 : y < x
    · have hR : Hid (cmpI x y = 1) := by unfold Hid cmpI; rw [if_neg h1, if_pos h2]
      have d2 : decide (y < x) = true := decide_eq_true h2
      go_enter Tryd.func52, Tryd.ntmps52
      go_wp2_with fail
      refine (c1 _).mono ?_
      rintro e w' ⟨rfl, rfl⟩
      go_wp2_with fail
      refine (c2 _).mono ?_
      rintro e w' ⟨rfl, rfl⟩
      go_wp2
      go_ret
      exact ⟨by rw [hR.out]; first | done | rfl, rfl⟩
    · have hR : Hid (cmpI x y = 0) := by unfold Hid cmpI; rw [if_neg h1, if_neg h2]
      have d2 : decide (y < x) = false := decide_eq_false h2
      go_enter Tryd.func52, Tryd.ntmps52
      go_wp2_with fail
      refine (c1 _).mono ?_
      rintro e w' ⟨rfl, rfl⟩
      go_wp2_with fail
      refine (c2 _).mono ?_
      rintro e w' ⟨rfl, rfl⟩
      go_wp2
      go_ret
      exact ⟨by rw [hR.out]; first | done | rfl, rfl⟩
theorem cmpt_any (x y : List UInt8) (w : World) : Calls Tryd.prog 55 #[.string (bs x), .string (bs y)] w (Same (.int .i64 (cmpT x y)) w) := by
  have c1 := fun W => isnan_str x W
  have c2 := fun W => isnan_str y W
  have t1 := bs_toList x
  have t2 := bs_toList y
  cases h1 : ltB x y with
  | true =>
    have hR : Hid (cmpT x y = -1) := by unfold Hid cmpT; rw [if_pos h1]
    have g1 : Op.bytesLess x y = true := h1
    clear h1
    go_enter Tryd.func55, Tryd.ntmps55
    go_wp2_with fail
    refine (c1 _).mono ?_
    rintro e w' ⟨rfl, rfl⟩
    go_wp2_with fail
    refine (c2 _).mono ?_
    rintro e w' ⟨rfl, rfl⟩
    go_wp2
    go_ret
    exact ⟨by rw [hR.out]; first | done | rfl, rfl⟩
  | false =>
    have g1 : Op.bytesLess x y = false := h1
    cases h2 : ltB y x with
    | true =>
      have hR : Hid (cmpT x y = 1) := by unfold Hid cmpT; rw [h1, h2]; rfl
      have g2 : (x == y) = false := by
        cases h3 : x == y with
        | false => rfl
        | true => rw [eq_of_beq h3, ltB_irrefl] at h2; cases h2
      clear h1 h2
      go_enter Tryd.func55, Tryd.ntmps55
      go_wp2_with fail
      refine (c1 _).mono ?_
      rintro e w' ⟨rfl, rfl⟩
      go_wp2_with fail
      refine (c2 _).mono ?_
      rintro e w' ⟨rfl, rfl⟩
      go_wp2
      go_ret
      exact ⟨by rw [hR.out]; first | done | rfl, rfl⟩
    | false =>
      have hR : Hid (cmpT x y = 0) := by unfold Hid cmpT; rw [h1, h2]; rfl
      have g2 : (x == y) = true := by
        rcases ltB_tri x y with h | h | h
        · rw [h1] at h; cases h
        · rw [h]; simp
        · rw [h2] at h; cases h
      clear h1 h2
      go_enter Tryd.func55, Tryd.ntmps55
      go_wp2_with fail
      refine (c1 _).mono ?_
      rintro e w' ⟨rfl, rfl⟩
      go_wp2_with fail
      refine (c2 _).mono ?_
      rintro e w' ⟨rfl, rfl⟩
      go_wp2
      go_ret
      exact ⟨by rw [hR.out]; first | done | rfl, rfl⟩
theorem clo1 (p q : Nat) (x y : Int) (w : World) (hp : w.cell? ⟨p, 2, none⟩ = some (.int .i64 x)) (hq : w.cell? ⟨q, 2, none⟩ = some (.int .i64 y)) : Calls Tryd.prog 51 #[.pointer (some ⟨p, 0, none⟩), .pointer (some ⟨q, 0, none⟩)] w (Same (.int .i64 (cmpI x y)) w) := by
  have c := fun W => cmpi_any x y W
  go_enter Tryd.func51, Tryd.ntmps51
  go_wp2_with fail
  refine (c _).mono ?_
  rintro e w' ⟨rfl, rfl⟩
  go_wp2
  go_ret
  exact ⟨rfl, rfl⟩
theorem clo2 (p q : Nat) (x y : Int) (w : World) (hp : w.cell? ⟨p, 3, none⟩ = some (.int .i64 x)) (hq : w.cell? ⟨q, 3, none⟩ = some (.int .i64 y)) : Calls Tryd.prog 53 #[.pointer (some ⟨p, 0, none⟩), .pointer (some ⟨q, 0, none⟩)] w (Same (.int .i64 (cmpI x y)) w) := by
  have c := fun W => cmpi_any x y W
  go_enter Tryd.func53, Tryd.ntmps53
  go_wp2_with fail
  refine (c _).mono ?_
  rintro e w' ⟨rfl, rfl⟩
  go_wp2
  go_ret
  exact ⟨rfl, rfl⟩
theorem clo3 (p q : Nat) (x y : List UInt8) (w : World) (hp : w.cell? ⟨p, 0, none⟩ = some (.string (bs x))) (hq : w.cell? ⟨q, 0, none⟩ = some (.string (bs y))) : Calls Tryd.prog 54 #[.pointer (some ⟨p, 0, none⟩), .pointer (some ⟨q, 0, none⟩)] w (Same (.int .i64 (cmpT x y)) w) := by
  have c := fun W => cmpt_any x y W
  go_enter Tryd.func54, Tryd.ntmps54
  go_wp2_with fail
  refine (c _).mono ?_
  rintro e w' ⟨rfl, rfl⟩
  go_wp2
  go_ret
  exact ⟨rfl, rfl⟩
set_option maxRecDepth 100000 in
set_option maxHeartbeats 1000000 in
theorem compare_any (a b : Card) (w : World) : Calls Tryd.prog 37 #[.agg (cellsC a), .agg (cellsC b)] w (IntPost w (cmpC a b)) := by
  obtain ⟨ai, ab, asc, ati, aa, ar⟩ := a
  obtain ⟨bi, bb, bsc, bti, ba, br⟩ := b
  unfold cellsC
  go_enter Tryd.func37, Tryd.ntmps37
  go_wp2
  obtain ⟨B, hB⟩ : ∃ B, w.heap.size = B := ⟨_, rfl⟩
  have hs1 : (w.alloc (.cells #[.string (bs ai), .string (bs ab), .int .i64 asc, .int .i64 ati, .int .i64 aa, .string (bs ar)] 38)).heap.size = B + 1 := by simp [hB]
  have hA : ((w.alloc (.cells #[.string (bs ai), .string (bs ab), .int .i64 asc, .int .i64 ati, .int .i64 aa, .string (bs ar)] 38)).alloc (.cells #[.string (bs bi), .string (bs bb), .int .i64 bsc, .int .i64 bti, .int .i64 ba, .string (bs br)] 38)).heap[B]? = some (.cells #[.string (bs ai), .string (bs ab), .int .i64 asc, .int .i64 ati, .int .i64 aa, .string (bs ar)] 38 (0, 0)) := by
    rw [Below.heap_alloc _ _ _ (by omega), ← hB, heap_alloc_new]
  have hBb : ((w.alloc (.cells #[.string (bs ai), .string (bs ab), .int .i64 asc, .int .i64 ati, .int .i64 aa, .string (bs ar)] 38)).alloc (.cells #[.string (bs bi), .string (bs bb), .int .i64 bsc, .int .i64 bti, .int .i64 ba, .string (bs br)] 38)).heap[B + 1]? = some (.cells #[.string (bs bi), .string (bs bb), .int .i64 bsc, .int .i64 bti, .int .i64 ba, .string (bs br)] 38 (0, 0)) := by
    rw [← hs1, heap_alloc_new]
  have hbel : Below w.heap.size w ((w.alloc (.cells #[.string (bs ai), .string (bs ab), .int .i64 asc, .int .i64 ati, .int .i64 aa, .string (bs ar)] 38)).alloc (.cells #[.string (bs bi), .string (bs bb), .int .i64 bsc, .int .i64 bti, .int .i64 ba, .string (bs br)] 38)) := ((Below.refl _ _).alloc (Nat.le_refl _) _).alloc (by omega) _
  have HBEL := Lib.hid hbel
  have HSZ := Lib.hid hB
  have HA := Lib.hid hA
  have HBB := Lib.hid hBb
  have hcv : Hid (cmpC ⟨ai, ab, asc, ati, aa, ar⟩ ⟨bi, bb, bsc, bti, ba, br⟩ = if cmpI bsc asc ≠ 0 then cmpI bsc asc else if cmpI bti ati ≠ 0 then cmpI bti ati else cmpT ai bi) := rfl
  have ix0 : ∀ W : World, (Instr.index 74 (.agg #[.func (.func 51) #[] #[.pointer (some ⟨B + 1, 0, none⟩), .pointer (some ⟨B, 0, none⟩)], .func (.func 53) #[] #[.pointer (some ⟨B + 1, 0, none⟩), .pointer (some ⟨B, 0, none⟩)], .func (.func 54) #[] #[.pointer (some ⟨B, 0, none⟩), .pointer (some ⟨B + 1, 0, none⟩)]]) (.int .i64 0)).run Tryd.prog W = .ok (.func (.func 51) #[] #[.pointer (some ⟨B + 1, 0, none⟩), .pointer (some ⟨B, 0, none⟩)]) W := fun _ => by kernel_rfl
  have ix1 : ∀ W : World, (Instr.index 74 (.agg #[.func (.func 51) #[] #[.pointer (some ⟨B + 1, 0, none⟩), .pointer (some ⟨B, 0, none⟩)], .func (.func 53) #[] #[.pointer (some ⟨B + 1, 0, none⟩), .pointer (some ⟨B, 0, none⟩)], .func (.func 54) #[] #[.pointer (some ⟨B, 0, none⟩), .pointer (some ⟨B + 1, 0, none⟩)]]) (.int .i64 1)).run Tryd.prog W = .ok (.func (.func 53) #[] #[.pointer (some ⟨B + 1, 0, none⟩), .pointer (some ⟨B, 0, none⟩)]) W := fun _ => by kernel_rfl
  have ix2 : ∀ W : World, (Instr.index 74 (.agg #[.func (.func 51) #[] #[.pointer (some ⟨B + 1, 0, none⟩), .pointer (some ⟨B, 0, none⟩)], .func (.func 53) #[] #[.pointer (some ⟨B + 1, 0, none⟩), .pointer (some ⟨B, 0, none⟩)], .func (.func 54) #[] #[.pointer (some ⟨B, 0, none⟩), .pointer (some ⟨B + 1, 0, none⟩)]]) (.int .i64 2)).run Tryd.prog W = .ok (.func (.func 54) #[] #[.pointer (some ⟨B, 0, none⟩), .pointer (some ⟨B + 1, 0, none⟩)]) W := fun _ => by kernel_rfl
  clear hA hBb hbel hs1
  rw [hB]
  generalize ((w.alloc (.cells #[.string (bs ai), .string (bs ab), .int .i64 asc, .int .i64 ati, .int .i64 aa, .string (bs ar)] 38)).alloc (.cells #[.string (bs bi), .string (bs bb), .int .i64 bsc, .int .i64 bti, .int .i64 ba, .string (bs br)] 38)) = W2 at *
  have a0 : W2.cell? ⟨B, 0, none⟩ = some (.string (bs ai)) := by rw [cell_of_row W2 B 0 _ _ _ HA.out]; rfl
  have a2 : W2.cell? ⟨B, 2, none⟩ = some (.int .i64 asc) := by rw [cell_of_row W2 B 2 _ _ _ HA.out]; rfl
  have a3 : W2.cell? ⟨B, 3, none⟩ = some (.int .i64 ati) := by rw [cell_of_row W2 B 3 _ _ _ HA.out]; rfl
  have b0 : W2.cell? ⟨B + 1, 0, none⟩ = some (.string (bs bi)) := by rw [cell_of_row W2 (B + 1) 0 _ _ _ HBB.out]; rfl
  have b2 : W2.cell? ⟨B + 1, 2, none⟩ = some (.int .i64 bsc) := by rw [cell_of_row W2 (B + 1) 2 _ _ _ HBB.out]; rfl
  have b3 : W2.cell? ⟨B + 1, 3, none⟩ = some (.int .i64 bti) := by rw [cell_of_row W2 (B + 1) 3 _ _ _ HBB.out]; rfl
  have c1 := clo1 (B + 1) B bsc asc W2 b2 a2
  have c2 := clo2 (B + 1) B bti ati W2 b3 a3
  have c3 := clo3 B (B + 1) ai bi W2 a0 b0
  clear hB a0 a2 a3 b0 b2 b3
  generalize cmpC ⟨ai, ab, asc, ati, aa, ar⟩ ⟨bi, bb, bsc, bti, ba, br⟩ = R at *
  generalize cmpI bsc asc = x1 at *
  generalize cmpI bti ati = x2 at *
  generalize cmpT ai bi = x3 at *
  go_loop [12] (fun v => ∃ k : Nat, v = .int .i64 k ∧ k ≤ 3 ∧ Hid ((1 ≤ k → x1 = 0) ∧ (2 ≤ k → x2 = 0) ∧ (3 ≤ k → x3 = 0))) (fun v => 3 - (intOf v).toNat)
  case atStart => exact ⟨0, rfl, by omega, by omega, by omega, by omega⟩
  case round =>
    obtain ⟨k, rfl, hk, hz⟩ := hrel
    rcases (show k = 0 ∨ k = 1 ∨ k = 2 ∨ k = 3 by omega) with rfl | rfl | rfl | rfl
    · by_cases hx : x1 = 0
      · have hn : Hid ((1 ≤ 1 → x1 = 0) ∧ (2 ≤ 1 → x2 = 0) ∧ (3 ≤ 1 → x3 = 0)) := ⟨fun _ => hx, by omega, by omega⟩
        have t1 : (x1 == 0) = true := by rw [hx]; rfl
        have t2 : (x1 != 0) = false := by rw [hx]; rfl
        clear hx hz
        go_wp2_with fail
        refine c1.mono ?_
        rintro e w' ⟨rfl, rfl⟩
        go_wp2
        go_round
        case rel => exact ⟨1, rfl, by omega, hn⟩
        case measure => simp [intOf]
      · have hR : Hid (R = x1) := by rw [Hid, hcv.out, if_pos hx]
        have t1 : (x1 == 0) = false := by simpa using hx
        have t2 : (x1 != 0) = true := by simpa using hx
        clear hx hz
        go_wp2_with fail
        refine c1.mono ?_
        rintro e w' ⟨rfl, rfl⟩
        go_wp2
        go_ret
        exact ⟨by rw [hR.out]; first | done | rfl, HBEL.out⟩
    · by_cases hx : x2 = 0
      · have hn : Hid ((1 ≤ 2 → x1 = 0) ∧ (2 ≤ 2 → x2 = 0) ∧ (3 ≤ 2 → x3 = 0)) := ⟨fun _ => hz.out.1 (by omega), fun _ => hx, by omega⟩
        have t1 : (x2 == 0) = true := by rw [hx]; rfl
        have t2 : (x2 != 0) = false := by rw [hx]; rfl
        clear hx hz
        go_wp2_with fail
        refine c2.mono ?_
        rintro e w' ⟨rfl, rfl⟩
        go_wp2
        go_round
        case rel => exact ⟨2, rfl, by omega, hn⟩
        case measure => simp [intOf]
      · have hR : Hid (R = x2) := by rw [Hid, hcv.out, if_neg (by rw [hz.out.1 (by omega)]; simp), if_pos hx]
        have t1 : (x2 == 0) = false := by simpa using hx
        have t2 : (x2 != 0) = true := by simpa using hx
        clear hx hz
        go_wp2_with fail
        refine c2.mono ?_
        rintro e w' ⟨rfl, rfl⟩
        go_wp2
        go_ret
        exact ⟨by rw [hR.out]; first | done | rfl, HBEL.out⟩
    · by_cases hx : x3 = 0
      · have hn : Hid ((1 ≤ 3 → x1 = 0) ∧ (2 ≤ 3 → x2 = 0) ∧ (3 ≤ 3 → x3 = 0)) := ⟨fun _ => hz.out.1 (by omega), fun _ => hz.out.2.1 (by omega), fun _ => hx⟩
        have t1 : (x3 == 0) = true := by rw [hx]; rfl
        have t2 : (x3 != 0) = false := by rw [hx]; rfl
        clear hx hz
        go_wp2_with fail
        refine c3.mono ?_
        rintro e w' ⟨rfl, rfl⟩
        go_wp2
        go_round
        case rel => exact ⟨3, rfl, by omega, hn⟩
        case measure => simp [intOf]
      · have hR : Hid (R = x3) := by rw [Hid, hcv.out, if_neg (by rw [hz.out.1 (by omega)]; simp), if_neg (by rw [hz.out.2.1 (by omega)]; simp)]
        have t1 : (x3 == 0) = false := by simpa using hx
        have t2 : (x3 != 0) = true := by simpa using hx
        clear hx hz
        go_wp2_with fail
        refine c3.mono ?_
        rintro e w' ⟨rfl, rfl⟩
        go_wp2
        go_ret
        exact ⟨by rw [hR.out]; first | done | rfl, HBEL.out⟩
    · have hR : Hid (R = 0) := by rw [Hid, hcv.out, if_neg (by rw [hz.out.1 (by omega)]; simp), if_neg (by rw [hz.out.2.1 (by omega)]; simp)]; exact hz.out.2.2 (by omega)
      clear hz
      go_wp2
      go_ret
      exact ⟨by rw [hR.out]; first | done | rfl, HBEL.out⟩
theorem less_any (a b : Card) (w : World) : Calls Tryd.prog 16 #[.agg (cellsC a), .agg (cellsC b)] w (BoolPost w (lessC a b)) := by
  have c := fun W => compare_any a b W
  have hR : Hid (lessC a b = decide (cmpC a b < 0)) := rfl
  generalize lessC a b = R at *
  generalize cmpC a b = n at *
  obtain ⟨ai, ab, asc, ati, aa, ar⟩ := a
  obtain ⟨bi, bb, bsc, bti, ba, br⟩ := b
  unfold cellsC at c ⊢
  simp only at c ⊢
  have hb0 := Below.refl w.heap.size w
  go_enter Tryd.func16, Tryd.ntmps16
  go_wp2_with fail
  refine (c _).mono ?_
  rintro e w1 ⟨rfl, hb1⟩
  have hb2 : Below w.heap.size w w1 := Below.trans (((Below.refl _ _).alloc (Nat.le_refl _) _).alloc (by simp) _) (hb1.mono (by simp; omega))
  go_wp2
  go_ret
  exact ⟨by rw [hR.out]; first | done | rfl, hb2⟩
end Go.Proofs.YtjcaaiikccnpeaaDoor
