/- The reference's lexer: signs, walked. -/
import Derived.Test.YtjcobjikgakapaaDoorRefLexA
import Derived.Test.YtjcobjikgakapaaDoorLexS
namespace Go.Proofs.YtjcobjikgakapaaDoor
open Go.ChangeShapes Go.WideShapes Go.ChangeAt Go.RowKit Go.Lib
set_option linter.unusedVariables false

theorem sign_form (c : UInt8) (r : List UInt8) : signL (c :: r) = if (c :: r).take 2 ∈ long2 then (c :: r).take 2 else if c ∈ short1 then [c] else [] := by
  unfold signL
  rw [if_neg (show ¬ (c :: r).head? = none by simp)]
  rfl
def longAt : Nat → UInt8
  | 0 => 61
  | 1 => 33
  | 2 => 60
  | _ => 62
set_option maxRecDepth 100000 in
set_option maxHeartbeats 3000000 in
theorem rsigned_lex (l : List UInt8) (a : Nat) (c : UInt8) (r : List UInt8) (w : World) (hd : l.drop a = c :: r) (ha : a < l.length) (hl : l.length ≤ 281474976710000) : Calls Tryd.prog 34 #[.string (bs l), .int .i64 (a : Nat)] w (IntPost w ((signL (c :: r)).length : Nat)) := by
  have hs := bs_size l
  have HS := Lib.hid (sign_form c r)
  have ht2 : ∀ x : UInt8, (c :: r).take 2 = [x, 61] → a + 2 ≤ l.length := by
    intro x hx
    have h1 := congrArg List.length hx
    have h2 := congrArg List.length hd
    simp at h1 h2
    omega
  have HT2 := Lib.hid ht2
  have hg := bs_at l ha
  have hc : l[a] = c := by
    have := List.drop_eq_getElem_cons ha
    rw [hd] at this
    injection this with h _
    exact h.symm
  rw [hc] at hg
  have hx := c.toNat_lt
  have hsl : a + 2 ≤ l.length → Hid (∀ W : World, (Instr.slice 9 (.string (bs l)) (some (.int .i64 (a : Int))) (some (.int .i64 ((a : Int) + 2))) none).run Tryd.prog W = .ok (.string (bs ((c :: r).take 2))) W) := by
    intro h W
    have := slice_any l a (a + 2) (by omega) h (a : Int) ((a : Int) + 2) rfl (by omega) W
    rw [hd, show a + 2 - a = 2 by omega] at this
    exact this
  have HC := Lib.hid hc
  clear ht2 hd hc
  generalize hq : (c :: r).take 2 = q at *
  have tq := bs_toList q
  have HQ := Lib.hid hq
  clear hq
  go_enter Tryd.func34, Tryd.ntmps34
  go_wp2_with fail
  obtain ⟨W, hW⟩ : ∃ W, W = w.alloc (.cells #[.string ⟨#[61, 61]⟩, .string ⟨#[33, 61]⟩, .string ⟨#[60, 61]⟩, .string ⟨#[62, 61]⟩] 9) := ⟨_, rfl⟩
  have g0 : W.heap[w.heap.size]? = some (.cells #[.string ⟨#[61, 61]⟩, .string ⟨#[33, 61]⟩, .string ⟨#[60, 61]⟩, .string ⟨#[62, 61]⟩] 9 (0, 0)) := by rw [hW]; exact heap_alloc_new w _
  have hb0 : Below w.heap.size w W := by rw [hW]; exact (Below.refl _ _).alloc (Nat.le_refl _) _
  rw [← hW]
  clear hW
  have G0 := Lib.hid g0
  clear g0
  go_loopw [6] (fun v wr => ∃ k n : Nat, k ≤ 4 ∧ v = .int .i64 k ∧ wr = W.drewN n ∧ Hid (∀ j, j < k → q ≠ [longAt j, 61])) (fun v _ => 4 - (intOf v).toNat)
  case atStart => exact ⟨0, 0, by omega, rfl, rfl, by unfold Hid; intro j hj; omega⟩
  case round =>
    obtain ⟨k, n, hk, rfl, rfl, HA⟩ := hrel
    by_cases hlt : k < 4
    · have hcell : ∃ s : ByteArray, W.cell? ⟨w.heap.size, k, none⟩ = some (.string s) ∧ s = bs [longAt k, 61] := by
        rcases (by omega : k = 0 ∨ k = 1 ∨ k = 2 ∨ k = 3) with rfl | rfl | rfl | rfl
        all_goals exact ⟨_, by rw [cell_of_row _ _ _ _ _ _ G0.out]; rfl, rfl⟩
      obtain ⟨s, hcell, hse⟩ := hcell
      rw [hse] at hcell
      have tl := bs_toList [longAt k, 61]
      by_cases h2 : a + 2 ≤ l.length
      · have d2 : decide ((a : Int) + 2 ≤ (l.length : Int)) = true := decide_eq_true (by omega)
        have hsl := (hsl h2).out
        by_cases hqe : q = [longAt k, 61]
        · have H : Hid ((signL (c :: r)).length = 2) := by
            unfold Hid
            rw [HS.out, if_pos, hqe]
            · rfl
            · rw [hqe]
              rcases (by omega : k = 0 ∨ k = 1 ∨ k = 2 ∨ k = 3) with rfl | rfl | rfl | rfl <;> decide
          have e1 : (q == [longAt k, 61]) = true := beq_iff_eq.2 hqe
          clear HS HT2 HQ HA hqe hse
          generalize [longAt k, 61] = lk at *
          go_wp2_with fail
          go_quiet (fail)
          go_wp2_with fail
          go_ret
          exact ⟨by rw [H.out]; rfl, below_drewN (below_drewN hb0 _) _⟩
        · have e1 : (q == [longAt k, 61]) = false := beq_eq_false_iff_ne.2 hqe
          have H : Hid (∀ j, j < k + 1 → q ≠ [longAt j, 61]) := by
            intro j hj
            rcases (by omega : j < k ∨ j = k) with h | h
            · exact HA.out j h
            · rw [h]; exact hqe
          clear HS HT2 HQ HA hqe hse
          generalize [longAt k, 61] = lk at *
          go_wp2_with fail
          go_quiet (fail)
          go_wp2_with fail
          go_roundw
          case rel => exact ⟨k + 1, _, by omega, by go_num, by first | rfl | (simp; rfl), H⟩
          case measure => simp [intOf]; omega
      · have d2 : decide ((a : Int) + 2 ≤ (l.length : Int)) = false := decide_eq_false (by omega)
        have H : Hid (∀ j, j < k + 1 → q ≠ [longAt j, 61]) := by
          intro j hj hq
          exact absurd (HT2.out (longAt j) hq) h2
        clear HS HT2 HQ HA hse hsl
        generalize [longAt k, 61] = lk at *
        go_wp2_with fail
        go_quiet (fail)
        go_wp2_with fail
        go_roundw
        case rel => exact ⟨k + 1, _, by omega, by go_num, by first | rfl | (simp; rfl), H⟩
        case measure => simp [intOf]; omega
    · obtain rfl : k = 4 := by omega
      have hno : q ∉ long2 := by
        have h0 := HA.out 0 (by omega)
        have h1 := HA.out 1 (by omega)
        have h2 := HA.out 2 (by omega)
        have h3 := HA.out 3 (by omega)
        simp only [longAt] at h0 h1 h2 h3
        simp [long2, h0, h1, h2, h3]
      have HR : Hid (signL (c :: r) = if c ∈ short1 then [c] else []) := by unfold Hid; rw [HS.out, if_neg hno]
      clear HS HT2 HQ HA hsl hno tq
      go_wp2_with fail
      obtain ⟨w2, hw2⟩ : ∃ w2 : World, w2 = W.drewN n := ⟨_, rfl⟩
      have hbw : Below w.heap.size w w2 := by rw [hw2]; exact below_drewN hb0 _
      rw [← hw2]
      clear hw2
      go_loopw [8] (fun v wr => ∃ i m : Nat, i ≤ 12 ∧ v = .int .i64 i ∧ wr = w2.drewN m ∧ Hid (∀ j, j < i → short1[j]? ≠ some c)) (fun v _ => 12 - (intOf v).toNat)
      case atStart => exact ⟨0, 0, by omega, rfl, rfl, by unfold Hid; intro j hj; omega⟩
      case round =>
        obtain ⟨i, m, hi, rfl, rfl, HA⟩ := hrel
        by_cases hlt : i < 12
        · have hlt' : i < short1.length := hlt
          have hgs : ∀ h, (({ data := #[40, 41, 44, 58, 61, 60, 62, 43, 45, 42, 47, 37] } : ByteArray)[i]'h).toNat = (short1[i]'hlt').toNat := bs_at short1 hlt'
          have hys := (short1[i]'hlt').toNat_lt
          have hsi : short1[i]? = some (short1[i]'hlt') := List.getElem?_eq_getElem hlt'
          have hmem : (short1[i]'hlt') ∈ short1 := List.getElem_mem hlt'
          have HE := Lib.hid (u8_eq c (short1[i]'hlt'))
          obtain ⟨y, hy⟩ : ∃ y, short1[i]'hlt' = y := ⟨_, rfl⟩
          rw [hy] at hgs hys hsi hmem HE
          clear hy
          by_cases hcy : c.toNat = y.toNat
          · have H : Hid ((signL (c :: r)).length = 1) := by
              unfold Hid
              rw [HR.out, if_pos (by rw [HE.out.2 hcy]; exact hmem)]
              rfl
            have e1 : ((c.toNat : Int) == (y.toNat : Int)) = true := beq_iff_eq.2 (by omega)
            clear HR HA HE hsi hmem
            generalize c.toNat = x at *
            generalize y.toNat = z at *
            clear hcy
            go_wp2_with fail
            go_quiet (fail)
            go_wp2_with fail
            go_ret
            exact ⟨by rw [H.out]; rfl, below_drewN (below_drewN hbw _) _⟩
          · have H : Hid (∀ j, j < i + 1 → short1[j]? ≠ some c) := by
              intro j hj
              rcases (by omega : j < i ∨ j = i) with h | h
              · exact HA.out j h
              · rw [h, hsi]
                intro he
                injection he with he
                exact hcy (by rw [he])
            have e1 : ((c.toNat : Int) == (y.toNat : Int)) = false := beq_eq_false_iff_ne.2 (by omega)
            clear HR HA HE hsi hmem
            generalize c.toNat = x at *
            generalize y.toNat = z at *
            clear hcy
            go_wp2_with fail
            go_quiet (fail)
            go_wp2_with fail
            go_roundw
            case rel => exact ⟨i + 1, _, by omega, by go_num, by first | rfl | (simp; rfl), H⟩
            case measure => simp [intOf]; omega
        · obtain rfl : i = 12 := by omega
          have H : Hid ((signL (c :: r)).length = 0) := by
            unfold Hid
            rw [HR.out, if_neg]
            · rfl
            · intro hm
              obtain ⟨j, hj, he⟩ := List.getElem_of_mem hm
              exact HA.out j hj (by rw [List.getElem?_eq_getElem hj, he])
          clear HR HA
          go_wp2_with fail
          go_ret
          exact ⟨by rw [H.out]; rfl, below_drewN hbw _⟩
end Go.Proofs.YtjcobjikgakapaaDoor
