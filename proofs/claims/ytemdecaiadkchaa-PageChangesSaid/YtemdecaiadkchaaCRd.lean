/- The reader's Num, walked. -/
import Derived.Test.YtemdecaiadkchaaCNum2
import Derived.Test.YtemdecaiadkchaaCRdModel
import Derived.IntWalk
import Derived.Laws.BitsAllLaws
import Derived.Laws.BitsLemmas
namespace Go.Proofs.Ytemdecaiadkchaa
open Go.ChangeShapes Go.WideShapes Go.ChangeAt Go.RowKit Go.Lib
set_option linter.unusedVariables false


/-- a reader lies at block p -/
def RdAt (w : World) (p t : Nat) (r : Rd) : Prop := w.heap[p]? = some (.cells #[.string (bs r.rest), .bool r.bad] t (0, 0))
theorem RdAt.c0 {w : World} {p t : Nat} {r : Rd} (h : RdAt w p t r) : w.cell? ⟨p, 0, none⟩ = some (.string (bs r.rest)) := by rw [cell_row h]; rfl
theorem RdAt.c1 {w : World} {p t : Nat} {r : Rd} (h : RdAt w p t r) : w.cell? ⟨p, 1, none⟩ = some (.bool r.bad) := by rw [cell_row h]; rfl
theorem RdAt.f0 {w : World} {p t : Nat} {r : Rd} (h : RdAt w p t r) (j : Nat) : w.frozen? ⟨p, j, none⟩ = false := frozen_row h j
theorem RdAt.lt {w : World} {p t : Nat} {r : Rd} (h : RdAt w p t r) : p < w.heap.size := lt_of_heap h
theorem RdAt.set0 {w : World} {p t : Nat} {r : Rd} (h : RdAt w p t r) (l : List UInt8) : RdAt (w.setCell ⟨p, 0, none⟩ (.string (bs l))) p t ⟨l, r.bad⟩ := by
  unfold RdAt at *
  rw [set_row h]; rfl
theorem RdAt.set1 {w : World} {p t : Nat} {r : Rd} (h : RdAt w p t r) (b : Bool) : RdAt (w.setCell ⟨p, 1, none⟩ (.bool b)) p t ⟨r.rest, b⟩ := by
  unfold RdAt at *
  rw [set_row h]; rfl
theorem RdAt.below {w w' : World} {p t : Nat} {r : Rd} (h : RdAt w p t r) (hb : Below w.heap.size w w') : RdAt w' p t r := (hb.block p h.lt).trans h
/-- what a reader's call leaves -/
def RdPost (w : World) (p t : Nat) (v : Value) (r : Rd) (e : Ending) (w' : World) : Prop := e = .returned v ∧ RdAt w' p t r ∧ Chg [p] w w'
def ptr (p : Nat) : Value := .pointer (some ⟨p, 0, none⟩)

theorem fail_any (p : Nat) (r : Rd) (w : World) (h : RdAt w p 58 r) : Calls Try.prog 31 #[.pointer (some ⟨p, 0, none⟩)] w (fun e w' => e = .returned (.tuple #[]) ∧ RdAt w' p 58 Rd.fail ∧ Chg [p] w w') := by
  have h0 := h.c0
  have hs := bs_size r.rest
  have hf0 := h.f0 0
  have h1 := (h.set0 []).c1
  have hf1 := (h.set0 []).f0 1
  have he : bs [] = ⟨#[]⟩ := rfl
  rw [he] at h1 hf1
  go_enter Try.func31, Try.ntmps31
  go_wp2
  go_end0
  refine ⟨rfl, ?_, ?_⟩
  · exact ((h.set0 []).set1 true)
  · exact ((Chg.refl _ _).setCell (by simp) _).setCell (by simp) _
theorem ofInt_i64 (a : Nat) (ha : a < 9223372036854775808) : (BitVec.ofInt 64 (a : Int)).toNat = a := by
  rw [BitVec.ofInt_natCast, BitVec.toNat_ofNat]; exact Nat.mod_eq_of_lt (by omega)
theorem i64_or_nat (a b : Nat) (ha : a < 9223372036854775808) (hb : b < 9223372036854775808) : bits .or .i64 (a : Int) (b : Int) = ((a ||| b : Nat) : Int) := by
  have hx : a ||| b < 2 ^ 63 := Nat.or_lt_two_pow (by omega) (by omega)
  show IntKind.i64.wrap ((BitVec.ofInt 64 (a : Int) ||| BitVec.ofInt 64 (b : Int)).toNat : Int) = _
  rw [BitVec.toNat_or, ofInt_i64 a ha, ofInt_i64 b hb, IntKind.wrap_i64]
  omega
theorem pow7 (i : Nat) : 2 ^ (7 * i) = 128 ^ i := by rw [Nat.pow_mul]
theorem or_shift (m x i : Nat) (hm : m < 128 ^ i) (hx : x < 128) (hi : i < 9) : bits .or .i64 (m : Int) (wrap64 ((x : Int) * 2 ^ (7 * i))) = ((m + x * 128 ^ i : Nat) : Int) := by
  have h8 : 128 ^ i ≤ 128 ^ 8 := Nat.pow_le_pow_right (by omega) (by omega)
  have h1 : x * 128 ^ i ≤ 127 * 128 ^ i := Nat.mul_le_mul_right _ (by omega)
  have e : (x : Int) * 2 ^ (7 * i) = ((x * 128 ^ i : Nat) : Int) := by rw [← pow7]; simp
  rw [e]
  have hw : wrap64 ((x * 128 ^ i : Nat) : Int) = ((x * 128 ^ i : Nat) : Int) := by unfold wrap64; omega
  rw [hw, i64_or_nat _ _ (by omega) (by omega)]
  congr 1
  rw [← pow7] at hm ⊢
  rw [Nat.or_comm, Nat.mul_comm x, ← Nat.two_pow_add_eq_or_of_lt hm, Nat.add_comm]
set_option maxRecDepth 100000 in
theorem num_rd (p : Nat) (r : Rd) (w : World) (h : RdAt w p 58 r) (hl : r.rest.length ≤ 1000000000) : Calls Try.prog 20 #[.pointer (some ⟨p, 0, none⟩)] w (RdPost w p 58 (.int .i64 r.num.1) r.num.2) := by
  have h0 := h.c0
  have hs := bs_size r.rest
  go_enter Try.func20, Try.ntmps20
  go_wp2
  go_loop [3, 4] (fun v0 v1 => ∃ (m i : Nat), v0 = .int .i64 m ∧ v1 = .int .i64 i ∧ i ≤ 9 ∧ i ≤ r.rest.length ∧ m < 128 ^ i ∧ takeNum 9 0 0 r.rest = takeNum (9 - i) i m (r.rest.drop i)) (fun _ v1 => 9 - (intOf v1).toNat)
  case atStart => exact ⟨0, 0, rfl, rfl, by omega, by omega, by omega, rfl⟩
  case round =>
    obtain ⟨m, i, rfl, rfl, hi, hil, hm, htk⟩ := hrel
    have HM := Lib.hid hm
    have HTK := Lib.hid htk
    clear hm htk
    by_cases hc1 : i < r.rest.length
    · by_cases hc2 : i < 9
      · obtain ⟨d, hd⟩ : ∃ d, r.rest[i]? = some d := ⟨_, List.getElem?_eq_getElem hc1⟩
        have hg : ∀ h, ((bs r.rest)[i]'h).toNat = d.toNat := by
          intro h
          simp only [bs]
          rw [List.getElem?_eq_getElem hc1] at hd
          simp at hd
          rw [← hd]; rfl
        have hd8 : d.toNat < 256 := d.toNat_lt
        have HD := Lib.hid hd
        clear hd
        by_cases h128 : 128 ≤ d.toNat
        · obtain ⟨c, hc⟩ : ∃ c, d.toNat = 128 + c := ⟨d.toNat - 128, by omega⟩
          rw [hc] at hg hd8 h128
          go_wp2
          rw [show (128 + (c : Int) - 128) = (c : Int) by omega, or_shift m c i HM.out (by omega) hc2]
          refine ⟨⟨m + c * 128 ^ i, i + 1, rfl, rfl, by omega, by omega, ?_, ?_⟩, by simp [intOf]; omega⟩
          · have hp : 128 ^ (i + 1) = 128 * 128 ^ i := by rw [Nat.pow_succ, Nat.mul_comm]
            have := HM.out
            have h1 : c * 128 ^ i ≤ 127 * 128 ^ i := Nat.mul_le_mul_right _ (by omega)
            omega
          · rw [HTK.out, List.drop_eq_getElem_cons hc1, show 9 - i = (9 - (i + 1)) + 1 by omega]
            have hd := HD.out
            rw [List.getElem?_eq_getElem hc1] at hd
            simp only [Option.some.injEq] at hd
            rw [hd]
            conv => lhs; unfold takeNum
            simp only
            rw [if_pos (by omega), hc]
            simp
        · by_cases hz : d.toNat = 0 ∧ 0 < i
          · have hN : Hid (r.num = (0, Rd.fail)) := by
              unfold Hid Rd.num
              rw [HTK.out, List.drop_eq_getElem_cons hc1, show 9 - i = (9 - (i + 1)) + 1 by omega]
              have hd := HD.out
              rw [List.getElem?_eq_getElem hc1] at hd
              simp only [Option.some.injEq] at hd
              rw [hd]
              unfold takeNum
              simp only
              rw [if_neg (by omega), if_pos hz]
            have cf := fail_any p r w h
            rw [hz.1] at hg
            have hi0 := hz.2
            go_wp2_with (go_at_call 31; refine (cf).mono ?_; rintro e w' ⟨rfl, hb⟩)
            go_ret
            unfold RdPost
            rw [hN.out]
            exact ⟨rfl, hb⟩
          · have hN : Hid (r.num = (m + d.toNat * 128 ^ i, ⟨r.rest.drop (i + 1), r.bad⟩)) := by
              unfold Hid Rd.num
              rw [HTK.out, List.drop_eq_getElem_cons hc1, show 9 - i = (9 - (i + 1)) + 1 by omega]
              have hd := HD.out
              rw [List.getElem?_eq_getElem hc1] at hd
              simp only [Option.some.injEq] at hd
              rw [hd]
              unfold takeNum
              simp only
              rw [if_neg (by omega), if_neg hz]
            have hf0 := h.f0 0
            have hor := or_shift m d.toNat i HM.out (by omega) hc2
            have hex := bs_extract r.rest (i + 1) r.rest.length
            have hta : (r.rest.drop (i + 1)).take (r.rest.length - (i + 1)) = r.rest.drop (i + 1) := List.take_of_length_le (by simp)
            rw [hta] at hex
            have hset := Lib.hid (h.set0 (r.rest.drop (i + 1)))
            have hchg := Lib.hid ((Chg.refl [p] w).setCell (p := ⟨p, 0, none⟩) (by simp) (.string (bs (r.rest.drop (i + 1)))))
            clear hta
            generalize d.toNat = c at *
            by_cases hc0 : c = 0
            · subst hc0
              have hi0 : i = 0 := by omega
              subst hi0
              have hm0 : m = 0 := by have := HM.out; omega
              subst hm0
              clear hor
              go_wp2
              go_ret
              unfold RdPost
              rw [hN.out]
              refine ⟨rfl, ?_, ?_⟩
              · simpa using hset.out
              · simpa using hchg.out
            · go_wp2
              go_ret
              unfold RdPost
              rw [hN.out]
              exact ⟨rfl, hset.out, hchg.out⟩
      · have hi9 : i = 9 := by omega
        subst hi9
        have hN : Hid (r.num = (0, Rd.fail)) := by
          unfold Hid Rd.num
          rw [HTK.out]
          rfl
        have cf := fail_any p r w h
        go_wp2_with (go_at_call 31; refine (cf).mono ?_; rintro e w' ⟨rfl, hb⟩)
        go_ret
        unfold RdPost
        rw [hN.out]
        exact ⟨rfl, hb⟩
    · have hie : i = r.rest.length := by omega
      have hN : Hid (r.num = (0, Rd.fail)) := by
        unfold Hid Rd.num
        rw [HTK.out, hie, List.drop_length]
        cases h9 : 9 - r.rest.length <;> rfl
      have cf := fail_any p r w h
      clear hie
      go_wp2_with (go_at_call 31; refine (cf).mono ?_; rintro e w' ⟨rfl, hb⟩)
      go_ret
      unfold RdPost
      rw [hN.out]
      exact ⟨rfl, hb⟩


end Go.Proofs.Ytemdecaiadkchaa
