/- Ids, walked, and the reference's. -/
import Derived.Test.YtgmlhgojkmpkkaaDoorParseH
import Derived.Test.YtgmlhgojkmpkkaaDoorIdsPure
namespace Go.Proofs.YtgmlhgojkmpkkaaDoor
open Go.ChangeShapes Go.WideShapes Go.ChangeAt Go.RowKit Go.Lib
set_option linter.unusedVariables false

/-- a slice's cells, one a value -/
def RowAt (w : World) (A : Option Addr) (xs : List Value) : Prop := 0 < xs.length → ∃ b o, A = some ⟨b, o, none⟩ ∧ ∀ i x, xs[i]? = some x → w.cell? ⟨b, o + i, none⟩ = some x
theorem RowAt.below {w w' : World} {A : Option Addr} {xs : List Value} (h : RowAt w A xs) (hb : Below w.heap.size w w') : RowAt w' A xs := by
  intro hp
  obtain ⟨b, o, hA, hc⟩ := h hp
  refine ⟨b, o, hA, fun i x hx => ?_⟩
  exact (hb.cell (World.block_lt_of_cell? w _ (hc i x hx))).trans (hc i x hx)
def strs (l : List (List UInt8)) : List Value := l.map fun s => .string (bs s)
theorem strs_length (l : List (List UInt8)) : (strs l).length = l.length := by simp [strs]
theorem strs_get {l : List (List UInt8)} {i : Nat} {x : List UInt8} (h : l[i]? = some x) : (strs l)[i]? = some (.string (bs x)) := by simp [strs, h]
theorem bl_eq (a b : List UInt8) : Op.bytesLess a b = ltB a b := rfl
set_option maxRecDepth 100000 in
set_option maxHeartbeats 1000000 in
theorem ids_any (l : List (List UInt8)) (A : Option Addr) (C : Nat) (w : World) (hl : RowAt w A (strs l)) (hn : l.length ≤ 10000000) (hx : ∀ x, x ∈ l → x.length ≤ 281474976) : Calls Tryd.prog 20 #[.slice A l.length C] w (BoolPost w (idsB l)) := by
  by_cases h64 : 64 < l.length
  · have hR : Hid (idsB l = false) := by unfold Hid idsB; rw [decide_eq_false (by omega)]; rfl
    have d1 : decide (64 < (l.length : Int)) = true := decide_eq_true (by omega)
    clear h64
    go_enter Tryd.func20, Tryd.ntmps20
    go_wp2
    go_ret
    exact ⟨by rw [hR.out]; first | done | rfl, Below.refl _ _⟩
  · have d1 : decide (64 < (l.length : Int)) = false := decide_eq_false (by omega)
    have h64' : l.length ≤ 64 := by omega
    have hI : Hid (idsB l = chainB l) := by unfold Hid idsB; rw [decide_eq_true h64']; rfl
    clear h64
    go_enter Tryd.func20, Tryd.ntmps20
    go_wp2
    go_loopw [10] (fun v wr => ∃ k : Nat, v = .int .i64 k ∧ k ≤ l.length ∧ Hid (chainB (l.take k) = true) ∧ Below w.heap.size w wr) (fun v _ => l.length - (intOf v).toNat)
    case atStart => exact ⟨0, rfl, by omega, rfl, Below.refl _ _⟩
    case round =>
      obtain ⟨k, rfl, hk, hch, hbel⟩ := hrel
      by_cases hlt : k < l.length
      · obtain ⟨b, o, hA, hcell⟩ := (hl.below hbel) (by rw [strs_length]; omega)
        have hc0 := hcell k _ (strs_get (List.getElem?_eq_getElem hlt))
        have hxl := hx (l[k]'hlt) (List.getElem_mem hlt)
        have cr := right_any (l[k]'hlt) wr (by omega)
        have hgood : Hid (rightB (l[k]'hlt) = true → (∀ h0 : 0 < k, ltB (l[k - 1]'(by omega)) (l[k]'hlt) = true) → chainB (l.take (k + 1)) = true) := fun h1 h2 => chain_step hlt hch.out h1 h2
        have hbad : Hid (rightB (l[k]'hlt) = false → chainB l = false) := fun h => chain_bad_right hlt h
        cases hrb : rightB (l[k]'hlt) with
        | false =>
          have hR : Hid (idsB l = false) := by rw [Hid, hI.out]; exact hbad.out hrb
          rw [hrb] at cr
          clear hgood hbad hcell
          generalize (l[k]'hlt) = x at *
          clear hrb
          subst hA
          go_wp2_with fail
          refine cr.mono ?_
          rintro e w3 ⟨rfl, hb3⟩
          go_wp2
          go_ret
          exact ⟨by rw [hR.out]; first | done | rfl, hbel.trans (hb3.mono hbel.size)⟩
        | true =>
          rw [hrb] at cr
          by_cases hk0 : k = 0
          · have hn1 : Hid (chainB (l.take (k + 1)) = true) := hgood.out hrb (fun h => absurd hk0 (by omega))
            have d0 : decide (0 < (k : Int)) = false := decide_eq_false (by omega)
            have d0' : decide (0 < k) = false := decide_eq_false (by omega)
            clear hgood hbad hcell
            generalize (l[k]'hlt) = x at *
            clear hrb hk0
            subst hA
            go_wp2_with fail
            refine cr.mono ?_
            rintro e w3 ⟨rfl, hb3⟩
            go_wp2
            go_roundw
            case rel => exact ⟨k + 1, by go_num, by omega, hn1, hbel.trans (hb3.mono hbel.size)⟩
            case measure => simp [intOf]; omega
          · have hk1 : 0 < k := by omega
            have hlt1 : k - 1 < l.length := by omega
            have hc1 := hcell (k - 1) _ (strs_get (List.getElem?_eq_getElem hlt1))
            have hn1 : Hid (ltB (l[k - 1]'hlt1) (l[k]'hlt) = true → chainB (l.take (k + 1)) = true) := fun h => hgood.out hrb (fun _ => h)
            have hb1 : Hid (ltB (l[k - 1]'hlt1) (l[k]'hlt) = false → idsB l = false) := fun h => by rw [hI.out]; exact chain_bad_lt hlt hk1 h
            have hor := leB_not (l[k]'hlt) (l[k - 1]'hlt1)
            have e1 := bs_toList (l[k]'hlt)
            have e2 := bs_toList (l[k - 1]'hlt1)
            clear hgood hbad hcell
            generalize (l[k]'hlt) = x at *
            generalize (l[k - 1]'hlt1) = y at *
            clear hrb hk0
            subst hA
            have tk : ((k : Int) - 1).toNat = k - 1 := by omega
            have wk : IntKind.i64.wrap ((k : Int) - 1) = (k : Int) - 1 := IntWalk.i64_in _ (by omega)
            have bk : (1 : Int) ≤ (k : Int) := by omega
            have bk2 : (k : Int) - 1 < (l.length : Int) := by omega
            have bk3 : k - 1 < l.length := by omega
            have hc1' : ∀ W, Below wr.heap.size wr W → W.cell? ⟨b, o + (k - 1), none⟩ = some (.string (bs y)) := fun W hW => (hW.cell (World.block_lt_of_cell? wr _ hc1)).trans hc1
            have HC1 := Lib.hid hc1'
            clear hc1' hc1
            cases hly : ltB y x with
            | true =>
              rw [hly] at hor
              have hn2 := Lib.hid (hn1.out hly)
              have hor' := (Bool.or_eq_false_iff).1 hor
              have g1 : Op.bytesLess x y = false := hor'.1
              have g2 : (x == y) = false := hor'.2
              clear hor hor' hly hn1 hb1
              go_wp2_with fail
              refine cr.mono ?_
              rintro e w3 ⟨rfl, hb3⟩
              have hc2 := HC1.out w3 hb3
              go_wp2
              go_roundw
              case rel => exact ⟨k + 1, by go_num, by omega, hn2, hbel.trans (hb3.mono hbel.size)⟩
              case measure => simp [intOf]; omega
            | false =>
              rw [hly] at hor
              have hR := Lib.hid (hb1.out hly)
              have g1 : (Op.bytesLess x y || x == y) = true := hor
              clear hor hly hn1 hb1
              cases g2 : Op.bytesLess x y with
              | true =>
                clear g1
                go_wp2_with fail
                refine cr.mono ?_
                rintro e w3 ⟨rfl, hb3⟩
                have hc2 := HC1.out w3 hb3
                go_wp2
                go_ret
                exact ⟨by rw [hR.out]; first | done | rfl, hbel.trans (hb3.mono hbel.size)⟩
              | false =>
                rw [g2, Bool.false_or] at g1
                go_wp2_with fail
                refine cr.mono ?_
                rintro e w3 ⟨rfl, hb3⟩
                have hc2 := HC1.out w3 hb3
                go_wp2
                go_ret
                exact ⟨by rw [hR.out]; first | done | rfl, hbel.trans (hb3.mono hbel.size)⟩
      · have hR : Hid (idsB l = true) := by
          have := hch.out
          rw [List.take_of_length_le (by omega)] at this
          rw [Hid, hI.out, this]
        go_wp2
        go_ret
        exact ⟨by rw [hR.out]; first | done | rfl, hbel⟩
end Go.Proofs.YtgmlhgojkmpkkaaDoor
