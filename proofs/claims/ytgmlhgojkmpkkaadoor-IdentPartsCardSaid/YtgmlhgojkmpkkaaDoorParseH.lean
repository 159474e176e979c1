/- Parse, and the reference's; ids in order, and the reference's. -/
import Derived.Test.YtgmlhgojkmpkkaaDoorRefNames
import Derived.Test.YtgmlhgojkmpkkaaDoorRHex
namespace Go.Proofs.YtgmlhgojkmpkkaaDoor
open Go.ChangeShapes Go.WideShapes Go.ChangeAt Go.RowKit Go.Lib
set_option linter.unusedVariables false

/-- three results: a text, a number, whether -/
def pr3 (o : Option (List UInt8 × Int)) : Value := .tuple #[.string (bs (o.getD ([], 0)).1), .int .i64 (o.getD ([], 0)).2, .bool o.isSome]
/-- what ident's rows list, as the walks want it -/
structure LaidI (w : World) : Prop where
  base : Laid w
  mx : ∃ m : Int, w.cell? ⟨2, 0, none⟩ = some (.int .i64 m)
theorem LaidI.below {w w' : World} (h : LaidI w) (hb : Below w.heap.size w w') : LaidI w' := by
  obtain ⟨m, hm⟩ := h.mx
  exact ⟨h.base.below hb, m, by rw [hb.cell (World.block_lt_of_cell? w _ hm)]; exact hm⟩
def Pr3Post (w : World) (o : Option (List UInt8 × Int)) (e : Ending) (w' : World) : Prop := e = .returned (pr3 o) ∧ Below w.heap.size w w'
theorem cut_any (l : List UInt8) (w : World) (hl : l.length ≤ 281474976) (hL : LaidI w) : Calls Tryd.prog 25 #[.string (bs l), .string ⟨#[64]⟩] w (fun e w' => e = .returned (.tuple #[.string (bs (Lib.cut l [64]).1), .string (bs (Lib.cut l [64]).2.1), .bool (Lib.cut l [64]).2.2]) ∧ Below w.heap.size w w') := by
  obtain ⟨m, hm⟩ := hL.mx
  refine (Tryd.strings_Cut (bs l) ⟨#[64]⟩ m w (by rw [bs_size]; omega) hm).mono ?_
  rintro e w' ⟨rfl, n, rfl⟩
  rw [bs_data]
  exact ⟨rfl, below_drewN (Below.refl _ _) n⟩
theorem cut_len (l : List UInt8) : (Lib.cut l [64]).1.length ≤ l.length ∧ (Lib.cut l [64]).2.1.length ≤ l.length := by
  by_cases hm : (64 : UInt8) ∈ l
  · obtain ⟨a, b, ha, rfl⟩ := split_mem hm
    rw [cut_at _ ha]
    simp
    omega
  · rw [cut_no hm]
    simp
set_option maxRecDepth 100000 in
set_option maxHeartbeats 1000000 in
theorem parse_h (l : List UInt8) (w : World) (hl : l.length ≤ 281474976) (hL : LaidI w) : Calls Tryd.prog 10 #[.string (bs l)] w (Pr3Post w (parseH l)) := by
  have cc := cut_any l w hl hL
  have hlen := cut_len l
  have hP : Hid (parseH l = if (Lib.cut l [64]).2.2 = true ∧ nameB (Lib.cut l [64]).1 = true then (parseI (Lib.cut l [64]).2.1 0 19).map fun i => ((Lib.cut l [64]).1, i) else none) := rfl
  generalize parseH l = R at *
  generalize (Lib.cut l [64]).1 = n at *
  generalize (Lib.cut l [64]).2.1 = t at *
  generalize (Lib.cut l [64]).2.2 = f at *
  have cp := fun (W : World) (hW : LaidI W) => parse_any t 0 19 W (by omega) hW.base
  have cn := fun W => name_any n W (by omega)
  cases hf : f with
  | false =>
    have hR : Hid (R = none) := by rw [Hid, hP.out, hf]; rfl
    subst hf
    clear hP
    generalize parseI t 0 19 = o at *
    generalize o.isSome = q at *
    generalize o.getD 0 = m at *
    go_enter Tryd.func10, Tryd.ntmps10
    go_wp2_with fail
    refine cc.mono ?_
    rintro e w1 ⟨rfl, hb1⟩
    go_wp2_with fail
    refine (cp _ (hL.below hb1)).mono ?_
    rintro e w2 ⟨rfl, hb2⟩
    go_wp2
    go_ret3
    exact ⟨by rw [hR.out]; rfl, hb1.trans (hb2.mono hb1.size)⟩
  | true =>
    subst hf
    cases ho : parseI t 0 19 with
    | none =>
      have hR : Hid (R = none) := by rw [Hid, hP.out, ho]; simp
      rw [ho] at cp
      clear hP
      go_enter Tryd.func10, Tryd.ntmps10
      go_wp2_with fail
      refine cc.mono ?_
      rintro e w1 ⟨rfl, hb1⟩
      go_wp2_with fail
      refine (cp _ (hL.below hb1)).mono ?_
      rintro e w2 ⟨rfl, hb2⟩
      go_wp2
      go_ret3
      exact ⟨by rw [hR.out]; rfl, hb1.trans (hb2.mono hb1.size)⟩
    | some m =>
      rw [ho] at cp
      cases hn : nameB n with
      | false =>
        have hR : Hid (R = none) := by rw [Hid, hP.out, hn]; rfl
        rw [hn] at cn
        clear hP ho hn
        go_enter Tryd.func10, Tryd.ntmps10
        go_wp2_with fail
        refine cc.mono ?_
        rintro e w1 ⟨rfl, hb1⟩
        go_wp2_with fail
        refine (cp _ (hL.below hb1)).mono ?_
        rintro e w2 ⟨rfl, hb2⟩
        go_wp2_with fail
        refine (cn _).mono ?_
        rintro e w3 ⟨rfl, hb3⟩
        go_wp2
        go_ret3
        exact ⟨by rw [hR.out]; rfl, (hb1.trans (hb2.mono hb1.size)).trans (hb3.mono (Nat.le_trans hb1.size hb2.size))⟩
      | true =>
        have hR : Hid (R = some (n, m)) := by rw [Hid, hP.out, hn, ho]; rfl
        rw [hn] at cn
        clear hP ho hn
        go_enter Tryd.func10, Tryd.ntmps10
        go_wp2_with fail
        refine cc.mono ?_
        rintro e w1 ⟨rfl, hb1⟩
        go_wp2_with fail
        refine (cp _ (hL.below hb1)).mono ?_
        rintro e w2 ⟨rfl, hb2⟩
        go_wp2_with fail
        refine (cn _).mono ?_
        rintro e w3 ⟨rfl, hb3⟩
        go_wp2
        go_ret3
        exact ⟨by rw [hR.out]; rfl, (hb1.trans (hb2.mono hb1.size)).trans (hb3.mono (Nat.le_trans hb1.size hb2.size))⟩
set_option maxRecDepth 100000 in
set_option maxHeartbeats 1000000 in
theorem rparse_h (l : List UInt8) (w : World) (hl : l.length ≤ 281474976) : Calls Tryd.prog 11 #[.string (bs l)] w (Same (pr3 (parseH l)) w) := by
  have hs := bs_size l
  go_enter Tryd.func11, Tryd.ntmps11
  go_wp2
  go_loop [5, 6] (fun v5 v6 => ∃ k : Nat, k ≤ 20 ∧ v5 = .int .i64 k ∧ Hid (∀ i, i < k → ¬ tryB l i)) (fun v _ => 20 - (intOf v).toNat)
  case atStart => exact ⟨0, by omega, rfl, fun i hi => absurd hi (by omega)⟩
  case round =>
    obtain ⟨k, hk, rfl, hno⟩ := hrel
    by_cases hlt : k < 20
    · have ct := fun W => rtext_any (k : Int) W ⟨by omega, by omega⟩
      have hil := itoa_length (n := (k : Int)) (by omega) (by omega)
      have z3 := bs_size (itoa (k : Int))
      have htry : Hid (tryB l k ↔ 0 < (l.length : Int) - (itoa (k : Int)).length - 1 ∧ handleL (l.take ((l.length : Int) - (itoa (k : Int)).length - 1).toNat) k = l) := Iff.rfl
      have hgot : Hid (tryB l k → parseH l = some (l.take ((l.length : Int) - (itoa (k : Int)).length - 1).toNat, (k : Int))) := try_parse
      generalize itoa (k : Int) = t at *
      obtain ⟨tl, htl⟩ : ∃ tl, t.length = tl := ⟨_, rfl⟩
      rw [htl] at z3 htry hgot hil
      clear htl
      have i1 : IntKind.i64.wrap ((l.length : Int) - (tl : Int)) = (l.length : Int) - (tl : Int) := IntWalk.i64_in _ (by omega)
      have i2 : IntKind.i64.wrap ((l.length : Int) - (tl : Int) - 1) = (l.length : Int) - (tl : Int) - 1 := IntWalk.i64_in _ (by omega)
      by_cases hpos : 0 < (l.length : Int) - (tl : Int) - 1
      · obtain ⟨n, hn⟩ : ∃ n : Nat, (l.length : Int) - (tl : Int) - 1 = n := ⟨((l.length : Int) - (tl : Int) - 1).toNat, by omega⟩
        have hnl : n ≤ l.length := by omega
        have hsl := fun W => slice_to l n hnl (n : Int) rfl W
        have hn0 : 0 < (n : Int) := by omega
        have htl2 := bs_toList l
        have cr := fun W => rhandle_any (l.take n) (k : Int) W (by rw [List.length_take]; omega) ⟨by omega, by omega⟩
        have htl3 := bs_toList (handleL (l.take n) k)
        rw [hn] at htry hgot i2
        rw [Int.toNat_natCast] at htry hgot
        have hxE : (bs l).extract 0 (l.length - tl - 1) = bs (l.take n) := by rw [bs_extract, Nat.sub_zero, List.drop_zero, show l.length - tl - 1 = n by omega]
        have hxE2 : (bs l).extract 0 n = bs (l.take n) := by rw [bs_extract, Nat.sub_zero, List.drop_zero]
        clear hpos
        by_cases hT : handleL (l.take n) k = l
        · have hR : Hid (parseH l = some (l.take n, (k : Int))) := hgot.out (htry.out.2 ⟨by omega, hT⟩)
          rw [hT] at cr htl3
          have heq : (l == l) = true := by simp
          clear hT hgot htry
          generalize l.take n = p at *
          have hinn : IntKind.i64.wrap (n : Int) = (n : Int) := IntWalk.i64_in _ (by omega)
          go_wp2_with fail
          refine (ct _).mono ?_
          rintro e w' ⟨rfl, rfl⟩
          go_wp2_with fail
          (with_reducible refine (cr _).mono ?_)
          rintro e w' ⟨rfl, rfl⟩
          go_wp2
          go_ret3
          exact ⟨by rw [hR.out]; rfl, rfl⟩
        · have hN : Hid (¬ tryB l k) := fun h => hT (htry.out.1 h).2
          have heq : (handleL (l.take n) k == l) = false := by simpa using hT
          have hno2 : Hid (∀ i, i < k + 1 → ¬ tryB l i) := fun i hi => by
            by_cases e : i = k
            · rw [e]; exact hN.out
            · exact hno.out i (by omega)
          clear hT hgot htry hN hno
          generalize handleL (l.take n) k = hh at *
          generalize l.take n = p at *
          have hinn : IntKind.i64.wrap (n : Int) = (n : Int) := IntWalk.i64_in _ (by omega)
          go_wp2_with fail
          refine (ct _).mono ?_
          rintro e w' ⟨rfl, rfl⟩
          go_wp2_with fail
          (with_reducible refine (cr _).mono ?_)
          rintro e w' ⟨rfl, rfl⟩
          go_wp2
          go_round
          case rel => exact ⟨k + 1, by omega, by go_num, hno2⟩
          case measure => simp [intOf]; omega
      · have hN : Hid (¬ tryB l k) := fun h => hpos (htry.out.1 h).1
        have hno2 : Hid (∀ i, i < k + 1 → ¬ tryB l i) := fun i hi => by
          by_cases e : i = k
          · rw [e]; exact hN.out
          · exact hno.out i (by omega)
        have dpos : decide (0 < (l.length : Int) - (tl : Int) - 1) = false := decide_eq_false hpos
        obtain ⟨z, hz⟩ : ∃ z : Int, (l.length : Int) - (tl : Int) - 1 = z := ⟨_, rfl⟩
        rw [hz] at dpos i2 hpos
        have hz0 : z ≤ 0 := by omega
        clear hgot htry hN hno hpos
        go_wp2_with fail
        refine (ct _).mono ?_
        rintro e w' ⟨rfl, rfl⟩
        go_wp2
        go_round
        case rel => exact ⟨k + 1, by omega, by go_num, hno2⟩
        case measure => simp [intOf]; omega
    · have hR : Hid (parseH l = none) := by
        unfold Hid
        cases hp : parseH l with
        | none => rfl
        | some p =>
          obtain ⟨n, j⟩ := p
          have h1 := parse_try hp
          obtain ⟨_, _, h3, h4⟩ := handle_parse hp
          exact absurd h1 (hno.out j.toNat (by omega))
      go_wp2
      go_ret3
      exact ⟨by rw [hR.out]; rfl, rfl⟩
end Go.Proofs.YtgmlhgojkmpkkaaDoor
