/- small, walked: it answers true. -/
import Derived.Test.YtjcobjikgakapaaDoorLexWr
namespace Go.Proofs.YtjcobjikgakapaaDoor
open Go.ChangeShapes Go.WideShapes Go.ChangeAt Go.RowKit Go.Lib
set_option linter.unusedVariables false

theorem itoa_small {m : Nat} (h : m < 10) : itoa (m : Int) = [UInt8.ofNat (48 + m)] := by rw [itoa_nonneg, decDigits, dif_pos h]
theorem parse_two : parseI [50] 0 1125899906842624 = some 2 := parse_of (m := 2) (itoa_small (m := 2) (by decide)) (by unfold wf64; decide) (by decide) (by decide)
theorem parse_07 : parseI [48, 55] 0 1125899906842624 = none := by
  have h1 : Lib.atoiAll [48, 55] = .ok 7 := by rfl
  unfold parseI
  rw [h1]
  simp only
  rw [if_neg]
  rintro ⟨h, _⟩
  have h7 := itoa_small (m := 7) (by decide)
  rw [show ((7 : Nat) : Int) = 7 from rfl] at h7
  rw [h7] at h
  simp at h
theorem tok_two (k : Nat) : sc k [50] = .ok [⟨1, [], 2, (k : Nat)⟩, ⟨4, [], 0, ((k + 1 : Nat) : Int)⟩] := by
  have ht : tokF [50] = some (⟨1, [], 2, 0⟩, 1) := by
    show (parseI [50] 0 1125899906842624).map _ = _
    rw [parse_two]; rfl
  rw [sc_some k [] (c := 50) (by rfl) ht]
  rfl
theorem scan1 : scanR [119, 104, 101, 110, 32, 108, 105, 107, 101, 115, 62, 61, 50] = ([⟨0, [119, 104, 101, 110], 0, 0⟩, ⟨0, [108, 105, 107, 101, 115], 0, 5⟩, ⟨3, [62, 61], 0, 10⟩, ⟨1, [], 2, 12⟩, ⟨4, [], 0, 13⟩], 0, 0) := by
  have e : sc 0 [119, 104, 101, 110, 32, 108, 105, 107, 101, 115, 62, 61, 50] = .ok [⟨0, [119, 104, 101, 110], 0, 0⟩, ⟨0, [108, 105, 107, 101, 115], 0, 5⟩, ⟨3, [62, 61], 0, 10⟩, ⟨1, [], 2, 12⟩, ⟨4, [], 0, 13⟩] := by
    rw [sc_some 0 _ (t := ⟨0, [119, 104, 101, 110], 0, 0⟩) (n := 4) (by rfl) (by rfl)]
    show ((sc 4 [32, 108, 105, 107, 101, 115, 62, 61, 50]).push _) = _
    rw [sc_sp 4 _ (by rfl), sc_some 5 _ (t := ⟨0, [108, 105, 107, 101, 115], 0, 0⟩) (n := 5) (by rfl) (by rfl)]
    show (((sc 10 [62, 61, 50]).push _).push _) = _
    rw [sc_some 10 _ (t := ⟨3, [62, 61], 0, 0⟩) (n := 2) (by rfl) (by rfl)]
    show ((((sc 12 [50]).push _).push _).push _) = _
    rw [tok_two]
    rfl
  unfold scanR
  rw [if_neg (by decide), e]
theorem scan2 : scanR [97, 32, 33, 32, 98] = ([], 2, 2) := by rfl
theorem scan3 : scanR [48, 55] = ([], 2, 0) := by
  have ht : tokF [48, 55] = none := by
    show (parseI [48, 55] 0 1125899906842624).map _ = _
    rw [parse_07]; rfl
  have e : sc 0 [48, 55] = .err 0 := sc_none 0 _ (by rfl) ht
  unfold scanR
  rw [if_neg (by decide), e]
  rfl
theorem scan4 : scanR [34, 120] = ([], 2, 0) := by rfl
theorem scan5 : scanR [120, 32, 89] = ([], 2, 2) := by rfl
theorem scan6 : scanR [104, 105, 100, 101, 32, 34, 115, 112, 97, 109, 34] = ([⟨0, [104, 105, 100, 101], 0, 0⟩, ⟨2, [115, 112, 97, 109], 0, 5⟩, ⟨4, [], 0, 11⟩], 0, 0) := by rfl
theorem write6 : writeL [⟨0, [104, 105, 100, 101], 0, 0⟩, ⟨2, [115, 112, 97, 109], 0, 5⟩, ⟨4, [], 0, 11⟩] = [104, 105, 100, 101, 32, 34, 115, 112, 97, 109, 34] := by rfl
def ScanO (ts : List Tok) (r k : Int) (w : World) (e : Ending) (w' : World) : Prop := ∃ a c, e = .returned (.tuple #[.slice a ts.length c, .int .i64 r, .int .i64 k]) ∧ TokR w' a ts ∧ Below w.heap.size w w'
theorem scan_c {l : List UInt8} {R : List Tok × Int × Int} (h : scanR l = R) (hl : l.length ≤ 100) (W : World) (hW : Laid W) : Calls Tryd.prog 10 #[.string (bs l)] W (ScanO R.1 R.2.1 R.2.2 W) := by
  refine (scan_any l W (by omega) hW).mono ?_
  intro e w' hp
  rw [h] at hp
  exact scan_open hp
set_option maxRecDepth 100000 in
set_option maxHeartbeats 2000000 in
theorem small_any (w : World) (hL : Laid w) : Calls Tryd.prog 9 #[] w (BoolPost w true) := by
  have c1 := fun W hW => scan_c scan1 (by decide) W hW
  have c2 := fun W hW => scan_c scan2 (by decide) W hW
  have c3 := fun W hW => scan_c scan3 (by decide) W hW
  have c4 := fun W hW => scan_c scan4 (by decide) W hW
  have c5 := fun W hW => scan_c scan5 (by decide) W hW
  have c6 := fun W hW => scan_c scan6 (by decide) W hW
  have hb0 := Below.refl w.heap.size w
  go_enter Tryd.func9, Tryd.ntmps9
  go_wp2_with fail
  refine (Calls.mono (c1 _ (hL.below hb0)) ?_)
  rintro e w1 ⟨A1, C1, rfl, hT1, hbx⟩
  have hb1 := hb0.trans (hbx.mono hb0.size)
  clear hbx hb0 c1
  go_wp2_with fail
  refine (Calls.mono (c2 _ (hL.below hb1)) ?_)
  rintro e w2 ⟨A2, C2, rfl, hT2, hbx⟩
  have hb2 := hb1.trans (hbx.mono hb1.size)
  replace hT1 := hT1.below hbx
  clear hbx hb1 c2
  go_wp2_with fail
  refine (Calls.mono (c3 _ (hL.below hb2)) ?_)
  rintro e w3 ⟨A3, C3, rfl, hT3, hbx⟩
  have hb3 := hb2.trans (hbx.mono hb2.size)
  replace hT1 := hT1.below hbx
  clear hbx hb2 c3
  go_wp2_with fail
  refine (Calls.mono (c4 _ (hL.below hb3)) ?_)
  rintro e w4 ⟨A4, C4, rfl, hT4, hbx⟩
  have hb4 := hb3.trans (hbx.mono hb3.size)
  replace hT1 := hT1.below hbx
  clear hbx hb3 c4
  go_wp2_with fail
  refine (Calls.mono (c5 _ (hL.below hb4)) ?_)
  rintro e w5 ⟨A5, C5, rfl, hT5, hbx⟩
  have hb5 := hb4.trans (hbx.mono hb4.size)
  replace hT1 := hT1.below hbx
  clear hbx hb4 c5
  go_wp2_with fail
  refine (Calls.mono (c6 _ (hL.below hb5)) ?_)
  rintro e w6 ⟨A6, C6, rfl, hT6, hbx⟩
  have hb6 := hb5.trans (hbx.mono hb5.size)
  replace hT1 := hT1.below hbx
  clear hbx hb5 c6
  obtain ⟨g, o, rfl, hg, a00, a01, a02, a03⟩ := hT1 0 _ rfl
  obtain ⟨g2, o2, e2, _, a20, a21, a22, a23⟩ := hT1 2 _ rfl
  obtain ⟨g3, o3, e3, _, a30, a31, a32, a33⟩ := hT1 3 _ rfl
  obtain ⟨g4, o4, e4, _, a40, a41, a42, a43⟩ := hT1 4 _ rfl
  injection e2 with e2; injection e2 with e2 e2' _; subst e2; subst e2'
  injection e3 with e3; injection e3 with e3 e3' _; subst e3; subst e3'
  injection e4 with e4; injection e4 with e4 e4' _; subst e4; subst e4'
  have HT6 := Lib.hid hT6
  obtain ⟨h, p, rfl, hh, b10, b11, b12, b13⟩ := hT6 1 _ rfl
  clear hT1 hT2 hT3 hT4 hT5 hT6
  simp only [Nat.zero_mul, Nat.add_zero, Nat.one_mul, Nat.reduceMul] at a00 a01 a02 a03 a20 a21 a22 a23 a30 a31 a32 a33 a40 a41 a42 a43 b10 b11 b12 b13
  replace a01 : w6.cell? ⟨g, o + 1, none⟩ = some (.string ⟨#[119, 104, 101, 110]⟩) := a01
  replace a21 : w6.cell? ⟨g, o + 8 + 1, none⟩ = some (.string ⟨#[62, 61]⟩) := a21
  replace a31 : w6.cell? ⟨g, o + 12 + 1, none⟩ = some (.string ⟨#[]⟩) := a31
  replace a41 : w6.cell? ⟨g, o + 16 + 1, none⟩ = some (.string ⟨#[]⟩) := a41
  replace b11 : w6.cell? ⟨h, p + 4 + 1, none⟩ = some (.string ⟨#[115, 112, 97, 109]⟩) := b11
  have cW : Calls Tryd.prog 13 #[.slice (some ⟨h, p, none⟩) 3 C6] w6 (fun e w' => e = .returned (.string ⟨#[104, 105, 100, 101, 32, 34, 115, 112, 97, 109, 34]⟩) ∧ Below w6.heap.size w6 w') := by
    have c := write_any (some ⟨h, p, none⟩) 3 C6 _ w6 HT6.out rfl (by decide) (by intro t ht; simp at ht; rcases ht with rfl | rfl | rfl <;> exact ⟨by unfold wf64; decide, by decide⟩) (hL.below hb6) (by rw [write6]; decide)
    rw [write6] at c
    exact c
  go_wp2_with fail
  refine (Calls.mono cW ?_)
  rintro e w7 ⟨rfl, hbx⟩
  have hb7 := hb6.trans (hbx.mono hb6.size)
  clear hbx hb6 cW
  go_wp2
  go_ret
  exact ⟨rfl, hb7⟩
end Go.Proofs.YtjcobjikgakapaaDoor
