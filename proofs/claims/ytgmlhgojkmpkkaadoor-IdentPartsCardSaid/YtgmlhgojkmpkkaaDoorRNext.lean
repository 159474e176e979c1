/- The reference's state after a block, walked. -/
import Derived.Test.YtgmlhgojkmpkkaaDoorRWords2
namespace Go.Proofs.YtgmlhgojkmpkkaaDoor
open Go.ChangeShapes Go.WideShapes Go.ChangeAt Go.RowKit Go.Lib
set_option linter.unusedVariables false

theorem WRow.base {w : World} {base b2 : Nat} {a : Option Addr} {c : Nat} {l : List Int} (h : WRow w base a c l) (hb : b2 ≤ base) : WRow w b2 a c l := by
  refine ⟨h.1, ?_⟩
  rcases h.2 with hn | ⟨g, cap, cur, hv, hbg, rest⟩
  · exact .inl hn
  · exact .inr ⟨g, cap, cur, hv, by omega, rest⟩
theorem WRow.drewN {w : World} {base : Nat} {a : Option Addr} {c : Nat} {l : List Int} (h : WRow w base a c l) (n : Nat) : WRow (w.drewN n) base a c l := h
theorem WRow.free {w : World} {base g c : Nat} {l : List Int} (h : WRow w base (some ⟨g, 0, none⟩) c l) (i : Nat) : w.frozen? ⟨g, i, none⟩ = false := by
  rcases h.2 with ⟨hv, _⟩ | ⟨g', cap, cur, hv, hbg, hg, _⟩
  · cases hv
  · simp only [Value.slice.injEq, Option.some.injEq, Addr.mk.injEq] at hv
    obtain ⟨⟨rfl, _⟩, _⟩ := hv
    exact frozen_of_row _ _ _ _ _ hg
theorem WRow.set {w : World} {base g c : Nat} {l : List Int} (h : WRow w base (some ⟨g, 0, none⟩) c l) {k : Nat} (hk : k < l.length) (x : Int) : WRow (w.setCell ⟨g, k, none⟩ (.int .u32 x)) base (some ⟨g, 0, none⟩) c (l.set k x) := by
  refine ⟨by simp [wCells], ?_⟩
  rcases h.2 with ⟨hv, _⟩ | ⟨g', cap, cur, hv, hbg, hg, hnc, hcm, hcs, htake⟩
  · cases hv
  · simp only [Value.slice.injEq, Option.some.injEq, Addr.mk.injEq] at hv
    obtain ⟨⟨rfl, _⟩, _, rfl⟩ := hv
    refine .inr ⟨g, c, cur.setIfInBounds k (.int .u32 x), by simp, hbg, heap_setCell_same _ _ _ _ _ _ hg, by simpa using hnc, hcm, by simpa using hcs, ?_⟩
    rw [Array.toList_setIfInBounds]
    simp only [Nat.mul_one, List.length_set] at htake ⊢
    rw [List.take_set, htake]
    simp [wCells, List.map_set]
def tl8 (f : Nat → Int) : List Int := (List.range 8).map f
theorem tl8_length (f : Nat → Int) : (tl8 f).length = 8 := by simp [tl8]
theorem tl8_get (f : Nat → Int) {i : Nat} (h : i < 8) : (tl8 f)[i]? = some (f i) := by simp [tl8, h]
theorem tl8_ext {f g : Nat → Int} (h : ∀ i, i < 8 → f i = g i) : tl8 f = tl8 g := by
  unfold tl8
  apply List.map_congr_left
  intro i hi
  exact h i (by simpa using hi)
theorem tl8_set (f : Nat → Int) (k : Nat) (x : Int) : (tl8 f).set k x = tl8 (fun i => if i = k then x else f i) := by
  apply List.ext_getElem?
  intro i
  rw [List.getElem?_set]
  by_cases hi : i < 8
  · rw [tl8_get _ hi, tl8_get _ hi, tl8_length]
    by_cases e : k = i
    · subst e; rw [if_pos rfl, if_pos hi, if_pos rfl]
    · rw [if_neg e, if_neg (fun h => e h.symm)]
  · rw [List.getElem?_eq_none (by rw [tl8_length]; omega), List.getElem?_eq_none (by rw [tl8_length]; omega), tl8_length]
    split <;> simp_all
/-- a word of a state -/
def St.w (s : St) (i : Nat) : Int := s.toL.getD i 0
theorem toL_tl8 (s : St) : s.toL = tl8 s.w := rfl
theorem st_ok_w {s : St} (h : s.Ok) {i : Nat} (hi : i < 8) : 0 ≤ s.w i ∧ s.w i < 4294967296 := by
  obtain ⟨a0, a1, b0, b1, c0, c1, d0, d1, e0, e1, f0, f1, g0, g1, h0, h1⟩ := h
  rcases (show i = 0 ∨ i = 1 ∨ i = 2 ∨ i = 3 ∨ i = 4 ∨ i = 5 ∨ i = 6 ∨ i = 7 by omega) with rfl | rfl | rfl | rfl | rfl | rfl | rfl | rfl
  · exact ⟨a0, a1⟩
  · exact ⟨b0, b1⟩
  · exact ⟨c0, c1⟩
  · exact ⟨d0, d1⟩
  · exact ⟨e0, e1⟩
  · exact ⟨f0, f1⟩
  · exact ⟨g0, g1⟩
  · exact ⟨h0, h1⟩
theorem add_w (s t : St) {i : Nat} (hi : i < 8) : (s.add t).w i = (s.w i + t.w i) % 4294967296 := by
  rcases (show i = 0 ∨ i = 1 ∨ i = 2 ∨ i = 3 ∨ i = 4 ∨ i = 5 ∨ i = 6 ∨ i = 7 by omega) with rfl | rfl | rfl | rfl | rfl | rfl | rfl | rfl <;> rfl
theorem kL_get {i : Nat} (h : i < 64) : kL[i]? = some (kI i) := by
  have hl : i < kL.length := h
  rw [List.getElem?_eq_getElem hl, kI, List.getD_eq_getElem?_getD, List.getElem?_eq_getElem hl]
  rfl
theorem kI_ok (i : Nat) : 0 ≤ kI i ∧ kI i < 4294967296 := by
  by_cases h : i < 64
  · have hd : ∀ m : Fin 64, 0 ≤ kI m.val ∧ kI m.val < 4294967296 := by decide +kernel
    exact hd ⟨i, h⟩
  · have : kI i = 0 := by
      rw [kI, List.getD_eq_getElem?_getD, List.getElem?_eq_none (by show 64 ≤ i; omega)]
      rfl
    omega
/-- a state lies in a row -/
def StAt (w : World) (g : Nat) (s : St) : Prop := ∀ i, i < 8 → w.cell? ⟨g, i, none⟩ = some (.int .u32 (s.w i))
theorem StAt.below {w w' : World} {g : Nat} {s : St} (h : StAt w g s) (hb : Below w.heap.size w w') : StAt w' g s := fun j hj => by
  rw [hb.cell (World.block_lt_of_cell? w _ (h j hj))]; exact h j hj
theorem StAt.of_row {w : World} {base g c : Nat} {s : St} (h : WRow w base (some ⟨g, 0, none⟩) c s.toL) : StAt w g s := by
  obtain ⟨g', hg, _, _, _, hc⟩ := h.at (by simp [St.toL])
  simp only [Option.some.injEq, Addr.mk.injEq] at hg
  obtain ⟨rfl, _⟩ := hg
  intro i hi
  exact hc i _ (by rw [toL_tl8]; exact tl8_get _ hi)
set_option maxRecDepth 100000 in
set_option maxHeartbeats 4000000 in
theorem next_any (s : St) (hs : s.Ok) (l : List UInt8) (hl : l.length = 64) (gh ch gb cb : Nat) (hch : 8 ≤ ch) (hcb : 64 ≤ cb) (w : World) (hgh : gh < w.heap.size) (hgb : gb < w.heap.size) (hh : StAt w gh s) (hw : BytesAt w gb l) :
    Calls Tryd.prog 42 #[.slice (some ⟨gh, 0, none⟩) 8 ch, .slice (some ⟨gb, 0, none⟩) 64 cb] w (RowPost w (mixS s l).toL) := by
  obtain ⟨B, hB⟩ : ∃ B, w.heap.size = B := ⟨_, rfl⟩
  have c1 := words_any l hl gb cb hcb w hgb hw
  have c2 := fun W => adds_any W
  unfold RowPost at c1 c2 ⊢
  rw [hB] at c1 ⊢
  rw [schL_length] at c1
  have HH := Lib.hid hh
  clear hh hw hl
  go_enter Tryd.func42, Tryd.ntmps42
  go_wp2_with fail
  refine c1.mono ?_
  rintro e w1 ⟨g1, k1, rfl, hr1, hb1⟩
  go_wp2_with fail
  refine (c2 _).mono ?_
  rintro e w2 ⟨g2, k2, rfl, hr2, hb2⟩
  have hkl : kL.length = 64 := rfl
  rw [hkl]
  obtain ⟨_, hg1, _, hg1', hk1, hcw0⟩ := hr1.at (by rw [schL_length]; omega)
  simp only [Option.some.injEq, Addr.mk.injEq] at hg1
  obtain ⟨rfl, _⟩ := hg1
  obtain ⟨_, hg2, _, hg2', hk2, hck0⟩ := hr2.at (by rw [hkl]; omega)
  simp only [Option.some.injEq, Addr.mk.injEq] at hg2
  obtain ⟨rfl, _⟩ := hg2
  rw [schL_length] at hk1
  rw [hkl] at hk2
  have hcw : Hid (∀ i, i < 64 → w2.cell? ⟨g1, i, none⟩ = some (.int .u32 (sch l i))) := fun i hi => (hb2.cell (p := ⟨g1, i, none⟩) hg1').trans (hcw0 i _ (schL_get l hi))
  have hck : Hid (∀ i, i < 64 → w2.cell? ⟨g2, i, none⟩ = some (.int .u32 (kI i))) := fun i hi => hck0 i _ (kL_get hi)
  have hbw2 : Below B w w2 := hb1.trans (hb2.mono (by have := hb1.size; omega))
  have hst2 : Hid (StAt w2 gh s) := HH.out.below (hbw2.mono (by omega))
  have hsz2 := hbw2.size
  rw [hB] at hsz2
  have hg1b : g1 < w2.heap.size := Nat.lt_of_lt_of_le hg1' hb2.size
  obtain ⟨B2, hB2⟩ : ∃ B2, w2.heap.size = B2 := ⟨_, rfl⟩
  rw [hB2] at hsz2 hg1b hg2'
  clear hcw0 hck0 hr1 hr2 hb1 hb2 hg1' c1 c2 hkl
  have hre := row_new w2 [] #[] rfl (by decide)
  rw [hB2] at hre
  have hnw : Hid (∀ j u, (wCells s.toL)[j]? = some u → (w2.alloc (.cells #[] 42)).cell? ((⟨gh, 0, none⟩ : Addr).add j) = some u) := by
    intro j u hu
    have hj : j < 8 := by
      have := (List.getElem?_eq_some_iff.1 hu).1
      simpa [wCells, St.toL] using this
    rw [toL_tl8, wCells_get (tl8_get s.w hj)] at hu
    have hadd : (⟨gh, 0, none⟩ : Addr).add j = ⟨gh, j, none⟩ := by unfold Addr.add; split <;> simp_all
    rw [hadd, World.cell?_alloc_lt w2 _ _ (by show gh < w2.heap.size; omega)]
    rw [← hu]
    exact hst2.out j hj
  have hl8 : s.toL.length = 8 := rfl
  have HE := Lib.hid hre
  clear hre
  go_wp2_with (at_builtin; refine wpList_append_w _ rfl _ _ rfl B2 (some ⟨B2, 0, none⟩) 0 [] s.toL rfl HE.out ⟨gh, 0, none⟩ 8 ch rfl hl8 (by omega) hnw.out (by simp) (by simp; omega) ?_)
  intro g3 k3 w3 l3 hl3 hown3 hb3
  obtain rfl : l3 = s.toL := hl3.out
  have hb3' : Below B2 w2 w3 := ((Below.refl _ _).alloc (by omega) _).trans hb3
  clear hl3 hb3 HE hnw
  rw [hl8]
  go_wp2
  clear hl8
  go_loopw [7, 8] (fun v7 v8 wr => ∃ (k G c : Nat) (r : St), v7 = .slice (some ⟨G, 0, none⟩) 8 c ∧ v8 = .int .i64 k ∧ k ≤ 64 ∧ Hid (r = rnds (sch l) s k) ∧ 8 ≤ c ∧ WRow wr B2 (some ⟨G, 0, none⟩) c r.toL ∧ Below B2 w2 wr) (fun _ v _ => 64 - (intOf v).toNat)
  case atStart =>
    obtain ⟨_, _, _, _, hnc, _⟩ := hown3.at (by simp [St.toL])
    exact ⟨0, g3, k3, s, rfl, rfl, by omega, rfl, by simpa [St.toL] using hnc, hown3, hb3'⟩
  case round =>
    clear hown3 hb3'
    obtain ⟨k, G, c, r, rfl, rfl, hk, hr, hc8, hown, hbel⟩ := hrel
    have hro : Hid (r.Ok) := by rw [Hid, hr.out]; exact rnds_ok hs k
    have hst := StAt.of_row hown
    have hbs := hbel.size
    rw [hB2] at hbs
    by_cases hlt : k < 64
    · have f0 : wr.cell? ⟨g2, k, none⟩ = some (.int .u32 (kI k)) := (hbel.cell (p := ⟨g2, k, none⟩) hg2').trans (hck.out k hlt)
      have f1 : wr.cell? ⟨g1, k, none⟩ = some (.int .u32 (sch l k)) := (hbel.cell (p := ⟨g1, k, none⟩) hg1b).trans (hcw.out k hlt)
      have c6 := fun W => rturn_6 r.e W hro.out.e0 hro.out.e1
      have c11 := fun W => rturn_11 r.e W hro.out.e0 hro.out.e1
      have c25 := fun W => rturn_25 r.e W hro.out.e0 hro.out.e1
      have c2 := fun W => rturn_2 r.a W hro.out.a0 hro.out.a1
      have c13 := fun W => rturn_13 r.a W hro.out.a0 hro.out.a1
      have c22 := fun W => rturn_22 r.a W hro.out.a0 hro.out.a1
      have HN : Hid (rnds (sch l) s (k + 1) = rnd (sch l) k r) := by unfold Hid; rw [rnds, hr.out]
      obtain ⟨ra, rb, rc, rd, re, rf, rg, rh⟩ := r
      simp only at c6 c11 c25 c2 c13 c22
      have e0 : wr.cell? ⟨G, 0, none⟩ = some (.int .u32 ra) := hst 0 (by omega)
      have e1 : wr.cell? ⟨G, 1, none⟩ = some (.int .u32 rb) := hst 1 (by omega)
      have e2 : wr.cell? ⟨G, 2, none⟩ = some (.int .u32 rc) := hst 2 (by omega)
      have e3 : wr.cell? ⟨G, 3, none⟩ = some (.int .u32 rd) := hst 3 (by omega)
      have e4 : wr.cell? ⟨G, 4, none⟩ = some (.int .u32 re) := hst 4 (by omega)
      have e5 : wr.cell? ⟨G, 5, none⟩ = some (.int .u32 rf) := hst 5 (by omega)
      have e6 : wr.cell? ⟨G, 6, none⟩ = some (.int .u32 rg) := hst 6 (by omega)
      have e7 : wr.cell? ⟨G, 7, none⟩ = some (.int .u32 rh) := hst 7 (by omega)
      have HBEL := Lib.hid hbel
      have hkc : (k : Int) < 64 := by omega
      clear hst hown hbel hr
      go_wp2
      go_quiet (first | (go_at_call 51; with_reducible exact quiet_drew0 (c6 _)) | (go_at_call 51; with_reducible exact quiet_drew0 (c11 _)) | (go_at_call 51; with_reducible exact quiet_drew0 (c25 _)))
      go_wp2
      go_quiet (fail)
      go_wp2
      go_quiet (first | (go_at_call 51; with_reducible exact quiet_drew (c2 _)) | (go_at_call 51; with_reducible exact quiet_drew (c13 _)) | (go_at_call 51; with_reducible exact quiet_drew (c22 _)))
      go_wp2
      go_quiet (fail)
      go_wp2
      obtain ⟨T1, hT1⟩ : ∃ T, T = tOne (sch l) ⟨ra, rb, rc, rd, re, rf, rg, rh⟩ k := ⟨_, rfl⟩
      obtain ⟨T2, hT2⟩ : ∃ T, T = tTwo ⟨ra, rb, rc, rd, re, rf, rg, rh⟩ := ⟨_, rfl⟩
      have HT1 := Lib.hid hT1
      have HT2 := Lib.hid hT2
      simp only [tOne, tTwo, bg0, bg1, cho, maj] at hT1 hT2
      rw [← hT1, ← hT2]
      have ok1 : 0 ≤ T1 ∧ T1 < 4294967296 := by rw [hT1]; omega
      have ok2 : 0 ≤ T2 ∧ T2 < 4294967296 := by rw [hT2]; omega
      clear hT1 hT2 c6 c11 c25 c2 c13 c22
      simp only [World.drewN_drewN]
      generalize hwz : wr.drewN _ = wz
      have p0 : wz.cell? ⟨G, 0, none⟩ = some (.int .u32 ra) := by rw [← hwz]; exact e0
      have p1 : wz.cell? ⟨G, 1, none⟩ = some (.int .u32 rb) := by rw [← hwz]; exact e1
      have p2 : wz.cell? ⟨G, 2, none⟩ = some (.int .u32 rc) := by rw [← hwz]; exact e2
      have p3 : wz.cell? ⟨G, 3, none⟩ = some (.int .u32 rd) := by rw [← hwz]; exact e3
      have p4 : wz.cell? ⟨G, 4, none⟩ = some (.int .u32 re) := by rw [← hwz]; exact e4
      have p5 : wz.cell? ⟨G, 5, none⟩ = some (.int .u32 rf) := by rw [← hwz]; exact e5
      have p6 : wz.cell? ⟨G, 6, none⟩ = some (.int .u32 rg) := by rw [← hwz]; exact e6
      have p7 : wz.cell? ⟨G, 7, none⟩ = some (.int .u32 rh) := by rw [← hwz]; exact e7
      have HBZ : Hid (Below B2 w2 wz) := by rw [← hwz]; exact below_drewN HBEL.out _
      have hbz : B2 ≤ wz.heap.size := by have := HBZ.out.size; omega
      clear hwz e0 e1 e2 e3 e4 e5 e6 e7 f0 f1 HBEL
      obtain ⟨ro1, ro2⟩ : (0 ≤ rd ∧ rd < 4294967296) ∧ True := ⟨⟨hro.out.d0, hro.out.d1⟩, trivial⟩
      refine wp_region_still_tail 26 (by kernel_rfl) (by kernel_rfl) ?_
      simp only [List.take_succ_cons, List.take_zero, List.drop_succ_cons, List.drop_zero]
      refine wpStill_of_wpQuiet _ _ ?_
      repeat (first | go_big_quiet_skip | (go_big_quiet_want; go_big_quiet_op; first | go_big_quiet_on | (apply Exists.intro; refine ⟨?_, ?_⟩; (fail); go_big_quiet_on)))
      refine wpQuiet_nil ?_
      change wpList _ _ _ _ _ wz.drew
      go_wp2
      have hrow := row_new wz.drew (St.toL ⟨(T1 + T2) % 4294967296, ra, rb, rc, (rd + T1) % 4294967296, re, rf, rg⟩) #[.int .u32 ((T1 + T2) % 4294967296), .int .u32 ra, .int .u32 rb, .int .u32 rc, .int .u32 ((rd + T1) % 4294967296), .int .u32 re, .int .u32 rf, .int .u32 rg] rfl (by simp [St.toL])
      have hbz2 : Below B2 w2 (wz.drew.alloc (.cells #[.int .u32 ((T1 + T2) % 4294967296), .int .u32 ra, .int .u32 rb, .int .u32 rc, .int .u32 ((rd + T1) % 4294967296), .int .u32 re, .int .u32 rf, .int .u32 rg] 42)) := HBZ.out.drew.alloc hbz _
      have HROW := Lib.hid hrow
      have HBZ2 := Lib.hid hbz2
      clear hrow hbz2
      go_roundw
      case rel =>
        refine ⟨k + 1, wz.heap.size, 8, ⟨(T1 + T2) % 4294967296, ra, rb, rc, (rd + T1) % 4294967296, re, rf, rg⟩, rfl, by go_num, by omega, ?_, by omega, HROW.out.base hbz, HBZ2.out⟩
        rw [Hid, HN.out, rnd, ← HT1.out, ← HT2.out]
      case measure => simp [intOf]; omega
    · have hk64 : k = 64 := by omega
      have HR := Lib.hid (show r = rnds (sch l) s 64 by rw [hr.out, hk64])
      have dk : decide ((k : Int) < 64) = false := decide_eq_false (by omega)
      clear hk64 hk hlt hr hcw hck
      generalize (k : Int) = kz at *
      go_wp2
      obtain ⟨wo, rfl⟩ : ∃ wo : World, wo = wr := ⟨_, rfl⟩
      go_loopw [13] (fun v13 wr => ∃ k : Nat, v13 = .int .i64 k ∧ k ≤ 8 ∧ WRow wr B2 (some ⟨G, 0, none⟩) c (tl8 (fun i => if i < k then (r.w i + s.w i) % 4294967296 else r.w i)) ∧ Below B2 w2 wr) (fun v _ => 8 - (intOf v).toNat)
      case atStart =>
        refine ⟨0, rfl, by omega, ?_, hbel⟩
        rw [tl8_ext (g := r.w) (fun i _ => by rw [if_neg (by omega)]), ← toL_tl8]
        exact hown
      case round =>
        clear hown hbel hst hbs dk
        obtain ⟨k, rfl, hk, hown, hbel⟩ := hrel
        have hbs := hbel.size
        rw [hB2] at hbs
        by_cases hlt : k < 8
        · obtain ⟨g', hg', hgB, hgl, _, hcell⟩ := hown.at (by rw [tl8_length]; omega)
          simp only [Option.some.injEq, Addr.mk.injEq] at hg'
          obtain ⟨rfl, _⟩ := hg'
          have p1 := hcell k _ (tl8_get _ hlt)
          rw [if_neg (by omega)] at p1
          have p2 : wr.cell? ⟨gh, k, none⟩ = some (.int .u32 (s.w k)) := (hbel.cell (p := ⟨gh, k, none⟩) (by show gh < B2; omega)).trans (hst2.out k hlt)
          have p3 := hown.free k
          have ok1 := st_ok_w hro.out hlt
          have ok2 := st_ok_w hs hlt
          have hset := hown.set (k := k) (by rw [tl8_length]; exact hlt) ((r.w k + s.w k) % 4294967296)
          rw [tl8_set, tl8_ext (g := fun i => if i < k + 1 then (r.w i + s.w i) % 4294967296 else r.w i) (fun i _ => by
            by_cases e : i = k
            · subst e; rw [if_pos rfl, if_pos (by omega)]
            · rw [if_neg e]
              by_cases e2 : i < k
              · rw [if_pos e2, if_pos (by omega)]
              · rw [if_neg e2, if_neg (by omega)])] at hset
          have HSET := Lib.hid hset
          have HB4 : Hid (Below B2 w2 (wr.drew.setCell ⟨G, k, none⟩ (.int .u32 ((r.w k + s.w k) % 4294967296)))) := hbel.drew.setCell (by exact hgB) _
          have hk8 : (k : Int) < 8 := by omega
          have hk8c : (k : Int) < (ch : Int) := by omega
          clear hcell hset hown hbel
          generalize r.w k = x at *
          generalize s.w k = y at *
          go_wp2
          refine wp_region_still_tail 12 (by kernel_rfl) (by kernel_rfl) ?_
          simp only [List.take_succ_cons, List.take_zero, List.drop_succ_cons, List.drop_zero]
          refine wpStill_of_wpQuiet _ _ ?_
          repeat (first | go_big_quiet_skip | (go_big_quiet_want; go_big_quiet_op; first | go_big_quiet_on | (apply Exists.intro; refine ⟨?_, ?_⟩; (fail); go_big_quiet_on)))
          refine wpQuiet_nil ?_
          change wpList _ _ _ _ _ wr.drew
          go_wp2
          go_roundw
          case rel => exact ⟨k + 1, by go_num, by omega, HSET.out, HB4.out⟩
          case measure => simp [intOf]; omega
        · obtain rfl : k = 8 := by omega
          have hM : Hid ((mixS s l).toL = tl8 (fun i => if i < 8 then (r.w i + s.w i) % 4294967296 else r.w i)) := by
            rw [Hid, toL_tl8]
            refine tl8_ext fun i hi => ?_
            rw [if_pos hi, mixS, add_w _ _ hi, ← HR.out, Int.add_comm]
          go_wp2
          go_ret
          refine ⟨G, c, ?_, ?_, ?_⟩
          · have : (mixS s l).toL.length = 8 := rfl
            rw [this]; rfl
          · rw [hM.out]; exact hown.base (by omega)
          · exact hbw2.trans (hbel.mono (by omega))
end Go.Proofs.YtgmlhgojkmpkkaaDoor
