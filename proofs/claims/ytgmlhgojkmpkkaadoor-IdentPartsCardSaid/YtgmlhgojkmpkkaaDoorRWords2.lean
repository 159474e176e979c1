/- The reference's schedule, walked. -/
import Derived.Test.YtgmlhgojkmpkkaaDoorRWords
import Derived.Deep.RegionLaw
namespace Go.Proofs.YtgmlhgojkmpkkaaDoor
open Go.ChangeShapes Go.WideShapes Go.ChangeAt Go.RowKit Go.Lib
set_option linter.unusedVariables false

set_option maxRecDepth 100000 in
set_option maxHeartbeats 2000000 in
theorem words_any (l : List UInt8) (hl : l.length = 64) (g c : Nat) (hc : 64 ≤ c) (w : World) (hg : g < w.heap.size) (hw : BytesAt w g l) : Calls Tryd.prog 49 #[.slice (some ⟨g, 0, none⟩) 64 c] w (RowPost w (schL l 64)) := by
  obtain ⟨B, hB⟩ : ∃ B, w.heap.size = B := ⟨_, rfl⟩
  unfold RowPost
  rw [hB]
  have HL := Lib.hid hl
  have HW := Lib.hid hw
  clear hl hw
  go_enter Tryd.func49, Tryd.ntmps49
  go_wp2
  go_loopw [3, 4] (fun v3 v4 wr => ∃ (k : Nat) (a : Option Addr) (c : Nat) (out : List Int), v3 = .slice a out.length c ∧ v4 = .int .i64 k ∧ k ≤ 16 ∧ Hid (out = schL l k) ∧ out.length ≤ k ∧ k ≤ out.length ∧ WRow wr B a c out ∧ Below B w wr) (fun _ v _ => 16 - (intOf v).toNat)
  case atStart => exact ⟨0, none, 0, [], rfl, rfl, by omega, rfl, by simp, by simp, WRow.nil _ _, Below.refl _ _⟩
  case round =>
    obtain ⟨k, a, c', out, rfl, rfl, hk, ho, hol, hol2, hown, hbel⟩ := hrel
    have hbs := hbel.size
    rw [hB] at hbs
    by_cases hlt : k < 16
    · have hwr := HW.out.below (hbel.mono (by omega))
      have z0 := hwr (4 * k) (by rw [HL.out]; omega)
      have z1 := hwr (4 * k + 1) (by rw [HL.out]; omega)
      have z2 := hwr (4 * k + 2) (by rw [HL.out]; omega)
      have z3 := hwr (4 * k + 3) (by rw [HL.out]; omega)
      have b0 := byN_lt l (4 * k)
      have b1 := byN_lt l (4 * k + 1)
      have b2 := byN_lt l (4 * k + 2)
      have b3 := byN_lt l (4 * k + 3)
      have hst : Hid (sch l k = wordB l k) := sch_lo l hlt
      have hst2 : Hid (wordB l k = (byN l (4 * k) : Int) * 16777216 + (byN l (4 * k + 1) : Int) * 65536 + (byN l (4 * k + 2) : Int) * 256 + (byN l (4 * k + 3) : Int)) := rfl
      generalize byN l (4 * k) = d0 at *
      generalize byN l (4 * k + 1) = d1 at *
      generalize byN l (4 * k + 2) = d2 at *
      generalize byN l (4 * k + 3) = d3 at *
      have t0 : (4 * (k : Int)).toNat = 4 * k := by omega
      have t1 : (4 * (k : Int) + 1).toNat = 4 * k + 1 := by omega
      have t2 : (4 * (k : Int) + 2).toNat = 4 * k + 2 := by omega
      have t3 : (4 * (k : Int) + 3).toNat = 4 * k + 3 := by omega
      have i0 : IntKind.i64.wrap (4 * (k : Int)) = 4 * (k : Int) := IntWalk.i64_in _ (by omega)
      have i1 : IntKind.i64.wrap (4 * (k : Int) + 1) = 4 * (k : Int) + 1 := IntWalk.i64_in _ (by omega)
      have i2 : IntKind.i64.wrap (4 * (k : Int) + 2) = 4 * (k : Int) + 2 := IntWalk.i64_in _ (by omega)
      have i3 : IntKind.i64.wrap (4 * (k : Int) + 3) = 4 * (k : Int) + 3 := IntWalk.i64_in _ (by omega)
      have j0 : (0 : Int) ≤ 4 * (k : Int) := by omega
      have j1 : (0 : Int) ≤ 4 * (k : Int) + 1 := by omega
      have j2 : (0 : Int) ≤ 4 * (k : Int) + 2 := by omega
      have j3 : (0 : Int) ≤ 4 * (k : Int) + 3 := by omega
      have u0 : 4 * (k : Int) < 64 := by omega
      have u1 : 4 * (k : Int) + 1 < 64 := by omega
      have u2 : 4 * (k : Int) + 2 < 64 := by omega
      have u3 : 4 * (k : Int) + 3 < 64 := by omega
      have r0 : IntKind.u32.wrap (d0 : Int) = (d0 : Int) := IntWalk.u32_in _ (by omega)
      have r1 : IntKind.u32.wrap (d1 : Int) = (d1 : Int) := IntWalk.u32_in _ (by omega)
      have r2 : IntKind.u32.wrap (d2 : Int) = (d2 : Int) := IntWalk.u32_in _ (by omega)
      have r3 : IntKind.u32.wrap (d3 : Int) = (d3 : Int) := IntWalk.u32_in _ (by omega)
      have m0 : IntKind.u32.wrap ((d0 : Int) * 16777216) = (d0 : Int) * 16777216 := IntWalk.u32_in _ (by omega)
      have m1 : IntKind.u32.wrap ((d1 : Int) * 65536) = (d1 : Int) * 65536 := IntWalk.u32_in _ (by omega)
      have m2 : IntKind.u32.wrap ((d2 : Int) * 256) = (d2 : Int) * 256 := IntWalk.u32_in _ (by omega)
      have m3 : IntKind.u32.wrap ((d0 : Int) * 16777216 + (d1 : Int) * 65536) = (d0 : Int) * 16777216 + (d1 : Int) * 65536 := IntWalk.u32_in _ (by omega)
      have m4 : IntKind.u32.wrap ((d0 : Int) * 16777216 + (d1 : Int) * 65536 + (d2 : Int) * 256) = (d0 : Int) * 16777216 + (d1 : Int) * 65536 + (d2 : Int) * 256 := IntWalk.u32_in _ (by omega)
      have m5 : IntKind.u32.wrap ((d0 : Int) * 16777216 + (d1 : Int) * 65536 + (d2 : Int) * 256 + (d3 : Int)) = (d0 : Int) * 16777216 + (d1 : Int) * 65536 + (d2 : Int) * 256 + (d3 : Int) := IntWalk.u32_in _ (by omega)
      have hlen : out.length + 1 ≤ 1000000 := by omega
      have hd0 : (d0 : Int) ≤ 255 := by omega
      have hkS : Hid (∀ w3, Below B wr w3 → w3.cell? ⟨g, 4 * k, none⟩ = some (.int .u8 d0) ∧ w3.cell? ⟨g, 4 * k + 1, none⟩ = some (.int .u8 d1) ∧ w3.cell? ⟨g, 4 * k + 2, none⟩ = some (.int .u8 d2) ∧ w3.cell? ⟨g, 4 * k + 3, none⟩ = some (.int .u8 d3)) := fun w3 h => by
        have hgB : g < B := by omega
        exact ⟨(h.cell (p := ⟨g, 4 * k, none⟩) hgB).trans z0, (h.cell (p := ⟨g, 4 * k + 1, none⟩) hgB).trans z1, (h.cell (p := ⟨g, 4 * k + 2, none⟩) hgB).trans z2, (h.cell (p := ⟨g, 4 * k + 3, none⟩) hgB).trans z3⟩
      clear hwr
      go_wp2
      go_region_held3 (fun w' => w'.cell? ⟨g, 4 * k, none⟩ = some (.int .u8 d0) ∧ w'.cell? ⟨g, 4 * k + 1, none⟩ = some (.int .u8 d1) ∧ w'.cell? ⟨g, 4 * k + 2, none⟩ = some (.int .u8 d2) ∧ w'.cell? ⟨g, 4 * k + 3, none⟩ = some (.int .u8 d3)) (first | go_keep | exact hkS.out w3 hb4) ((refine step_append_w _ (by rfl) (.tmp 14) (.tmp 48) (by rfl) B a c' out [(d0 : Int) * 16777216 + (d1 : Int) * 65536 + (d2 : Int) * 256 + (d3 : Int)] (by rfl) (WRow.below hown ((Below.refl _ wr).alloc (Nat.le_refl _) _).drew) ⟨wr.heap.size, 0, none⟩ 1 1 (by rfl) rfl (by omega) (wcell_one wr _) hlen (by simp; omega) ?_; intro g3 c3 w3 o3 ho3 hown3 hb3; have hb4 : Below B wr w3 := (((Below.refl _ wr).alloc hbs _).drew).trans hb3))
      all_goals
        have hbel3 : Below B w w3 := hbel.trans hb4
        have ho4 : Hid (o3 = schL l (k + 1)) := by
          unfold Hid
          rw [ho3.out, ho.out, schL_succ, hst.out, hst2.out]
        have hol3 : o3.length = out.length + 1 := by rw [ho3.out]; simp
        have HOL := Lib.hid (show o3.length ≤ k + 1 ∧ k + 1 ≤ o3.length by omega)
        clear hol3
        go_wp2
        go_roundw
        case rel => exact ⟨k + 1, some ⟨g3, 0, none⟩, c3, o3, rfl, by go_num, by omega, ho4, HOL.out.1, HOL.out.2, hown3, hbel3⟩
        case measure => simp [intOf]; omega
    · have hk16 : k = 16 := by omega
      have HO : Hid (out = schL l 16) := by rw [Hid, ho.out, hk16]
      have dk : decide ((k : Int) < 16) = false := decide_eq_false (by omega)
      have hol3 : 16 ≤ out.length ∧ out.length ≤ 16 := by omega
      clear hk16 hk hlt ho hol hol2
      generalize (k : Int) = kz at *
      go_wp2
      obtain ⟨wo, rfl⟩ : ∃ wo : World, wo = wr := ⟨_, rfl⟩
      go_loopw [3, 5] (fun v3 v5 wr => ∃ (k : Nat) (a : Option Addr) (c : Nat) (out : List Int), v3 = .slice a out.length c ∧ v5 = .int .i64 k ∧ 16 ≤ k ∧ k ≤ 64 ∧ Hid (out = schL l k) ∧ out.length ≤ k ∧ k ≤ out.length ∧ WRow wr B a c out ∧ Below B w wr) (fun _ v _ => 64 - (intOf v).toNat)
      case atStart => exact ⟨16, a, c', out, rfl, rfl, by omega, by omega, HO, hol3.2, hol3.1, hown, hbel⟩
      case round =>
        clear hown hbel HO hol3 hbs dk
        obtain ⟨k, a, c', out, rfl, rfl, hk0, hk, ho, hol, hol2, hown, hbel⟩ := hrel
        have hbs := hbel.size
        rw [hB] at hbs
        obtain ⟨G, rfl, hG1, hG2, hnc, hcell⟩ := hown.at (by omega)
        by_cases hlt : k < 64
        · have hget : ∀ i, i < k → out[i]? = some (sch l i) := fun i hi => by rw [ho.out]; exact schL_get l hi
          have p1 := hcell (k - 15) _ (hget _ (by omega))
          have p2 := hcell (k - 2) _ (hget _ (by omega))
          have p3 := hcell (k - 16) _ (hget _ (by omega))
          have p4 := hcell (k - 7) _ (hget _ (by omega))
          have t15 : ((k : Int) - 15).toNat = k - 15 := by omega
          have t2 : ((k : Int) - 2).toNat = k - 2 := by omega
          have t16 : ((k : Int) - 16).toNat = k - 16 := by omega
          have t7 : ((k : Int) - 7).toNat = k - 7 := by omega
          have o15 := sch_ok l (k - 15)
          have o2 := sch_ok l (k - 2)
          have o16 := sch_ok l (k - 16)
          have o7 := sch_ok l (k - 7)
          have HS := Lib.hid (sch_hi l hk0)
          clear hcell hget
          generalize sch l (k - 15) = x at *
          generalize sch l (k - 2) = y at *
          generalize sch l (k - 16) = u at *
          generalize sch l (k - 7) = v at *
          have ca := fun W => rturn_7 x W o15.1 o15.2
          have cb := fun W => rturn_18 x W o15.1 o15.2
          have cc := fun W => rturn_17 y W o2.1 o2.2
          have cd := fun W => rturn_19 y W o2.1 o2.2
          have hii : IntKind.i64.wrap ((k : Int) - 15) = (k : Int) - 15 := IntWalk.i64_in _ (by omega)
          have l1 : (k : Int) - 15 < (out.length : Int) := by omega
          have l2 : (k : Int) - 2 < (out.length : Int) := by omega
          go_wp2_with fail
          (with_reducible refine (ca _).mono ?_)
          rintro e w' ⟨rfl, n1, rfl⟩
          go_wp2_with fail
          (with_reducible refine (cb _).mono ?_)
          rintro e w' ⟨rfl, n2, rfl⟩
          go_wp2_with fail
          (with_reducible refine (cc _).mono ?_)
          rintro e w' ⟨rfl, n3, rfl⟩
          go_wp2_with fail
          (with_reducible refine (cd _).mono ?_)
          rintro e w4 ⟨rfl, n4, hw4⟩
          have q3 : w4.cell? ⟨G, k - 16, none⟩ = some (.int .u32 u) := by rw [hw4]; exact p3
          have q4 : w4.cell? ⟨G, k - 7, none⟩ = some (.int .u32 v) := by rw [hw4]; exact p4
          have hown4 : WRow w4 B (some ⟨G, 0, none⟩) c' out := by rw [hw4]; exact hown
          have hbel4 : Below B w w4 := by rw [hw4]; repeat (first | exact hbel | apply below_drewN)
          have hbs4 := hbel4.size
          rw [hB] at hbs4
          have hG4 : G < w4.heap.size := by
            have := World.block_lt_of_cell? w4 _ q3
            exact this
          have HOWN := Lib.hid hown4
          clear hw4 p1 p2 p3 p4 ca cb cc cd hown hbel hG2 hown4
          go_wp2
          have hes : Hid (sm0 x = bits .xor .u32 (bits .xor .u32 (rot x 7) (rot x 18)) (x / 8)) := rfl
          have het : Hid (sm1 y = bits .xor .u32 (bits .xor .u32 (rot y 17) (rot y 19)) (y / 1024)) := rfl
          generalize bits .xor .u32 (bits .xor .u32 (rot x 7) (rot x 18)) (x / 8) = S at *
          generalize bits .xor .u32 (bits .xor .u32 (rot y 17) (rot y 19)) (y / 1024) = T at *
          obtain ⟨m16, hm16⟩ : ∃ m : Nat, (k : Int) - 16 = m := ⟨k - 16, by omega⟩
          obtain ⟨m7, hm7⟩ : ∃ m : Nat, (k : Int) - 7 = m := ⟨k - 7, by omega⟩
          rw [show k - 16 = m16 by omega] at q3
          rw [show k - 7 = m7 by omega] at q4
          have l16 : (m16 : Int) < (out.length : Int) := by omega
          have l7 : (m7 : Int) < (out.length : Int) := by omega
          have l16' : m16 < out.length := by omega
          have l7' : m7 < out.length := by omega
          have w16 : IntKind.i64.wrap (m16 : Int) = (m16 : Int) := IntWalk.i64_in _ (by omega)
          have w7 : IntKind.i64.wrap (m7 : Int) = (m7 : Int) := IntWalk.i64_in _ (by omega)
          have hlen : out.length + 1 ≤ 1000000 := by omega
          clear t16 t7
          go_region_law ((refine step_append_w _ (by rfl) (.tmp 80) (.tmp 96) (by rfl) B (some ⟨G, 0, none⟩) c' out [IntKind.u32.wrap (IntKind.u32.wrap (IntKind.u32.wrap (u + S) + v) + T)] (by rfl) (WRow.below HOWN.out ((Below.refl _ w4).alloc (Nat.le_refl _) _).drew) ⟨w4.heap.size, 0, none⟩ 1 1 (by rfl) rfl (by omega) (wcell_one w4 _) hlen (by simp; omega) ?_; intro g3 c3 w3 o3 ho3 hown3 hb3; have hb4 : Below B w4 w3 := (((Below.refl _ w4).alloc hbs4 _).drew).trans hb3))
          all_goals
            have hbel3 : Below B w w3 := hbel4.trans hb4
            have ho5 : Hid (o3 = schL l (k + 1)) := by
              unfold Hid
              rw [ho3.out, ho.out, schL_succ, HS.out, hes.out, het.out, IntKind.wrap_u32, IntKind.wrap_u32, IntKind.wrap_u32]
              congr 2
              omega
            have hol3 : o3.length = out.length + 1 := by rw [ho3.out]; simp
            have HOL := Lib.hid (show o3.length ≤ k + 1 ∧ k + 1 ≤ o3.length by omega)
            clear hol3 hm16 hm7
            go_wp2
            go_roundw
            case rel => exact ⟨k + 1, some ⟨g3, 0, none⟩, c3, o3, rfl, by go_num, by omega, by omega, ho5, HOL.out.1, HOL.out.2, hown3, hbel3⟩
            case measure => simp [intOf]; omega
        · have hk64 : k = 64 := by omega
          have HO : Hid (out = schL l 64) := by rw [Hid, ho.out, hk64]
          have dk : decide ((k : Int) < 64) = false := decide_eq_false (by omega)
          clear hk64 hk hlt ho hol hol2 hcell hk0
          generalize (k : Int) = kz at *
          go_wp2
          go_ret
          refine ⟨G, c', ?_, ?_, hbel⟩
          · rw [← HO.out]; rfl
          · rw [← HO.out]; exact hown
end Go.Proofs.YtgmlhgojkmpkkaaDoor
