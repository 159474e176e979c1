/- The reference's Hex and Of, walked. -/
import Derived.Test.YtgmlhgojkmpkkaaDoorRSha
namespace Go.Proofs.YtgmlhgojkmpkkaaDoor
open Go.ChangeShapes Go.WideShapes Go.ChangeAt Go.RowKit Go.Lib
set_option linter.unusedVariables false

set_option maxRecDepth 100000 in
set_option maxHeartbeats 1000000 in
theorem rhex_any (l : List UInt8) (hl : l.length ≤ 100000000) (w : World) : Calls Tryd.prog 29 #[.string (bs l)] w (StrPost w (hexL l)) := by
  have hs := bs_size l
  obtain ⟨B, hB⟩ : ∃ B, w.heap.size = B := ⟨_, rfl⟩
  unfold StrPost
  rw [hB]
  have hnil : OwnsT w B 5 (.slice none ([] : List UInt8).length 0) ([] : List UInt8).length (byteCells []) := ⟨by simp [byteCells], .inl ⟨rfl, rfl⟩⟩
  go_enter Tryd.func29, Tryd.ntmps29
  go_wp2
  go_loopw [3, 4] (fun v3 v4 wr => ∃ (k : Nat) (a : Option Addr) (c : Nat) (out : List UInt8), v3 = .slice a out.length c ∧ v4 = .int .i64 k ∧ k ≤ l.length ∧ Hid (out = hexL (l.take k)) ∧ out.length ≤ 2 * k ∧ OwnsT wr B 5 (.slice a out.length c) out.length (byteCells out) ∧ Below B w wr) (fun _ v _ => l.length - (intOf v).toNat)
  case atStart => exact ⟨0, _, _, [], rfl, rfl, by omega, rfl, by simp, hnil, Below.refl _ _⟩
  case round =>
    clear hnil
    obtain ⟨k, a, c, out, rfl, rfl, hk, ho, hol, hown, hbel⟩ := hrel
    have hbs := hbel.size
    rw [hB] at hbs
    by_cases hlt : k < l.length
    · have hix := idx_at' l hlt
      have hst : Hid (∀ o3, o3 = out ++ [hexD ((l[k]'hlt).toNat / 16), hexD ((l[k]'hlt).toNat % 16)] → o3 = hexL (l.take (k + 1))) := by
        intro o3 e
        rw [e, ho.out, hexL_take_succ hlt]
      have hz := UInt8.toNat_lt (l[k]'hlt)
      generalize (l[k]'hlt).toNat = n at *
      have hn1 := hexS_at (n / 16) (by omega) (((n / 16 : Nat) : Int)) rfl
      have hn2 := hexS_at (n % 16) (by omega) (((n % 16 : Nat) : Int)) rfl
      have hd1 := UInt8.toNat_lt (hexD (n / 16))
      have hd2 := UInt8.toNat_lt (hexD (n % 16))
      have ek : (k : Int) < (l.length : Int) := by omega
      obtain ⟨q1, hq1⟩ : ∃ q : Nat, n / 16 = q := ⟨_, rfl⟩
      obtain ⟨q2, hq2⟩ : ∃ q : Nat, n % 16 = q := ⟨_, rfl⟩
      have x1 : (n : Int).tdiv 16 = (q1 : Int) := by rw [Int.tdiv_eq_ediv_of_nonneg (by omega)]; omega
      have x2 : (n : Int) / 16 = (q1 : Int) := by omega
      have x3 : (n : Int).tmod 16 = (q2 : Int) := by rw [Int.tmod_eq_emod_of_nonneg (by omega)]; omega
      have x4 : (n : Int) % 16 = (q2 : Int) := by omega
      have x5 : IntKind.u8.wrap (q1 : Int) = (q1 : Int) := IntWalk.u8_in _ (by omega)
      have x6 : IntKind.u8.wrap (q2 : Int) = (q2 : Int) := IntWalk.u8_in _ (by omega)
      rw [hq1] at hn1 hd1 hst
      rw [hq2] at hn2 hd2 hst
      clear hq1 hq2
      generalize hexD q1 = D1 at *
      generalize hexD q2 = D2 at *
      go_wp2
      have hlen2 : out.length + [D1, D2].length ≤ 1000000000 := by simp; omega
      go_region_held3 (fun _ => True) (trivial) ((refine step_append_by _ (by rfl) (.tmp 11) (.tmp 22) (by rfl) B _ out [D1, D2] (by rfl) (OwnsT.alloc (w := wr.drew) hown _) ⟨wr.heap.size, 0, none⟩ 2 2 (by rfl) rfl (cell_by2 wr.drew _ _ _ _ rfl rfl) hlen2 (by simp; omega) ?_; intro a3 c3 w3 o3 ho3 hown3 hb3))
      all_goals
        have hbel3 : Below B w w3 := (hbel.drew.alloc hbs _).trans hb3
        have ho4 := Lib.hid (hst.out o3 ho3.out)
        have hol3 : o3.length ≤ 2 * (k + 1) := by rw [ho3.out, List.length_append]; simp; omega
        go_wp2
        go_roundw
        case rel => exact ⟨k + 1, a3, c3, o3, rfl, by go_num, by omega, ho4, hol3, hown3, hbel3⟩
        case measure => simp [intOf]; omega
    · obtain rfl : k = l.length := by omega
      have hcv := conv_bytes hown
      have hfin : Hid (out = hexL l) := by
        unfold Hid
        rw [ho.out, List.take_length]
      go_wp2
      go_ret
      exact ⟨by rw [← hfin.out]; rfl, hbel⟩
theorem rof_any (p : Int) (hp : wf64 p) (w : World) : Calls Tryd.prog 13 #[.int .i64 p] w (StrPost w (ofL p)) := by
  have c1 := fun W => renc_text actorB W (by decide)
  have c2 : ∀ W, Calls Tryd.prog 32 #[.int .i64 p] W (StrPost W (numI p)) := fun W => renc_num p W hp.2
  have ha := bs_append (textL actorB) (numI p)
  have hno : ¬ (9223372036854775807 < (bs (textL actorB)).size + (bs (numI p)).size) := by
    rw [bs_size, bs_size]
    have := numI_length p
    have e : (textL actorB).length = 6 := by decide
    omega
  have hal := actL_length p
  have hR : Hid (ofL p = (hexL (shaL (actL p))).take 16) := rfl
  have hA : Hid (actL p = textL actorB ++ numI p) := rfl
  have e0 : (⟨#[97, 99, 116, 111, 114]⟩ : ByteArray) = bs actorB := rfl
  rw [show textL actorB ++ numI p = actL p from rfl] at ha
  have c3 := fun W => rsha_any (actL p) (by omega) W
  have hsl := shaL_length (actL p)
  have c4 := fun W => rhex_any (shaL (actL p)) (by omega) W
  have hhl := hexL_length (shaL (actL p))
  have c5 := fun W => slice_to (hexL (shaL (actL p))) 16 (by omega) 16 rfl W
  generalize ofL p = R at *
  generalize (hexL (shaL (actL p))).take 16 = R' at *
  generalize hexL (shaL (actL p)) = H at *
  generalize shaL (actL p) = D at *
  generalize actL p = T at *
  generalize numI p = n at *
  generalize textL actorB = t at *
  generalize actorB = ab at *
  clear hA hhl hsl hal
  go_enter Tryd.func13, Tryd.ntmps13
  rw [e0]
  go_wp2_with fail
  refine (c1 _).mono ?_
  rintro e w1 ⟨rfl, hb1⟩
  go_wp2_with fail
  refine (c2 _).mono ?_
  rintro e w2 ⟨rfl, hbx⟩
  have hb2 := hb1.trans (hbx.mono hb1.size)
  clear hbx hb1
  go_wp2_with fail
  refine (c3 _).mono ?_
  rintro e w3 ⟨rfl, hbx⟩
  have hb3 := hb2.trans (hbx.mono hb2.size)
  clear hbx hb2
  go_wp2_with fail
  refine (c4 _).mono ?_
  rintro e w4 ⟨rfl, hbx⟩
  have hb4 := hb3.trans (hbx.mono hb3.size)
  clear hbx hb3
  go_wp2
  go_ret
  exact ⟨by rw [hR.out]; rfl, hb4⟩
end Go.Proofs.YtgmlhgojkmpkkaaDoor
