/- Hex and Of, walked. -/
import Derived.Test.YtgmlhgojkmpkkaaDoorSha
import Derived.Deep.RegionHeld3
namespace Go.Proofs.YtgmlhgojkmpkkaaDoor
open Go.ChangeShapes Go.WideShapes Go.ChangeAt Go.RowKit Go.Lib
set_option linter.unusedVariables false

theorem hexS_at (n : Nat) (hn : n < 16) (x : Int) (hx : x = n) : ∀ W : World, (Instr.index 9 (.string { data := #[48, 49, 50, 51, 52, 53, 54, 55, 56, 57, 97, 98, 99, 100, 101, 102] }) (.int .u8 x)).run Tryd.prog W = .ok (.int .u8 ((hexD n).toNat : Int)) W := by
  subst hx
  rcases (show n = 0 ∨ n = 1 ∨ n = 2 ∨ n = 3 ∨ n = 4 ∨ n = 5 ∨ n = 6 ∨ n = 7 ∨ n = 8 ∨ n = 9 ∨ n = 10 ∨ n = 11 ∨ n = 12 ∨ n = 13 ∨ n = 14 ∨ n = 15 by omega) with rfl | rfl | rfl | rfl | rfl | rfl | rfl | rfl | rfl | rfl | rfl | rfl | rfl | rfl | rfl | rfl <;> exact fun _ => by kernel_rfl
theorem cell_by2 (w : World) (x0 x1 : Int) (d0 d1 : UInt8) (h0 : x0 = d0.toNat) (h1 : x1 = d1.toNat) : ∀ j u, (byteCells [d0, d1])[j]? = some u → (w.alloc (.cells #[.int .u8 x0, .int .u8 x1] 5)).cell? ((⟨w.heap.size, 0, none⟩ : Addr).add j) = some u := by
  subst h0; subst h1
  exact cells_new w [.int .u8 d0.toNat, .int .u8 d1.toNat] 5
theorem hexL_take_succ {l : List UInt8} {k : Nat} (h : k < l.length) : hexL (l.take (k + 1)) = hexL (l.take k) ++ [hexD ((l[k]'h).toNat / 16), hexD ((l[k]'h).toNat % 16)] := by
  rw [List.take_succ_eq_append_getElem h, hexL_append]
  rfl
theorem u8_and15 (n : Nat) (h : n < 256) : bits .and .u8 (n : Int) 15 = ((n % 16 : Nat) : Int) := by
  have hd : ∀ m : Fin 256, bits .and .u8 ((m.val : Nat) : Int) 15 = ((m.val % 16 : Nat) : Int) := by decide +kernel
  exact hd ⟨n, h⟩
theorem idx_at' (l : List UInt8) {k : Nat} (h : k < l.length) : ∀ h', ((bs l)[k]'h').toNat = (l[k]'h).toNat := fun _ => rfl
set_option maxRecDepth 100000 in
set_option maxHeartbeats 1000000 in
theorem hex_any (l : List UInt8) (hl : l.length ≤ 100000000) (w : World) : Calls Tryd.prog 28 #[.string (bs l)] w (StrPost w (hexL l)) := by
  have hs := bs_size l
  obtain ⟨B, hB⟩ : ∃ B, w.heap.size = B := ⟨_, rfl⟩
  unfold StrPost
  rw [hB]
  obtain ⟨cs, cs1, cs2, hmk⟩ := make_bytes 0 (2 * l.length) 0 (2 * (l.length : Int)) rfl (by omega) (by omega) (by omega)
  have hom := owns_made w B 0 (2 * l.length) cs 5 cs1 (by omega) (by omega) (by omega)
  have hbm := (Below.refl B w).alloc (by omega) (.cells cs 5)
  have HOM := Lib.hid hom
  clear cs1 cs2 hom
  go_enter Tryd.func28, Tryd.ntmps28
  go_wp2
  go_loopw [3, 11] (fun v3 v11 wr => ∃ (k : Nat) (a : Option Addr) (c : Nat) (out : List UInt8), v3 = .slice a out.length c ∧ v11 = .int .i64 k ∧ k ≤ l.length ∧ Hid (out = hexL (l.take k)) ∧ out.length ≤ 2 * k ∧ OwnsT wr B 5 (.slice a out.length c) out.length (byteCells out) ∧ Below B w wr) (fun _ v _ => l.length - (intOf v).toNat)
  case atStart => exact ⟨0, _, _, [], rfl, rfl, by omega, rfl, by simp, by have h := HOM.out; rw [hB] at h; exact h, hbm⟩
  case round =>
    clear HOM hbm hmk
    obtain ⟨k, a, c, out, rfl, rfl, hk, ho, hol, hown, hbel⟩ := hrel
    have hbs := hbel.size
    rw [hB] at hbs
    by_cases hlt : k < l.length
    · have hix := idx_at' l hlt
      have hst : Hid (∀ o3, o3 = out ++ [hexD ((l[k]'hlt).toNat / 16), hexD ((l[k]'hlt).toNat % 16)] → o3 = hexL (l.take (k + 1))) := by
        intro o3 e
        rw [e, ho.out, hexL_take_succ hlt]
      have hz := UInt8.toNat_lt (l[k]'hlt)
      generalize (l[k]'hlt).toNat = n at *
      have hn1 := hexS_at (n / 16) (by omega) ((n : Int) / 16) (by omega)
      have ha := u8_and15 n hz
      have hn2 := hexS_at (n % 16) (by omega) (((n % 16 : Nat) : Int)) rfl
      have hd1 := UInt8.toNat_lt (hexD (n / 16))
      have hd2 := UInt8.toNat_lt (hexD (n % 16))
      have ek : (k : Int) < (l.length : Int) := by omega
      generalize hexD (n / 16) = D1 at *
      generalize hexD (n % 16) = D2 at *
      generalize ((n % 16 : Nat) : Int) = nm at *
      go_wp2
      have hlen2 : out.length + [D1, D2].length ≤ 1000000000 := by simp; omega
      go_region_held3 (fun _ => True) (trivial) ((refine step_append_by _ (by rfl) (.tmp 14) (.tmp 25) (by rfl) B _ out [D1, D2] (by rfl) (OwnsT.alloc (w := wr.drew) hown _) ⟨wr.heap.size, 0, none⟩ 2 2 (by rfl) rfl (cell_by2 wr.drew _ _ _ _ rfl rfl) hlen2 (by simp; omega) ?_; intro a3 c3 w3 o3 ho3 hown3 hb3))
      all_goals
        have hbel3 : Below B w w3 := (hbel.drew.alloc hbs _).trans hb3
        have ho4 := Lib.hid (hst.out o3 ho3.out)
        have hol3 : o3.length ≤ 2 * (k + 1) := by rw [ho3.out, List.length_append]; simp; omega
        go_wp2
        go_roundw
        case rel => exact ⟨k + 1, a3, c3, o3, rfl, by go_num, by omega, ho4, hol3, hown3, hbel3⟩
        case measure => simp [intOf]; omega
    · obtain rfl : k = l.length := by omega
      have hcv := conv_bytes hown
      have hfin : Hid (out = hexL l) := by
        unfold Hid
        rw [ho.out, List.take_length]
      go_wp2
      go_ret
      exact ⟨by rw [← hfin.out]; rfl, hbel⟩
/-- the text whose digest makes an actor's id -/
def actL (p : Int) : List UInt8 := textL actorB ++ numI p
theorem actL_length (p : Int) : (actL p).length ≤ 16 := by
  have := numI_length p
  have e : (textL actorB).length = 6 := by decide
  unfold actL
  rw [List.length_append, e]
  omega
/-- an actor's id -/
def ofL (p : Int) : List UInt8 := (hexL (shaL (actL p))).take 16
theorem of_any (p : Int) (hp : wf64 p) (w : World) (hL : LaidS w) : Calls Tryd.prog 12 #[.int .i64 p] w (StrPost w (ofL p)) := by
  have c1 := fun W => enc_text actorB W (by decide)
  have c2 : ∀ W, Calls Tryd.prog 24 #[.int .i64 p] W (StrPost W (numI p)) := fun W => enc_num p W hp.2
  have ha := bs_append (textL actorB) (numI p)
  have hno : ¬ (9223372036854775807 < (bs (textL actorB)).size + (bs (numI p)).size) := by
    rw [bs_size, bs_size]
    have := numI_length p
    have e : (textL actorB).length = 6 := by decide
    omega
  have hal := actL_length p
  have hR : Hid (ofL p = (hexL (shaL (actL p))).take 16) := rfl
  have hA : Hid (actL p = textL actorB ++ numI p) := rfl
  have e0 : (⟨#[97, 99, 116, 111, 114]⟩ : ByteArray) = bs actorB := rfl
  rw [show textL actorB ++ numI p = actL p from rfl] at ha
  have c3 := fun W (hW : LaidS W) => sha_any (actL p) (by omega) W hW
  have hsl := shaL_length (actL p)
  have c4 := fun W => hex_any (shaL (actL p)) (by omega) W
  have hhl := hexL_length (shaL (actL p))
  have c5 := fun W => slice_to (hexL (shaL (actL p))) 16 (by omega) 16 rfl W
  generalize ofL p = R at *
  generalize (hexL (shaL (actL p))).take 16 = R' at *
  generalize hexL (shaL (actL p)) = H at *
  generalize shaL (actL p) = D at *
  generalize actL p = T at *
  generalize numI p = n at *
  generalize textL actorB = t at *
  generalize actorB = ab at *
  clear hA hhl hsl hal
  go_enter Tryd.func12, Tryd.ntmps12
  rw [e0]
  go_wp2_with fail
  refine (c1 _).mono ?_
  rintro e w1 ⟨rfl, hb1⟩
  go_wp2_with fail
  refine (c2 _).mono ?_
  rintro e w2 ⟨rfl, hbx⟩
  have hb2 := hb1.trans (hbx.mono hb1.size)
  clear hbx hb1
  go_wp2_with fail
  refine (c3 _ (hL.below hb2)).mono ?_
  rintro e w3 ⟨rfl, hbx⟩
  have hb3 := hb2.trans (hbx.mono hb2.size)
  clear hbx hb2
  go_wp2_with fail
  refine (c4 _).mono ?_
  rintro e w4 ⟨rfl, hbx⟩
  have hb4 := hb3.trans (hbx.mono hb3.size)
  clear hbx hb3
  go_wp2
  go_ret
  exact ⟨by rw [hR.out]; rfl, hb4⟩
end Go.Proofs.YtgmlhgojkmpkkaaDoor
