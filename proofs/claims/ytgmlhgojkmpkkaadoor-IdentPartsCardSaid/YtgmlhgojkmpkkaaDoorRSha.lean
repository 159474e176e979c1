/- The reference's Sha of a text of one block, walked. -/
import Derived.Test.YtgmlhgojkmpkkaaDoorRNext
namespace Go.Proofs.YtgmlhgojkmpkkaaDoor
open Go.ChangeShapes Go.WideShapes Go.ChangeAt Go.RowKit Go.Lib
set_option linter.unusedVariables false

theorem OwnsT.bytes {w : World} {base c : Nat} {a : Option Addr} {l : List UInt8} (h : OwnsT w base 5 (.slice a l.length c) l.length (byteCells l)) (hn : 0 < l.length) : ∃ g, a = some ⟨g, 0, none⟩ ∧ base ≤ g ∧ g < w.heap.size ∧ l.length ≤ c ∧ BytesAt w g l := by
  rcases h.2 with ⟨hv, h0⟩ | ⟨g, cap, cur, fz, hv, hbg, hg, hfz, hnc, _⟩
  · omega
  · have hv' := hv
    simp only [Value.slice.injEq] at hv'
    obtain ⟨rfl, _, rfl⟩ := hv'
    refine ⟨g, rfl, hbg, lt_heap hg, hnc, fun j hj => ?_⟩
    have := h.cells (g := g) (c := c) rfl j (.int .u8 (byN l j)) (by
      simp only [byteCells, List.getElem?_map, List.getElem?_eq_getElem hj, byN, List.getD_eq_getElem?_getD]
      rfl)
    have hadd : (⟨g, 0, none⟩ : Addr).add j = ⟨g, j, none⟩ := by unfold Addr.add; split <;> simp_all
    rw [hadd] at this
    exact this
theorem word_take (x : Int) {r : Nat} (h : r < 4) : (wordL4 x)[r]? = some (UInt8.ofNat (x.toNat / 2 ^ (24 - 8 * r))) := by
  rcases (show r = 0 ∨ r = 1 ∨ r = 2 ∨ r = 3 by omega) with rfl | rfl | rfl | rfl <;> simp [wordL4]
theorem flat4_get : ∀ (l : List Int) (q r : Nat), r < 4 → (l.flatMap wordL4)[4 * q + r]? = (l[q]?).bind fun x => (wordL4 x)[r]?
  | [], q, r, _ => by simp
  | x :: l, 0, r, h => by
    rw [List.flatMap_cons, List.getElem?_append_left (by rw [wordL4_length]; omega)]
    simp
  | x :: l, q + 1, r, h => by
    rw [List.flatMap_cons, List.getElem?_append_right (by rw [wordL4_length]; omega), wordL4_length, show 4 * (q + 1) + r - 4 = 4 * q + r by omega, flat4_get l q r h]
    simp
theorem dig_take (S : St) {k : Nat} (h : k < 32) : (S.toL.flatMap wordL4).take (k + 1) = (S.toL.flatMap wordL4).take k ++ [UInt8.ofNat ((S.w (k / 4)).toNat / 2 ^ (24 - 8 * (k % 4)))] := by
  rw [List.take_add_one]
  have hk : k = 4 * (k / 4) + k % 4 := by omega
  have e : (S.toL.flatMap wordL4)[k]? = some (UInt8.ofNat ((S.w (k / 4)).toNat / 2 ^ (24 - 8 * (k % 4)))) := by
    conv => lhs; rw [hk]
    rw [flat4_get _ _ _ (by omega), toL_tl8, tl8_get _ (by omega), Option.bind_some, word_take _ (by omega)]
  rw [e]
  simp
set_option maxRecDepth 100000 in
set_option maxHeartbeats 1000000 in
theorem rsha_any (l : List UInt8) (hl : l.length ≤ 55) (w : World) : Calls Tryd.prog 30 #[.string (bs l)] w (StrPost w (shaL l)) := by
  have hs := bs_size l
  have cf := fun W => firsts_any W
  go_enter Tryd.func30, Tryd.ntmps30
  go_wp2
  obtain ⟨a0, c0, w0, hcv, hown0, hb0⟩ := bytes_own w l (by omega)
  rw [hcv]
  clear hcv
  go_wp2_with (at_builtin; refine wpList_append_by _ rfl _ _ rfl w.heap.size _ l [128] rfl (hown0.alloc _) ⟨w0.heap.size, 0, none⟩ 1 1 rfl rfl ?c1 ?c2 ?c3 ?_)
  case c1 => exact cell_by w0 128 128 rfl
  case c2 => simp; omega
  case c3 => have := hb0.size; simp; omega
  intro a1 c1 w1 o1 ho1 hown1 hb1
  have hbel1 : Below w.heap.size w w1 := (hb0.alloc hb0.size _).trans hb1
  clear hown0 hb0 hb1
  go_wp2
  go_loopw [3] (fun v wr => ∃ (k : Nat) (a : Option Addr) (c : Nat) (out : List UInt8), v = .slice a out.length c ∧ Hid (out = l ++ 128 :: List.replicate k 0) ∧ l.length + 1 + k ≤ 56 ∧ OwnsT wr w.heap.size 5 (.slice a out.length c) out.length (byteCells out) ∧ Below w.heap.size w wr) (fun v _ => 56 - (match v with | .slice _ n _ => n | _ => 0))
  case atStart => exact ⟨0, a1, c1, o1, rfl, by unfold Hid; rw [ho1.out]; rfl, by omega, hown1, hbel1⟩
  case round =>
    clear hown1 hbel1 ho1
    obtain ⟨k, a, c, out, rfl, ho, hk, hown, hbel⟩ := hrel
    have hlen : out.length = l.length + 1 + k := by rw [ho.out]; simp; omega
    have h1 : 1 ≤ out.length := by omega
    have h2 : out.length ≤ 56 := by omega
    have HL := Lib.hid hlen
    clear hlen
    by_cases h56 : out.length = 56
    · have H56 := Lib.hid h56
      have t1 : (((out.length : Nat) : Int) % 64 == 56) = true := by rw [h56]; rfl
      have t2 : (((out.length : Nat) : Int) % 64 != 56) = false := by rw [h56]; rfl
      clear h56
      go_wp2
      have HO : Hid (out = l ++ 128 :: List.replicate (55 - l.length) 0 ++ (lenB (8 * l.length)).take 0) := by
        have e1 := H56.out
        have e2 := HL.out
        unfold Hid
        rw [ho.out, show k = 55 - l.length by omega]
        simp
      clear ho HL H56 t1 t2 hk h1 h2
      obtain ⟨w2, rfl⟩ : ∃ w2 : World, w2 = wr := ⟨_, rfl⟩
      go_loopw [3, 5] (fun v5 v7 wr => ∃ (k : Nat) (z : Int) (a : Option Addr) (c : Nat) (out : List UInt8), v5 = .slice a out.length c ∧ v7 = .int .i64 z ∧ z = 56 - 8 * (k : Int) ∧ k ≤ 8 ∧ Hid (out = l ++ 128 :: List.replicate (55 - l.length) 0 ++ (lenB (8 * l.length)).take k) ∧ OwnsT wr w.heap.size 5 (.slice a out.length c) out.length (byteCells out) ∧ Below w.heap.size w wr) (fun _ v7 _ => (intOf v7 + 8).toNat)
      case atStart => exact ⟨0, 56, a, c, out, rfl, rfl, rfl, by omega, HO, hown, hbel⟩
      case round =>
        clear hown hbel HO
        obtain ⟨k, z, a, c, out, rfl, rfl, hz, hk, ho, hown, hbel⟩ := hrel
        by_cases h8 : k < 8
        · have hst : Hid (∀ out', out' = out ++ [UInt8.ofNat (8 * l.length / 2 ^ (56 - 8 * k))] → out' = l ++ 128 :: List.replicate (55 - l.length) 0 ++ (lenB (8 * l.length)).take (k + 1)) := by
            intro out' e
            rw [e, ho.out, lenB_take _ h8]
            simp
          have hlen : out.length ≤ 64 := by rw [ho.out]; simp [lenB_length]; omega
          rcases (show (k = 0 ∧ z = 56) ∨ (k = 1 ∧ z = 48) ∨ (k = 2 ∧ z = 40) ∨ (k = 3 ∧ z = 32) ∨ (k = 4 ∧ z = 24) ∨ (k = 5 ∧ z = 16) ∨ (k = 6 ∧ z = 8) ∨ (k = 7 ∧ z = 0) by omega) with ⟨rfl, rfl⟩ | ⟨rfl, rfl⟩ | ⟨rfl, rfl⟩ | ⟨rfl, rfl⟩ | ⟨rfl, rfl⟩ | ⟨rfl, rfl⟩ | ⟨rfl, rfl⟩ | ⟨rfl, rfl⟩
          all_goals clear hz
          · go_wp2_with (at_builtin; refine wpList_append_by _ rfl _ _ rfl w.heap.size _ out [UInt8.ofNat (8 * l.length / 2 ^ (56 - 8 * 0))] rfl (hown.alloc _) ⟨wr.heap.size, 0, none⟩ 1 1 rfl rfl ?c1 ?c2 ?c3 ?_)
            case c1 => exact cell_by wr _ _ (by simp [UInt8.toNat_ofNat']; omega)
            case c2 => simp; omega
            case c3 => have := hbel.size; simp; omega
            intro a3 c3 w3 o3 ho3 hown3 hb3
            have hbel3 : Below w.heap.size w w3 := (hbel.alloc hbel.size _).trans hb3
            have ho4 := Lib.hid (hst.out o3 ho3.out)
            go_wp2
            go_roundw
            case rel => exact ⟨1, 48, a3, c3, o3, rfl, rfl, by omega, by omega, ho4, hown3, hbel3⟩
            case measure => simp [intOf]
          · go_wp2_with (at_builtin; refine wpList_append_by _ rfl _ _ rfl w.heap.size _ out [UInt8.ofNat (8 * l.length / 2 ^ (56 - 8 * 1))] rfl (hown.alloc _) ⟨wr.heap.size, 0, none⟩ 1 1 rfl rfl ?c1 ?c2 ?c3 ?_)
            case c1 => exact cell_by wr _ _ (by simp [UInt8.toNat_ofNat']; omega)
            case c2 => simp; omega
            case c3 => have := hbel.size; simp; omega
            intro a3 c3 w3 o3 ho3 hown3 hb3
            have hbel3 : Below w.heap.size w w3 := (hbel.alloc hbel.size _).trans hb3
            have ho4 := Lib.hid (hst.out o3 ho3.out)
            go_wp2
            go_roundw
            case rel => exact ⟨2, 40, a3, c3, o3, rfl, rfl, by omega, by omega, ho4, hown3, hbel3⟩
            case measure => simp [intOf]
          · go_wp2_with (at_builtin; refine wpList_append_by _ rfl _ _ rfl w.heap.size _ out [UInt8.ofNat (8 * l.length / 2 ^ (56 - 8 * 2))] rfl (hown.alloc _) ⟨wr.heap.size, 0, none⟩ 1 1 rfl rfl ?c1 ?c2 ?c3 ?_)
            case c1 => exact cell_by wr _ _ (by simp [UInt8.toNat_ofNat']; omega)
            case c2 => simp; omega
            case c3 => have := hbel.size; simp; omega
            intro a3 c3 w3 o3 ho3 hown3 hb3
            have hbel3 : Below w.heap.size w w3 := (hbel.alloc hbel.size _).trans hb3
            have ho4 := Lib.hid (hst.out o3 ho3.out)
            go_wp2
            go_roundw
            case rel => exact ⟨3, 32, a3, c3, o3, rfl, rfl, by omega, by omega, ho4, hown3, hbel3⟩
            case measure => simp [intOf]
          · go_wp2_with (at_builtin; refine wpList_append_by _ rfl _ _ rfl w.heap.size _ out [UInt8.ofNat (8 * l.length / 2 ^ (56 - 8 * 3))] rfl (hown.alloc _) ⟨wr.heap.size, 0, none⟩ 1 1 rfl rfl ?c1 ?c2 ?c3 ?_)
            case c1 => exact cell_by wr _ _ (by simp [UInt8.toNat_ofNat']; omega)
            case c2 => simp; omega
            case c3 => have := hbel.size; simp; omega
            intro a3 c3 w3 o3 ho3 hown3 hb3
            have hbel3 : Below w.heap.size w w3 := (hbel.alloc hbel.size _).trans hb3
            have ho4 := Lib.hid (hst.out o3 ho3.out)
            go_wp2
            go_roundw
            case rel => exact ⟨4, 24, a3, c3, o3, rfl, rfl, by omega, by omega, ho4, hown3, hbel3⟩
            case measure => simp [intOf]
          · go_wp2_with (at_builtin; refine wpList_append_by _ rfl _ _ rfl w.heap.size _ out [UInt8.ofNat (8 * l.length / 2 ^ (56 - 8 * 4))] rfl (hown.alloc _) ⟨wr.heap.size, 0, none⟩ 1 1 rfl rfl ?c1 ?c2 ?c3 ?_)
            case c1 => exact cell_by wr _ _ (by simp [UInt8.toNat_ofNat']; omega)
            case c2 => simp; omega
            case c3 => have := hbel.size; simp; omega
            intro a3 c3 w3 o3 ho3 hown3 hb3
            have hbel3 : Below w.heap.size w w3 := (hbel.alloc hbel.size _).trans hb3
            have ho4 := Lib.hid (hst.out o3 ho3.out)
            go_wp2
            go_roundw
            case rel => exact ⟨5, 16, a3, c3, o3, rfl, rfl, by omega, by omega, ho4, hown3, hbel3⟩
            case measure => simp [intOf]
          · go_wp2_with (at_builtin; refine wpList_append_by _ rfl _ _ rfl w.heap.size _ out [UInt8.ofNat (8 * l.length / 2 ^ (56 - 8 * 5))] rfl (hown.alloc _) ⟨wr.heap.size, 0, none⟩ 1 1 rfl rfl ?c1 ?c2 ?c3 ?_)
            case c1 => exact cell_by wr _ _ (by simp [UInt8.toNat_ofNat']; omega)
            case c2 => simp; omega
            case c3 => have := hbel.size; simp; omega
            intro a3 c3 w3 o3 ho3 hown3 hb3
            have hbel3 : Below w.heap.size w w3 := (hbel.alloc hbel.size _).trans hb3
            have ho4 := Lib.hid (hst.out o3 ho3.out)
            go_wp2
            go_roundw
            case rel => exact ⟨6, 8, a3, c3, o3, rfl, rfl, by omega, by omega, ho4, hown3, hbel3⟩
            case measure => simp [intOf]
          · go_wp2_with (at_builtin; refine wpList_append_by _ rfl _ _ rfl w.heap.size _ out [UInt8.ofNat (8 * l.length / 2 ^ (56 - 8 * 6))] rfl (hown.alloc _) ⟨wr.heap.size, 0, none⟩ 1 1 rfl rfl ?c1 ?c2 ?c3 ?_)
            case c1 => exact cell_by wr _ _ (by simp [UInt8.toNat_ofNat']; omega)
            case c2 => simp; omega
            case c3 => have := hbel.size; simp; omega
            intro a3 c3 w3 o3 ho3 hown3 hb3
            have hbel3 : Below w.heap.size w w3 := (hbel.alloc hbel.size _).trans hb3
            have ho4 := Lib.hid (hst.out o3 ho3.out)
            go_wp2
            go_roundw
            case rel => exact ⟨7, 0, a3, c3, o3, rfl, rfl, by omega, by omega, ho4, hown3, hbel3⟩
            case measure => simp [intOf]
          · obtain ⟨d, hd0⟩ : ∃ d, d = UInt8.ofNat (8 * l.length / 2 ^ (56 - 8 * 7)) := ⟨_, rfl⟩
            have hd := Lib.hid hd0
            clear hd0
            go_wp2_with (at_builtin; refine wpList_append_by _ rfl _ _ rfl w.heap.size _ out [d] rfl (hown.alloc _) ⟨wr.heap.size, 0, none⟩ 1 1 rfl rfl ?c1 ?c2 ?c3 ?_)
            case c1 => exact cell_by wr _ _ (by rw [hd.out]; simp [UInt8.toNat_ofNat'] <;> omega)
            case c2 => simp; omega
            case c3 => have := hbel.size; simp; omega
            intro a3 c3 w3 o3 ho3 hown3 hb3
            have hbel3 : Below w.heap.size w w3 := (hbel.alloc hbel.size _).trans hb3
            have ho4 := Lib.hid (hst.out o3 (by rw [ho3.out, hd.out]))
            go_wp2
            go_roundw
            case rel => exact ⟨8, -8, a3, c3, o3, rfl, rfl, by omega, by omega, ho4, hown3, hbel3⟩
            case measure => simp [intOf]
        · obtain rfl : k = 8 := by omega
          obtain rfl : z = -8 := by omega
          have hfin : Hid (out = pad l) := by
            unfold Hid
            rw [ho.out, List.take_of_length_le (by rw [lenB_length]; exact Nat.le_refl 8)]
            simp [pad]
          have hpl := pad_length hl
          have hsh : Hid (shaL l = (mixS st0 (pad l)).toL.flatMap wordL4) := rfl
          generalize shaL l = R at *
          have hol : out.length = 64 := by rw [hfin.out]; exact hpl
          obtain ⟨g, rfl, hgB, hgl, hcc, hby⟩ := hown.bytes (by omega)
          rw [hfin.out] at hby
          rw [hol] at hcc ⊢
          clear hz hk h8 ho hown hfin hol out
          generalize pad l = p at *
          have mok := mixS_ok st0 p
          have cn := fun gh ch (hch : 8 ≤ ch) W hgh hgb hh hw => next_any st0 st0_ok p hpl gh ch g c hch hcc W hgh hgb hh hw
          generalize mixS st0 p = M at *
          have HPL := Lib.hid hpl
          clear hpl
          go_wp2_with fail
          refine (cf _).mono ?_
          rintro e w5 ⟨gh, ch, rfl, hrow, hb5⟩
          have hb6 := hbel.trans (hb5.mono hbel.size)
          have hby5 := hby.below hb5
          have hgl5 : g < w5.heap.size := by have := hb5.size; omega
          have hrow' := hrow.base (b2 := w.heap.size) hbel.size
          have h8 : st0.toL.length = 8 := rfl
          rw [h8]
          clear hb5 hbel hby hgl hrow
          go_wp2
          clear h8
          go_loopw [6, 7] (fun v6 v7 wr => ∃ (gh ch : Nat) (z : Int) (S : St), v6 = .slice (some ⟨gh, 0, none⟩) 8 ch ∧ v7 = .int .i64 z ∧ WRow wr w.heap.size (some ⟨gh, 0, none⟩) ch S.toL ∧ Below w.heap.size w wr ∧ BytesAt wr g p ∧ g < wr.heap.size ∧ ((z = 0 ∧ S = st0) ∨ (z = 64 ∧ S = M))) (fun _ v _ => (64 - intOf v).toNat)
          case atStart => exact ⟨gh, ch, 0, st0, rfl, rfl, hrow', hb6, hby5, hgl5, .inl ⟨rfl, rfl⟩⟩
          case round =>
            clear hrow' hb6 hby5 hgl5
            obtain ⟨gh, ch, z, S, rfl, rfl, hrow, hbel, hby, hgl, hq⟩ := hrel
            rcases hq with ⟨rfl, rfl⟩ | ⟨rfl, rfl⟩
            · obtain ⟨g', hg', _, hghl, hnc, _⟩ := hrow.at (by simp [St.toL])
              simp only [Option.some.injEq, Addr.mk.injEq] at hg'
              obtain ⟨rfl, _⟩ := hg'
              have cc := cn gh ch (by simpa [St.toL] using hnc) wr hghl hgl (StAt.of_row hrow) hby
              clear cn cf hnc
              go_wp2_with fail
              refine cc.mono ?_
              rintro e w6 ⟨g6, c6, rfl, hrow6, hb6⟩
              have h8 : M.toL.length = 8 := rfl
              rw [h8]
              have hb7 := hbel.trans (hb6.mono hbel.size)
              have hrow7 := hrow6.base (b2 := w.heap.size) hbel.size
              have hby7 := hby.below hb6
              have hgl7 : g < w6.heap.size := by have := hb6.size; omega
              clear hb6 hrow6 h8 hbel hrow hby hgl
              go_wp2
              go_roundw
              case rel => exact ⟨g6, c6, 64, M, rfl, rfl, hrow7, hb7, hby7, hgl7, .inr ⟨rfl, rfl⟩⟩
              case measure => simp [intOf]
            · have hst := StAt.of_row hrow
              obtain ⟨g', hg', _, hghl, hnc, _⟩ := hrow.at (by simp [St.toL])
              simp only [Option.some.injEq, Addr.mk.injEq] at hg'
              obtain ⟨rfl, _⟩ := hg'
              have hc8 : 8 ≤ ch := by simpa [St.toL] using hnc
              clear hnc hrow cn cf hby hgl HPL
              go_wp2
              obtain ⟨wo, rfl⟩ : ∃ wo : World, wo = wr := ⟨_, rfl⟩
              have hnil : OwnsT wo wo.heap.size 5 (.slice none ([] : List UInt8).length 0) ([] : List UInt8).length (byteCells []) := ⟨by simp [byteCells], .inl ⟨rfl, rfl⟩⟩
              have HST0 := Lib.hid hst
              clear hst
              go_loopw [8, 9] (fun v8 v9 wr => ∃ (k : Nat) (a : Option Addr) (c : Nat) (out : List UInt8), v8 = .slice a out.length c ∧ v9 = .int .i64 k ∧ k ≤ 32 ∧ Hid (out = (S.toL.flatMap wordL4).take k) ∧ out.length ≤ k ∧ OwnsT wr wo.heap.size 5 (.slice a out.length c) out.length (byteCells out) ∧ Below wo.heap.size wo wr) (fun _ v _ => 32 - (intOf v).toNat)
              case atStart => exact ⟨0, none, 0, [], rfl, rfl, by omega, rfl, by simp, hnil, Below.refl _ _⟩
              case round =>
                clear hnil
                obtain ⟨k, a, c, out, rfl, rfl, hk, ho, hol, hown, hb4⟩ := hrel
                have hbs := hb4.size
                have hst := HST0.out.below hb4
                by_cases hlt : k < 32
                · obtain ⟨q, hq4, hq8⟩ : ∃ q, q = k / 4 ∧ q < 8 := ⟨k / 4, rfl, by omega⟩
                  have hcell := hst q hq8
                  have okx := st_ok_w mok hq8
                  have hstep : Hid (∀ o3, o3 = out ++ [UInt8.ofNat ((S.w q).toNat / 2 ^ (24 - 8 * (k % 4)))] → o3 = (S.toL.flatMap wordL4).take (k + 1)) := by
                    intro o3 e
                    rw [e, ho.out, dig_take S hlt, hq4]
                  have e1 : (k : Int) / 4 = (q : Int) := by omega
                  have e1' : (k : Int).tdiv 4 = (q : Int) := by rw [Int.tdiv_eq_ediv_of_nonneg (by omega)]; exact e1
                  generalize S.w q = x at *
                  obtain ⟨r, hr⟩ : ∃ r, r = k % 4 := ⟨_, rfl⟩
                  rw [← hr] at hstep
                  have hq8' : (q : Int) < 8 := by omega
                  clear hst hq4
                  rcases (show r = 0 ∨ r = 1 ∨ r = 2 ∨ r = 3 by omega) with rfl | rfl | rfl | rfl
                  · have e2 : (k : Int) % 4 = 0 := by omega
                    have e2' : (k : Int).tmod 4 = 0 := by rw [Int.tmod_eq_emod_of_nonneg (by omega)]; exact e2
                    obtain ⟨d, hd0⟩ : ∃ d, d = UInt8.ofNat (x.toNat / 2 ^ (24 - 8 * 0)) := ⟨_, rfl⟩
                    have hd := Lib.hid hd0
                    clear hd0 hr
                    go_wp2_with (at_builtin; refine wpList_append_by _ rfl _ _ rfl wo.heap.size _ out [d] rfl (hown.alloc _) ⟨wr.heap.size, 0, none⟩ 1 1 rfl rfl ?c1 ?c2 ?c3 ?_)
                    case c1 => exact cell_by wr _ _ (by rw [hd.out]; simp [UInt8.toNat_ofNat']; omega)
                    case c2 => simp; omega
                    case c3 => simp; omega
                    intro a3 c3 w3 o3 ho3 hown3 hb3
                    have hbel3 : Below wo.heap.size wo w3 := (hb4.alloc hbs _).trans hb3
                    have ho4 := Lib.hid (hstep.out o3 (by rw [ho3.out, hd.out]))
                    have hol3 : o3.length ≤ k + 1 := by rw [ho3.out, List.length_append]; simp; omega
                    go_wp2
                    go_roundw
                    case rel => exact ⟨k + 1, a3, c3, o3, rfl, by go_num, by omega, ho4, hol3, hown3, hbel3⟩
                    case measure => simp [intOf]; omega
                  · have e2 : (k : Int) % 4 = 1 := by omega
                    have e2' : (k : Int).tmod 4 = 1 := by rw [Int.tmod_eq_emod_of_nonneg (by omega)]; exact e2
                    obtain ⟨d, hd0⟩ : ∃ d, d = UInt8.ofNat (x.toNat / 2 ^ (24 - 8 * 1)) := ⟨_, rfl⟩
                    have hd := Lib.hid hd0
                    clear hd0 hr
                    go_wp2_with (at_builtin; refine wpList_append_by _ rfl _ _ rfl wo.heap.size _ out [d] rfl (hown.alloc _) ⟨wr.heap.size, 0, none⟩ 1 1 rfl rfl ?c1 ?c2 ?c3 ?_)
                    case c1 => exact cell_by wr _ _ (by rw [hd.out]; simp [UInt8.toNat_ofNat']; omega)
                    case c2 => simp; omega
                    case c3 => simp; omega
                    intro a3 c3 w3 o3 ho3 hown3 hb3
                    have hbel3 : Below wo.heap.size wo w3 := (hb4.alloc hbs _).trans hb3
                    have ho4 := Lib.hid (hstep.out o3 (by rw [ho3.out, hd.out]))
                    have hol3 : o3.length ≤ k + 1 := by rw [ho3.out, List.length_append]; simp; omega
                    go_wp2
                    go_roundw
                    case rel => exact ⟨k + 1, a3, c3, o3, rfl, by go_num, by omega, ho4, hol3, hown3, hbel3⟩
                    case measure => simp [intOf]; omega
                  · have e2 : (k : Int) % 4 = 2 := by omega
                    have e2' : (k : Int).tmod 4 = 2 := by rw [Int.tmod_eq_emod_of_nonneg (by omega)]; exact e2
                    obtain ⟨d, hd0⟩ : ∃ d, d = UInt8.ofNat (x.toNat / 2 ^ (24 - 8 * 2)) := ⟨_, rfl⟩
                    have hd := Lib.hid hd0
                    clear hd0 hr
                    go_wp2_with (at_builtin; refine wpList_append_by _ rfl _ _ rfl wo.heap.size _ out [d] rfl (hown.alloc _) ⟨wr.heap.size, 0, none⟩ 1 1 rfl rfl ?c1 ?c2 ?c3 ?_)
                    case c1 => exact cell_by wr _ _ (by rw [hd.out]; simp [UInt8.toNat_ofNat']; omega)
                    case c2 => simp; omega
                    case c3 => simp; omega
                    intro a3 c3 w3 o3 ho3 hown3 hb3
                    have hbel3 : Below wo.heap.size wo w3 := (hb4.alloc hbs _).trans hb3
                    have ho4 := Lib.hid (hstep.out o3 (by rw [ho3.out, hd.out]))
                    have hol3 : o3.length ≤ k + 1 := by rw [ho3.out, List.length_append]; simp; omega
                    go_wp2
                    go_roundw
                    case rel => exact ⟨k + 1, a3, c3, o3, rfl, by go_num, by omega, ho4, hol3, hown3, hbel3⟩
                    case measure => simp [intOf]; omega
                  · have e2 : (k : Int) % 4 = 3 := by omega
                    have e2' : (k : Int).tmod 4 = 3 := by rw [Int.tmod_eq_emod_of_nonneg (by omega)]; exact e2
                    obtain ⟨d, hd0⟩ : ∃ d, d = UInt8.ofNat (x.toNat / 2 ^ (24 - 8 * 3)) := ⟨_, rfl⟩
                    have hd := Lib.hid hd0
                    clear hd0 hr
                    go_wp2_with (at_builtin; refine wpList_append_by _ rfl _ _ rfl wo.heap.size _ out [d] rfl (hown.alloc _) ⟨wr.heap.size, 0, none⟩ 1 1 rfl rfl ?c1 ?c2 ?c3 ?_)
                    case c1 => exact cell_by wr _ _ (by rw [hd.out]; simp [UInt8.toNat_ofNat']; omega)
                    case c2 => simp; omega
                    case c3 => simp; omega
                    intro a3 c3 w3 o3 ho3 hown3 hb3
                    have hbel3 : Below wo.heap.size wo w3 := (hb4.alloc hbs _).trans hb3
                    have ho4 := Lib.hid (hstep.out o3 (by rw [ho3.out, hd.out]))
                    have hol3 : o3.length ≤ k + 1 := by rw [ho3.out, List.length_append]; simp; omega
                    go_wp2
                    go_roundw
                    case rel => exact ⟨k + 1, a3, c3, o3, rfl, by go_num, by omega, ho4, hol3, hown3, hbel3⟩
                    case measure => simp [intOf]; omega
                · obtain rfl : k = 32 := by omega
                  have hcv := conv_bytes hown
                  have hfin : Hid (out = R) := by
                    unfold Hid
                    rw [ho.out, hsh.out, List.take_of_length_le (by show (digL S).length ≤ 32; exact Nat.le_refl 32)]
                  go_wp2
                  go_ret
                  exact ⟨by rw [← hfin.out]; rfl, hbel.trans (hb4.mono hbel.size)⟩
    · have t1 : (((out.length : Nat) : Int) % 64 == 56) = false := by simp; omega
      have t2 : (((out.length : Nat) : Int) % 64 != 56) = true := by simp; omega
      go_wp2_with (at_builtin; refine wpList_append_by _ rfl _ _ rfl w.heap.size _ out [0] rfl (hown.alloc _) ⟨wr.heap.size, 0, none⟩ 1 1 rfl rfl ?c1 ?c2 ?c3 ?_)
      case c1 => exact cell_by wr 0 0 rfl
      case c2 => simp; omega
      case c3 => have := hbel.size; simp; omega
      intro a3 c3 w3 o3 ho3 hown3 hb3
      have hbel3 : Below w.heap.size w w3 := (hbel.alloc hbel.size _).trans hb3
      go_wp2
      go_roundw
      case rel => exact ⟨k + 1, a3, c3, o3, rfl, by unfold Hid; rw [ho3.out, ho.out, List.replicate_succ']; simp, by have := HL.out; omega, hown3, hbel3⟩
      case measure => have := HL.out; have e := congrArg List.length ho3.out; simp at e; simp only; omega
end Go.Proofs.YtgmlhgojkmpkkaaDoor
