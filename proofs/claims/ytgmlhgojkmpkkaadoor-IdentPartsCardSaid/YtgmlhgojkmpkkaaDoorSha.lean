/- Sha of a text of one block, walked. -/
import Derived.Test.YtgmlhgojkmpkkaaDoorEnding
import Derived.StillTailTactics
import Derived.Laws.MakeOwn
import Derived.Laws.OwnMore
namespace Go.Proofs.YtgmlhgojkmpkkaaDoor
open Go.ChangeShapes Go.WideShapes Go.ChangeAt Go.RowKit Go.Lib
set_option linter.unusedVariables false

/-- the package's tables lie where they should -/
structure LaidS (w : World) : Prop where
  con : KAt w
  ini : ∃ t fz, w.heap[0]? = some (.cells (cells8 st0) t fz)
theorem KAt.below {w w' : World} (h : KAt w) (hb : Below w.heap.size w w') : KAt w' := fun j hj => by
  rw [hb.cell (World.block_lt_of_cell? w _ (h j hj))]; exact h j hj
theorem lt_heap {w : World} {b : Nat} {o : Obj} (h : w.heap[b]? = some o) : b < w.heap.size := (Array.getElem?_eq_some_iff.1 h).1
theorem LaidS.below {w w' : World} (h : LaidS w) (hb : Below w.heap.size w w') : LaidS w' := by
  obtain ⟨t, fz, hi⟩ := h.ini
  exact ⟨h.con.below hb, t, fz, by rw [hb.block _ (lt_heap hi)]; exact hi⟩
theorem idx8 (s : St) (hs : s.Ok) {k : Nat} (h : k < 8) : ∃ x : Int, s.toL[k]? = some x ∧ 0 ≤ x ∧ x < 4294967296 ∧ ∀ W : World, (Instr.index 43 (.agg (cells8 s)) (.int .i64 (k : Int))).run Tryd.prog W = .ok (.int .u32 x) W := by
  obtain ⟨a, b, c, d, e, f, g, h'⟩ := s
  obtain ⟨a0, a1, b0, b1, c0, c1, d0, d1, e0, e1, f0, f1, g0, g1, h0, h1⟩ := hs
  rcases (show k = 0 ∨ k = 1 ∨ k = 2 ∨ k = 3 ∨ k = 4 ∨ k = 5 ∨ k = 6 ∨ k = 7 by omega) with rfl | rfl | rfl | rfl | rfl | rfl | rfl | rfl
  · exact ⟨a, rfl, a0, a1, fun _ => by kernel_rfl⟩
  · exact ⟨b, rfl, b0, b1, fun _ => by kernel_rfl⟩
  · exact ⟨c, rfl, c0, c1, fun _ => by kernel_rfl⟩
  · exact ⟨d, rfl, d0, d1, fun _ => by kernel_rfl⟩
  · exact ⟨e, rfl, e0, e1, fun _ => by kernel_rfl⟩
  · exact ⟨f, rfl, f0, f1, fun _ => by kernel_rfl⟩
  · exact ⟨g, rfl, g0, g1, fun _ => by kernel_rfl⟩
  · exact ⟨h', rfl, h0, h1, fun _ => by kernel_rfl⟩
theorem cell_by4 (w : World) (x0 x1 x2 x3 : Int) (d0 d1 d2 d3 : UInt8) (h0 : x0 = d0.toNat) (h1 : x1 = d1.toNat) (h2 : x2 = d2.toNat) (h3 : x3 = d3.toNat) : ∀ j u, (byteCells [d0, d1, d2, d3])[j]? = some u → (w.alloc (.cells #[.int .u8 x0, .int .u8 x1, .int .u8 x2, .int .u8 x3] 5)).cell? ((⟨w.heap.size, 0, none⟩ : Addr).add j) = some u := by
  subst h0; subst h1; subst h2; subst h3
  exact cells_new w [.int .u8 d0.toNat, .int .u8 d1.toNat, .int .u8 d2.toNat, .int .u8 d3.toNat] 5
theorem slice_from (l : List UInt8) (b : Nat) (hb : b ≤ l.length) (j : Int) (hj : j = b) (w : World) : (Instr.slice 9 (.string (bs l)) (some (.int .i64 j)) none none).run Tryd.prog w = .ok (.string (bs (l.drop b))) w := by
  subst hj
  rw [run_slice_string_from_if w 9 (bs l) .i64 b Tryd.underlying9, if_pos (by rw [bs_size]; omega), bs_extract, bs_size, List.take_of_length_le (by simp)]
  rfl
theorem slice_to (l : List UInt8) (b : Nat) (hb : b ≤ l.length) (j : Int) (hj : j = b) (w : World) : (Instr.slice 9 (.string (bs l)) none (some (.int .i64 j)) none).run Tryd.prog w = .ok (.string (bs (l.take b))) w := by
  subst hj
  rw [run_slice_string_to_if w 9 (bs l) .i64 b Tryd.underlying9, if_pos (by rw [bs_size]; omega), bs_extract]
  simp
theorem cells8_one (s : St) : (cells8 s).all (·.oneCell') = true := arr8_one _ _ _ _ _ _ _ _
theorem make_bytes (n c : Nat) (i j : Int) (hi : i = n) (hj : j = c) (hnc : n ≤ c) (hc : c ≤ 1000000000) : ∃ cs : Array Value, cs.size = c ∧ cs.toList = List.replicate c (.int .u8 0) ∧ ∀ w : World, (Instr.makeSlice 45 (.int .i64 i) (.int .i64 j)).run Tryd.prog w = .ok (.slice (some ⟨w.heap.size, 0, none⟩) n c) (w.alloc (.cells cs 5)) := by
  obtain ⟨i0, hi0, hz0, hz1, hz2⟩ := info_parts infoByte
  refine ⟨madeCells (Value.int .u8 0).cells (c * i0.size), by rw [size_madeCells, hz1, Nat.mul_one], by rw [hz1, Nat.mul_one]; exact toList_madeCells_one _ _, fun w => ?_⟩
  have h := run_make (P := Tryd.prog) w 45 5 i0 (.int .u8 0) Tryd.underlying45 hi0 hz0 .i64 .i64 i j (by omega) (by omega) (by rw [hz2]; omega) (by omega)
  rw [h]
  have e1 : i.toNat = n := by omega
  have e2 : j.toNat = c := by omega
  rw [e1, e2]
theorem owns_made (w : World) (base n c : Nat) (cs : Array Value) (e : TypeId) (h1 : cs.size = c) (hn : n ≤ c) (hc : c ≤ 1000000000) (hb : base ≤ w.heap.size) : OwnsT (w.alloc (.cells cs e)) base e (.slice (some ⟨w.heap.size, 0, none⟩) n c) n (cs.toList.take n) :=
  ⟨by simp; omega, .inr ⟨w.heap.size, c, cs, (0, 0), rfl, hb, heap_alloc_new w _, .inl rfl, hn, by unfold maxLen; omega, h1, rfl⟩⟩
theorem mixS_toL_take (s : St) {k : Nat} {x : Int} (h : s.toL[k]? = some x) : (s.toL.take (k + 1)).flatMap wordL4 = (s.toL.take k).flatMap wordL4 ++ wordL4 x := by
  rw [List.take_add_one, h]
  simp
set_option maxRecDepth 100000 in
set_option maxHeartbeats 2000000 in
theorem sha_any (l : List UInt8) (hl : l.length ≤ 55) (w : World) (hL : LaidS w) : Calls Tryd.prog 22 #[.string (bs l)] w (StrPost w (shaL l)) := by
  have hs := bs_size l
  have ce := fun W => ending_any l hl W
  have hpl := pad_length hl
  have hsh : Hid (shaL l = (mixS st0 (pad l)).toL.flatMap wordL4) := rfl
  obtain ⟨ti, fz, hini⟩ := hL.ini
  have cm := fun W (hW : KAt W) => mix_any st0 st0_ok (pad l) hpl W hW
  have mok := mixS_ok st0 (pad l)
  have hcon := hL.con
  generalize shaL l = R at *
  generalize mixS st0 (pad l) = M at *
  generalize pad l = p at *
  have d1 : decide (64 ≤ (l.length : Int)) = false := decide_eq_false (by omega)
  have d2 : decide (64 ≤ l.length) = false := decide_eq_false (by omega)
  obtain ⟨B, hB⟩ : ∃ B, w.heap.size = B := ⟨_, rfl⟩
  unfold StrPost
  rw [hB]
  have HC := Lib.hid hcon
  have HPL := Lib.hid hpl
  clear hcon hL hpl
  have hg0 := lt_heap hini
  go_enter Tryd.func22, Tryd.ntmps22
  have hZ : (w.alloc (.cells #[.int .u32 0, .int .u32 0, .int .u32 0, .int .u32 0, .int .u32 0, .int .u32 0, .int .u32 0, .int .u32 0] 43)).heap[B]? = some (.cells #[.int .u32 0, .int .u32 0, .int .u32 0, .int .u32 0, .int .u32 0, .int .u32 0, .int .u32 0, .int .u32 0] 43 (0, 0)) := by rw [← hB, heap_alloc_new]
  obtain ⟨W1, hW1⟩ : ∃ W1, W1 = (w.alloc (.cells #[.int .u32 0, .int .u32 0, .int .u32 0, .int .u32 0, .int .u32 0, .int .u32 0, .int .u32 0, .int .u32 0] 43)).setRow B (cells8 st0) := ⟨_, rfl⟩
  have r1 : W1.heap[B]? = some (.cells (cells8 st0) 43 (0, 0)) := by rw [hW1]; exact setRow_heap _ B _ _ 43 (0, 0) hZ
  have b1 : Below B w W1 := by rw [hW1]; exact below_setRow ((Below.refl _ _).alloc (by omega) _) (Nat.le_refl _) _
  have HZ := Lib.hid hZ
  clear hZ
  go_wp2_with (first
    | (refine wpList_load_row rfl 43 (.global 0) rfl 0 rfl ti (cells8 st0) fz _ hini Tryd.underlying43 (by rfl) info8 ?_)
    | (refine wpList_store_row rfl 43 (.tmp 3) (.tmp 8) rfl B (cells8 st0) rfl rfl 43 #[.int .u32 0, .int .u32 0, .int .u32 0, .int .u32 0, .int .u32 0, .int .u32 0, .int .u32 0, .int .u32 0] HZ.out info8 rfl (cells8_one _) ?_))
  rw [← hW1]
  clear hW1 HZ hini
  go_loopw [4] (fun v wr => v = .string (bs l) ∧ wr = W1) (fun _ _ => 0)
  case atStart => exact ⟨rfl, rfl⟩
  case round =>
    obtain ⟨rfl, rfl⟩ := hrel
    go_wp2_with fail
    refine (ce _).mono ?_
    rintro e w2 ⟨rfl, hb2⟩
    have hlt := lt_heap r1
    have r2 : w2.heap[B]? = some (.cells (cells8 st0) 43 (0, 0)) := by rw [hb2.block B hlt]; exact r1
    have b2 : Below B w w2 := b1.trans (hb2.mono (by omega))
    clear hb2 hlt r1 b1
    go_wp2
    have hsl : ∀ W, (Instr.slice 9 (.string (bs p)) none (some (.int .i64 64)) none).run Tryd.prog W = .ok (.string (bs p)) W := fun W => by
      have := slice_to p 64 (by rw [HPL.out]; omega) 64 rfl W
      rw [List.take_of_length_le (by rw [HPL.out]; omega)] at this
      exact this
    have hsl2 : ∀ W, (Instr.slice 9 (.string (bs p)) (some (.int .i64 64)) none none).run Tryd.prog W = .ok (.string (bs [])) W := fun W => by
      have := slice_from p 64 (by rw [HPL.out]; omega) 64 rfl W
      rw [List.drop_of_length_le (by rw [HPL.out]; omega)] at this
      exact this
    have hp1 : (p == []) = false := by
      have := HPL.out
      cases p with
      | nil => simp at this
      | cons a r => rfl
    have hp2 : p.isEmpty = false := by
      have := HPL.out
      cases p with
      | nil => simp at this
      | cons a r => rfl
    have hpt := bs_toList p
    obtain ⟨wo, rfl⟩ : ∃ wo : World, wo = w2 := ⟨_, rfl⟩
    go_loopw [4] (fun v wr => ∃ (q : List UInt8) (S : St), v = .string (bs q) ∧ wr.heap[B]? = some (.cells (cells8 S) 43 (0, 0)) ∧ Below B w wr ∧ ((q = p ∧ S = st0) ∨ (q = [] ∧ S = M))) (fun v _ => match v with | .string b => b.size | _ => 0)
    case atStart => exact ⟨p, st0, rfl, r2, b2, .inl ⟨rfl, rfl⟩⟩
    case round =>
      clear r2 b2
      obtain ⟨q, S, rfl, hrow, hb, hq⟩ := hrel
      rcases hq with ⟨hq, rfl⟩ | ⟨hq, rfl⟩
      · subst hq
        have hK : KAt wr.drew := HC.out.below (hb.mono (by omega)).drew
        have cmm := cm _ hK
        generalize st0 = S0 at *
        obtain ⟨sa, sb, sc, sd, se, sf, sg, sh⟩ := S0
        have q0 : wr.cell? ⟨B, 0, none⟩ = some (.int .u32 sa) := by rw [cell_of_row wr B 0 _ _ _ hrow]; rfl
        have q1 : wr.cell? ⟨B, 1, none⟩ = some (.int .u32 sb) := by rw [cell_of_row wr B 1 _ _ _ hrow]; rfl
        have q2 : wr.cell? ⟨B, 2, none⟩ = some (.int .u32 sc) := by rw [cell_of_row wr B 2 _ _ _ hrow]; rfl
        have q3 : wr.cell? ⟨B, 3, none⟩ = some (.int .u32 sd) := by rw [cell_of_row wr B 3 _ _ _ hrow]; rfl
        have q4 : wr.cell? ⟨B, 4, none⟩ = some (.int .u32 se) := by rw [cell_of_row wr B 4 _ _ _ hrow]; rfl
        have q5 : wr.cell? ⟨B, 5, none⟩ = some (.int .u32 sf) := by rw [cell_of_row wr B 5 _ _ _ hrow]; rfl
        have q6 : wr.cell? ⟨B, 6, none⟩ = some (.int .u32 sg) := by rw [cell_of_row wr B 6 _ _ _ hrow]; rfl
        have q7 : wr.cell? ⟨B, 7, none⟩ = some (.int .u32 sh) := by rw [cell_of_row wr B 7 _ _ _ hrow]; rfl
        have HROW := Lib.hid hrow
        have HBB := Lib.hid hb
        clear hrow hb hK cm
        go_wp2
        refine wp_region_still_tail 3 (by kernel_rfl) (by kernel_rfl) ?_
        simp only [List.take_succ_cons, List.take_zero, List.drop_succ_cons, List.drop_zero]
        refine wpStill_of_wpQuiet _ _ ?_
        repeat (first | go_big_quiet_skip | (go_big_quiet_want; go_big_quiet_op; first | go_big_quiet_on | (apply Exists.intro; refine ⟨?_, ?_⟩; (fail); go_big_quiet_on)))
        refine wpQuiet_nil ?_
        change wpList _ _ _ _ _ wr.drew
        go_wp2_with fail
        refine cmm.mono ?_
        rintro e w3 ⟨rfl, hb3⟩
        have hlt := lt_heap HROW.out
        have hrow3 : w3.heap[B]? = some (.cells (cells8 ⟨sa, sb, sc, sd, se, sf, sg, sh⟩) 43 (0, 0)) := by rw [hb3.block B (by simpa using hlt)]; exact HROW.out
        have hb4 : Below B w w3 := HBB.out.drew.trans (hb3.mono (by simpa using Nat.le_of_lt hlt))
        have HR3 := Lib.hid hrow3
        clear hrow3 hb3 hlt q0 q1 q2 q3 q4 q5 q6 q7 cmm
        obtain ⟨w4, hw4⟩ : ∃ w4, w4 = w3.setRow B (cells8 M) := ⟨_, rfl⟩
        have hrow4 : w4.heap[B]? = some (.cells (cells8 M) 43 (0, 0)) := by rw [hw4]; exact setRow_heap _ B _ _ 43 (0, 0) HR3.out
        have hb5 : Below B w w4 := by rw [hw4]; exact below_setRow hb4 (Nat.le_refl _) _
        go_wp2_with (refine wpList_store_row rfl 43 (.tmp 3) (.tmp 30) rfl B (cells8 M) rfl rfl 43 (cells8 ⟨sa, sb, sc, sd, se, sf, sg, sh⟩) HR3.out info8 rfl (cells8_one _) ?_)
        rw [← hw4]
        clear hw4
        go_wp2
        go_roundw
        case rel => exact ⟨[], M, rfl, hrow4, hb5, .inr ⟨rfl, rfl⟩⟩
        case measure =>
          have := HPL.out
          have e1 : (bs ([] : List UInt8)).size = 0 := rfl
          have e2 := bs_size q
          simp only
          omega
      · subst hq
        have hlt := lt_heap hrow
        clear hsl hsl2 hp1 hp2 hpt HPL cm ce
        have HX := Lib.hid (fun k (h : k < 8) => idx8 S mok h)
        have HSH := Lib.hid hsh.out
        have HROW := Lib.hid hrow
        have hme : (bs ([] : List UInt8)).toList = [] := bs_toList []
        clear hrow mok hsh
        obtain ⟨cs, cs1, cs2, hmk⟩ := make_bytes 0 32 0 32 rfl rfl (by omega) (by omega)
        have hom := owns_made wr B 0 32 cs 5 cs1 (by omega) (by omega) ((by have := hb.size; omega))
        have hbm := hb.alloc ((by have := hb.size; omega)) (.cells cs 5)
        have HOM := Lib.hid hom
        clear cs1 cs2 hom
        go_wp2_with (refine wpList_load_row rfl 43 (.tmp 3) rfl B rfl 43 (cells8 S) (0, 0) _ ((Below.heap_alloc _ _ _ hlt).trans HROW.out) Tryd.underlying43 (by rfl) info8 ?_)
        obtain ⟨wq, hwq⟩ : ∃ wq : World, wq = wr.alloc (.cells cs 5) := ⟨_, rfl⟩
        go_loopw [5, 33] (fun v5 v33 wr => ∃ (k : Nat) (a : Option Addr) (c : Nat) (out : List UInt8), v5 = .slice a out.length c ∧ v33 = .int .i64 k ∧ k ≤ 8 ∧ Hid (out = (S.toL.take k).flatMap wordL4) ∧ out.length ≤ 4 * k ∧ OwnsT wr B 5 (.slice a out.length c) out.length (byteCells out) ∧ Below B w wr) (fun _ v _ => 8 - (intOf v).toNat)
        case atStart => exact ⟨0, _, _, [], rfl, rfl, by omega, rfl, by simp, HOM.out, hbm⟩
        case round =>
          clear HOM hbm hmk hwq hb
          obtain ⟨k, a, c, out, rfl, rfl, hk, ho, hol, hown, hbel⟩ := hrel
          have hbs := hbel.size
          rw [hB] at hbs
          by_cases h8 : k < 8
          · obtain ⟨x, hx1, x0, x1, hix⟩ := HX.out k h8
            have hst : Hid (∀ o3, o3 = out ++ wordL4 x → o3 = (S.toL.take (k + 1)).flatMap wordL4) := by
              intro o3 e
              rw [e, ho.out, mixS_toL_take S hx1]
            clear hx1
            go_wp2_with (at_builtin; refine wpList_append_by _ rfl _ _ rfl B _ out (wordL4 x) rfl (hown.alloc _) ⟨wr.heap.size, 0, none⟩ 4 4 rfl rfl ?c1 ?c2 ?c3 ?_)
            case c1 => exact cell_by4 wr _ _ _ _ _ _ _ _ (by simp [UInt8.toNat_ofNat']; omega) (by simp [UInt8.toNat_ofNat']; omega) (by simp [UInt8.toNat_ofNat']; omega) (by simp [UInt8.toNat_ofNat']; omega)
            case c2 => rw [wordL4_length]; omega
            case c3 => simp; omega
            intro a3 c3 w3 o3 ho3 hown3 hb3
            have hbel3 : Below B w w3 := (hbel.alloc hbs _).trans hb3
            have ho4 := Lib.hid (hst.out o3 ho3.out)
            have hol3 : o3.length ≤ 4 * (k + 1) := by rw [ho3.out, List.length_append, wordL4_length]; omega
            go_wp2
            go_roundw
            case rel => exact ⟨k + 1, a3, c3, o3, rfl, by go_num, by omega, ho4, hol3, hown3, hbel3⟩
            case measure => simp [intOf]; omega
          · obtain rfl : k = 8 := by omega
            have hcv := conv_bytes hown
            have hfin : Hid (out = R) := by
              unfold Hid
              rw [ho.out, HSH.out, List.take_of_length_le (by simp [St.toL])]
            go_wp2
            go_ret
            exact ⟨by rw [← hfin.out]; rfl, hbel⟩
end Go.Proofs.YtgmlhgojkmpkkaaDoor
