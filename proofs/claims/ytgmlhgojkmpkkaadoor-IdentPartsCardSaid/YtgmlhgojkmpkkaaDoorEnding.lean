/- The end of the padded message, walked. -/
import Derived.Test.YtgmlhgojkmpkkaaDoorAppT
import Derived.Test.YtgmlhgojkmpkkaaDoorMix
namespace Go.Proofs.YtgmlhgojkmpkkaaDoor
open Go.ChangeShapes Go.WideShapes Go.ChangeAt Go.RowKit Go.Lib
set_option linter.unusedVariables false

theorem below_bytes (w : World) (e : TypeId) (s : ByteArray) : Below w.heap.size w (bytesWorld w e s) := ⟨rfl, rfl, rfl, by rw [bytesWorld_size]; omega, fun k hk => bytesWorld_at_old w e s k hk⟩
theorem strCells_bs (l : List UInt8) : strCells (bs l) = byteCells l := by simp [strCells, bs, byteCells]
theorem bytes_own (w : World) (l : List UInt8) (h : l.length ≤ 1000000000) : ∃ a c W, (convert 9 45 (.string (bs l))).run Tryd.prog w = .ok (.slice a l.length c) W ∧ OwnsT W w.heap.size 5 (.slice a l.length c) l.length (byteCells l) ∧ Below w.heap.size w W := by
  have h1 := own_bytes w 5 (bs l) (by rw [bs_size]; unfold maxLen; omega)
  rw [strCells_bs] at h1
  rw [bs_size] at h1
  refine ⟨_, _, _, (by have := Go.Lib.run_convert_string_bytes (P := Tryd.prog) w 9 45 5 (bs l) Tryd.underlying9 Tryd.underlying45 Tryd.underlying5; rw [bs_size] at this; exact this), h1, below_bytes w 5 _⟩
/-- append(out, a byte or some): the slice written out -/
theorem wpList_append_by {ops : Array Oper} {rest : List Oper} {o : Oper} {ac : Act} {Q : Exit → Act → World → Prop} (w : World) (hgd : o.guard = none) (s x : Operand)
    (ho : o.op = .call { callee := .builtin .append, args := #[s, x], argTypes := #[45, 45] }) (base : Nat) (v : Value) (out new : List UInt8) (hs : ac.eval s = v)
    (hown : OwnsT w base 5 v out.length (byteCells out)) (ad : Addr) (m c : Nat) (hx : ac.eval x = .slice (some ad) m c) (hm : new.length = m) (hnews : ∀ j u, (byteCells new)[j]? = some u → w.cell? (ad.add j) = some u)
    (h63 : out.length + new.length ≤ 1000000000) (hbase : base ≤ w.heap.size)
    (h : ∀ a' c' w' out', Hid (out' = out ++ new) → OwnsT w' base 5 (.slice a' out'.length c') out'.length (byteCells out') → Below base w w' → wpList Tryd.prog ops Q rest (ac.put o.dst (.slice a' out'.length c')) w') : wpList Tryd.prog ops Q (o :: rest) ac w := by
  obtain ⟨i0, hi, hz0, hz1, hz2⟩ := info_parts infoByte
  refine wpList_append_cellsT w hgd s x _ ho base 5 i0 Tryd.underlying45 hi hz0 hz1 hz2 v _ _ hs hown ad m c (byteCells new) hx (by rw [byteCells_length]; exact hm) hnews (by intro u hu; simp only [byteCells, List.mem_map] at hu; obtain ⟨b, _, rfl⟩ := hu; rfl) (by unfold maxLen; omega) (by omega) hbase ?_
  intro v' w' hown' hgr
  have e1 : byteCells out ++ byteCells new = byteCells (out ++ new) := by simp [byteCells]
  have e2 : out.length + m = (out ++ new).length := by rw [List.length_append]; omega
  rw [e1, e2] at hown'
  obtain ⟨a', c', rfl⟩ := hown'.form
  exact h a' c' w' _ rfl hown' ((Below.refl _ _).grown hgr hbase (fun b hb => (hown.lt b hb).1))
theorem step_append_by {ops : Array Oper} {o : Oper} {ac : Act} {K : Act → World → Prop} {Q : Exit → Act → World → Prop} {E : Prop} (w : World) (hgd : o.guard = none) (s x : Operand)
    (ho : o.op = .call { callee := .builtin .append, args := #[s, x], argTypes := #[45, 45] }) (base : Nat) (v : Value) (out new : List UInt8) (hs : ac.eval s = v)
    (hown : OwnsT w base 5 v out.length (byteCells out)) (ad : Addr) (m c : Nat) (hx : ac.eval x = .slice (some ad) m c) (hm : new.length = m) (hnews : ∀ j u, (byteCells new)[j]? = some u → w.cell? (ad.add j) = some u)
    (h63 : out.length + new.length ≤ 1000000000) (hbase : base ≤ w.heap.size)
    (h : ∀ a' c' w' out', Hid (out' = out ++ new) → OwnsT w' base 5 (.slice a' out'.length c') out'.length (byteCells out') → Below base w w' → K (ac.put o.dst (.slice a' out'.length c')) w') :
    if Region.wanted o (yielded ops ac.tmps) = true then Oper.wp Tryd.prog o ac w K Q else E := by
  have hw : Region.wanted o (yielded ops ac.tmps) = true := by simp [Region.wanted, hgd]
  rw [if_pos hw]
  obtain ⟨i0, hi, hz0, hz1, hz2⟩ := info_parts infoByte
  obtain ⟨v', w', hr, hown', hgr⟩ := run_append_cellsT (P := Tryd.prog) w base 45 o.type 5 i0 Tryd.underlying45 hi hz0 hz1 hz2 v _ _ hown ad m c (byteCells new) (by rw [byteCells_length]; exact hm) hnews (by intro u hu; simp only [byteCells, List.mem_map] at hu; obtain ⟨b, _, rfl⟩ := hu; rfl) (by unfold maxLen; omega) (by omega) hbase
  unfold Oper.wp execOp
  simp only [ho, resolve, invoke, builtin, Sem.run_bind, Sem.run_pure, Result.andThen_ok, List.map_toArray, List.map_cons, List.map_nil, hs, hx, hr]
  have e1 : byteCells out ++ byteCells new = byteCells (out ++ new) := by simp [byteCells]
  have e2 : out.length + m = (out ++ new).length := by rw [List.length_append]; omega
  rw [e1, e2] at hown'
  obtain ⟨a', c', rfl⟩ := hown'.form
  exact h a' c' w' _ rfl hown' ((Below.refl _ _).grown hgr hbase (fun b hb => (hown.lt b hb).1))
theorem cell_by (w : World) (x : Int) (d : UInt8) (h : x = d.toNat) : ∀ j u, (byteCells [d])[j]? = some u → (w.alloc (.cells #[.int .u8 x] 5)).cell? ((⟨w.heap.size, 0, none⟩ : Addr).add j) = some u := by
  subst h
  exact cells_new w [.int .u8 d.toNat] 5
theorem lenB_take (n : Nat) {k : Nat} (h : k < 8) : (lenB n).take (k + 1) = (lenB n).take k ++ [UInt8.ofNat (n / 2 ^ (56 - 8 * k))] := by
  rw [List.take_add_one]
  simp [lenB, h]
set_option maxRecDepth 100000 in
set_option maxHeartbeats 1000000 in
theorem ending_any (l : List UInt8) (hl : l.length ≤ 55) (w : World) : Calls Tryd.prog 37 #[.string (bs l), .int .i64 l.length] w (StrPost w (pad l)) := by
  go_enter Tryd.func37, Tryd.ntmps37
  go_wp2
  obtain ⟨a0, c0, w0, hcv, hown0, hb0⟩ := bytes_own w l (by omega)
  rw [hcv]
  clear hcv
  go_wp2_with (at_builtin; refine wpList_append_by _ rfl _ _ rfl w.heap.size _ l [128] rfl (hown0.alloc _) ⟨w0.heap.size, 0, none⟩ 1 1 rfl rfl ?c1 ?c2 ?c3 ?_)
  case c1 => exact cell_by w0 128 128 rfl
  case c2 => simp; omega
  case c3 => have := hb0.size; simp; omega
  intro a1 c1 w1 o1 ho1 hown1 hb1
  have hbel1 : Below w.heap.size w w1 := (hb0.alloc hb0.size _).trans hb1
  clear hown0 hb0 hb1
  go_wp2
  go_loopw [5] (fun v wr => ∃ (k : Nat) (a : Option Addr) (c : Nat) (out : List UInt8), v = .slice a out.length c ∧ Hid (out = l ++ 128 :: List.replicate k 0) ∧ l.length + 1 + k ≤ 56 ∧ OwnsT wr w.heap.size 5 (.slice a out.length c) out.length (byteCells out) ∧ Below w.heap.size w wr) (fun v _ => 56 - (match v with | .slice _ n _ => n | _ => 0))
  case atStart => exact ⟨0, a1, c1, o1, rfl, by unfold Hid; rw [ho1.out]; rfl, by omega, hown1, hbel1⟩
  case round =>
    clear hown1 hbel1 ho1
    obtain ⟨k, a, c, out, rfl, ho, hk, hown, hbel⟩ := hrel
    have hlen : out.length = l.length + 1 + k := by rw [ho.out]; simp; omega
    have h1 : 1 ≤ out.length := by omega
    have h2 : out.length ≤ 56 := by omega
    have HL := Lib.hid hlen
    clear hlen
    by_cases h56 : out.length = 56
    · have H56 := Lib.hid h56
      have t1 : (((out.length : Nat) : Int) % 64 == 56) = true := by rw [h56]; rfl
      have t2 : (((out.length : Nat) : Int) % 64 != 56) = false := by rw [h56]; rfl
      clear h56
      go_wp2
      have HO : Hid (out = l ++ 128 :: List.replicate (55 - l.length) 0 ++ (lenB (8 * l.length)).take 0) := by
        have e1 := H56.out
        have e2 := HL.out
        unfold Hid
        rw [ho.out, show k = 55 - l.length by omega]
        simp
      clear ho HL H56 t1 t2 hk h1 h2
      obtain ⟨w2, rfl⟩ : ∃ w2 : World, w2 = wr := ⟨_, rfl⟩
      go_loopw [5, 7] (fun v5 v7 wr => ∃ (k : Nat) (z : Int) (a : Option Addr) (c : Nat) (out : List UInt8), v5 = .slice a out.length c ∧ v7 = .int .i64 z ∧ z = 56 - 8 * (k : Int) ∧ k ≤ 8 ∧ Hid (out = l ++ 128 :: List.replicate (55 - l.length) 0 ++ (lenB (8 * l.length)).take k) ∧ OwnsT wr w.heap.size 5 (.slice a out.length c) out.length (byteCells out) ∧ Below w.heap.size w wr) (fun _ v7 _ => (intOf v7 + 8).toNat)
      case atStart => exact ⟨0, 56, a, c, out, rfl, rfl, rfl, by omega, HO, hown, hbel⟩
      case round =>
        clear hown hbel HO
        obtain ⟨k, z, a, c, out, rfl, rfl, hz, hk, ho, hown, hbel⟩ := hrel
        by_cases h8 : k < 8
        · have hst : Hid (∀ out', out' = out ++ [UInt8.ofNat (8 * l.length / 2 ^ (56 - 8 * k))] → out' = l ++ 128 :: List.replicate (55 - l.length) 0 ++ (lenB (8 * l.length)).take (k + 1)) := by
            intro out' e
            rw [e, ho.out, lenB_take _ h8]
            simp
          have hlen : out.length ≤ 64 := by rw [ho.out]; simp [lenB_length]; omega
          rcases (show (k = 0 ∧ z = 56) ∨ (k = 1 ∧ z = 48) ∨ (k = 2 ∧ z = 40) ∨ (k = 3 ∧ z = 32) ∨ (k = 4 ∧ z = 24) ∨ (k = 5 ∧ z = 16) ∨ (k = 6 ∧ z = 8) ∨ (k = 7 ∧ z = 0) by omega) with ⟨rfl, rfl⟩ | ⟨rfl, rfl⟩ | ⟨rfl, rfl⟩ | ⟨rfl, rfl⟩ | ⟨rfl, rfl⟩ | ⟨rfl, rfl⟩ | ⟨rfl, rfl⟩ | ⟨rfl, rfl⟩
          all_goals clear hz
          · go_wp2_with (at_builtin; refine wpList_append_by _ rfl _ _ rfl w.heap.size _ out [UInt8.ofNat (8 * l.length / 2 ^ (56 - 8 * 0))] rfl (hown.alloc _) ⟨wr.heap.size, 0, none⟩ 1 1 rfl rfl ?c1 ?c2 ?c3 ?_)
            case c1 => exact cell_by wr _ _ (by simp [UInt8.toNat_ofNat']; omega)
            case c2 => simp; omega
            case c3 => have := hbel.size; simp; omega
            intro a3 c3 w3 o3 ho3 hown3 hb3
            have hbel3 : Below w.heap.size w w3 := (hbel.alloc hbel.size _).trans hb3
            have ho4 := Lib.hid (hst.out o3 ho3.out)
            go_wp2
            go_roundw
            case rel => exact ⟨1, 48, a3, c3, o3, rfl, rfl, by omega, by omega, ho4, hown3, hbel3⟩
            case measure => simp [intOf]
          · go_wp2_with (at_builtin; refine wpList_append_by _ rfl _ _ rfl w.heap.size _ out [UInt8.ofNat (8 * l.length / 2 ^ (56 - 8 * 1))] rfl (hown.alloc _) ⟨wr.heap.size, 0, none⟩ 1 1 rfl rfl ?c1 ?c2 ?c3 ?_)
            case c1 => exact cell_by wr _ _ (by simp [UInt8.toNat_ofNat']; omega)
            case c2 => simp; omega
            case c3 => have := hbel.size; simp; omega
            intro a3 c3 w3 o3 ho3 hown3 hb3
            have hbel3 : Below w.heap.size w w3 := (hbel.alloc hbel.size _).trans hb3
            have ho4 := Lib.hid (hst.out o3 ho3.out)
            go_wp2
            go_roundw
            case rel => exact ⟨2, 40, a3, c3, o3, rfl, rfl, by omega, by omega, ho4, hown3, hbel3⟩
            case measure => simp [intOf]
          · go_wp2_with (at_builtin; refine wpList_append_by _ rfl _ _ rfl w.heap.size _ out [UInt8.ofNat (8 * l.length / 2 ^ (56 - 8 * 2))] rfl (hown.alloc _) ⟨wr.heap.size, 0, none⟩ 1 1 rfl rfl ?c1 ?c2 ?c3 ?_)
            case c1 => exact cell_by wr _ _ (by simp [UInt8.toNat_ofNat']; omega)
            case c2 => simp; omega
            case c3 => have := hbel.size; simp; omega
            intro a3 c3 w3 o3 ho3 hown3 hb3
            have hbel3 : Below w.heap.size w w3 := (hbel.alloc hbel.size _).trans hb3
            have ho4 := Lib.hid (hst.out o3 ho3.out)
            go_wp2
            go_roundw
            case rel => exact ⟨3, 32, a3, c3, o3, rfl, rfl, by omega, by omega, ho4, hown3, hbel3⟩
            case measure => simp [intOf]
          · go_wp2_with (at_builtin; refine wpList_append_by _ rfl _ _ rfl w.heap.size _ out [UInt8.ofNat (8 * l.length / 2 ^ (56 - 8 * 3))] rfl (hown.alloc _) ⟨wr.heap.size, 0, none⟩ 1 1 rfl rfl ?c1 ?c2 ?c3 ?_)
            case c1 => exact cell_by wr _ _ (by simp [UInt8.toNat_ofNat']; omega)
            case c2 => simp; omega
            case c3 => have := hbel.size; simp; omega
            intro a3 c3 w3 o3 ho3 hown3 hb3
            have hbel3 : Below w.heap.size w w3 := (hbel.alloc hbel.size _).trans hb3
            have ho4 := Lib.hid (hst.out o3 ho3.out)
            go_wp2
            go_roundw
            case rel => exact ⟨4, 24, a3, c3, o3, rfl, rfl, by omega, by omega, ho4, hown3, hbel3⟩
            case measure => simp [intOf]
          · go_wp2_with (at_builtin; refine wpList_append_by _ rfl _ _ rfl w.heap.size _ out [UInt8.ofNat (8 * l.length / 2 ^ (56 - 8 * 4))] rfl (hown.alloc _) ⟨wr.heap.size, 0, none⟩ 1 1 rfl rfl ?c1 ?c2 ?c3 ?_)
            case c1 => exact cell_by wr _ _ (by simp [UInt8.toNat_ofNat']; omega)
            case c2 => simp; omega
            case c3 => have := hbel.size; simp; omega
            intro a3 c3 w3 o3 ho3 hown3 hb3
            have hbel3 : Below w.heap.size w w3 := (hbel.alloc hbel.size _).trans hb3
            have ho4 := Lib.hid (hst.out o3 ho3.out)
            go_wp2
            go_roundw
            case rel => exact ⟨5, 16, a3, c3, o3, rfl, rfl, by omega, by omega, ho4, hown3, hbel3⟩
            case measure => simp [intOf]
          · go_wp2_with (at_builtin; refine wpList_append_by _ rfl _ _ rfl w.heap.size _ out [UInt8.ofNat (8 * l.length / 2 ^ (56 - 8 * 5))] rfl (hown.alloc _) ⟨wr.heap.size, 0, none⟩ 1 1 rfl rfl ?c1 ?c2 ?c3 ?_)
            case c1 => exact cell_by wr _ _ (by simp [UInt8.toNat_ofNat']; omega)
            case c2 => simp; omega
            case c3 => have := hbel.size; simp; omega
            intro a3 c3 w3 o3 ho3 hown3 hb3
            have hbel3 : Below w.heap.size w w3 := (hbel.alloc hbel.size _).trans hb3
            have ho4 := Lib.hid (hst.out o3 ho3.out)
            go_wp2
            go_roundw
            case rel => exact ⟨6, 8, a3, c3, o3, rfl, rfl, by omega, by omega, ho4, hown3, hbel3⟩
            case measure => simp [intOf]
          · go_wp2_with (at_builtin; refine wpList_append_by _ rfl _ _ rfl w.heap.size _ out [UInt8.ofNat (8 * l.length / 2 ^ (56 - 8 * 6))] rfl (hown.alloc _) ⟨wr.heap.size, 0, none⟩ 1 1 rfl rfl ?c1 ?c2 ?c3 ?_)
            case c1 => exact cell_by wr _ _ (by simp [UInt8.toNat_ofNat']; omega)
            case c2 => simp; omega
            case c3 => have := hbel.size; simp; omega
            intro a3 c3 w3 o3 ho3 hown3 hb3
            have hbel3 : Below w.heap.size w w3 := (hbel.alloc hbel.size _).trans hb3
            have ho4 := Lib.hid (hst.out o3 ho3.out)
            go_wp2
            go_roundw
            case rel => exact ⟨7, 0, a3, c3, o3, rfl, rfl, by omega, by omega, ho4, hown3, hbel3⟩
            case measure => simp [intOf]
          · obtain ⟨d, hd0⟩ : ∃ d, d = UInt8.ofNat (8 * l.length / 2 ^ (56 - 8 * 7)) := ⟨_, rfl⟩
            have hd := Lib.hid hd0
            clear hd0
            go_wp2_with (at_builtin; refine wpList_append_by _ rfl _ _ rfl w.heap.size _ out [d] rfl (hown.alloc _) ⟨wr.heap.size, 0, none⟩ 1 1 rfl rfl ?c1 ?c2 ?c3 ?_)
            case c1 => exact cell_by wr _ _ (by rw [hd.out]; simp [UInt8.toNat_ofNat']; omega)
            case c2 => simp; omega
            case c3 => have := hbel.size; simp; omega
            intro a3 c3 w3 o3 ho3 hown3 hb3
            have hbel3 : Below w.heap.size w w3 := (hbel.alloc hbel.size _).trans hb3
            have ho4 := Lib.hid (hst.out o3 (by rw [ho3.out, hd.out]))
            go_wp2
            go_roundw
            case rel => exact ⟨8, -8, a3, c3, o3, rfl, rfl, by omega, by omega, ho4, hown3, hbel3⟩
            case measure => simp [intOf]
        · obtain rfl : k = 8 := by omega
          obtain rfl : z = -8 := by omega
          have hcv := conv_bytes hown
          have hfin : Hid (out = pad l) := by
            unfold Hid
            rw [ho.out, List.take_of_length_le (by rw [lenB_length]; exact Nat.le_refl 8)]
            simp [pad]
          clear hz hk h8 ho
          go_wp2
          go_ret
          exact ⟨by rw [← hfin.out]; rfl, hbel⟩
    · have t1 : (((out.length : Nat) : Int) % 64 == 56) = false := by simp; omega
      have t2 : (((out.length : Nat) : Int) % 64 != 56) = true := by simp; omega
      go_wp2_with (at_builtin; refine wpList_append_by _ rfl _ _ rfl w.heap.size _ out [0] rfl (hown.alloc _) ⟨wr.heap.size, 0, none⟩ 1 1 rfl rfl ?c1 ?c2 ?c3 ?_)
      case c1 => exact cell_by wr 0 0 rfl
      case c2 => simp; omega
      case c3 => have := hbel.size; simp; omega
      intro a3 c3 w3 o3 ho3 hown3 hb3
      have hbel3 : Below w.heap.size w w3 := (hbel.alloc hbel.size _).trans hb3
      go_wp2
      go_roundw
      case rel => exact ⟨k + 1, a3, c3, o3, rfl, by unfold Hid; rw [ho3.out, ho.out, List.replicate_succ']; simp, by have := HL.out; omega, hown3, hbel3⟩
      case measure => have := HL.out; have e := congrArg List.length ho3.out; simp at e; simp only; omega
end Go.Proofs.YtgmlhgojkmpkkaaDoor
