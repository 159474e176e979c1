/- The encoding's Num and Text and the reference's, walked (from the Code texts). -/
import Derived.Test.YtgmlhgojkmpkkaaDoorNumBase
import Derived.Lib.FrozenHead
import Derived.Lib.ConvBytes
import Derived.Laws.BytesArg
import Derived.Laws.OwnMore
import Derived.Deep.Draws
import Derived.Laws.Rows
import Derived.Laws.NewBlocks
import Derived.Maps.AppendAt
import Derived.Deep.RegionWith
import Derived.IntWalk
namespace Go.Proofs.YtgmlhgojkmpkkaaDoor
open Go.RowKit Go.Lib
set_option linter.unusedVariables false


/-- nothing of the first n cells is frozen -/
def Loose (fz : Nat × Nat) (n : Nat) : Prop := fz = (0, 0) ∨ n ≤ fz.1
def OwnsT (w : World) (base : Nat) (e : TypeId) (v : Value) (n : Nat) (xs : List Value) : Prop :=
  xs.length = n ∧
  ((v = .slice none 0 0 ∧ n = 0) ∨
   ∃ g cap cur fz, v = .slice (some ⟨g, 0, none⟩) n cap ∧ base ≤ g ∧ w.heap[g]? = some (.cells cur e fz) ∧ Loose fz cur.size ∧ n ≤ cap ∧ cap ≤ maxLen ∧ cur.size = cap ∧ cur.toList.take n = xs)
theorem OwnsT.of_own {w : World} {base n : Nat} {e : TypeId} {v : Value} {xs : List Value} (h : w.ownsRow base e 1 v n xs) : OwnsT w base e v n xs := by
  refine ⟨by simpa using h.1, ?_⟩
  rcases h.2 with hn | ⟨g, cap, cur, hv, hb, hg, h1, h2, h3, h4⟩
  · exact .inl hn
  · exact .inr ⟨g, cap, cur, (0, 0), hv, hb, hg, .inl rfl, h1, h2, by simpa using h3, by simpa using h4⟩
theorem run_storeCells_T (P : Program) (g o : Nat) (t : TypeId) (fz : Nat × Nat) : ∀ (vs : List Value) (i : Nat) (cur : Array Value) (w : World), w.heap[g]? = some (.cells cur t fz) → Loose fz cur.size → o + i + vs.length ≤ cur.size → (∀ v ∈ vs, v.oneCell' = true) →
    (storeCells ⟨g, o, none⟩ vs i).run P w = .ok () (w.setRow g (cur.toList.take (o + i) ++ vs ++ cur.toList.drop (o + i + vs.length)).toArray)
  | [], i, cur, w, hg, _, _, _ => by
    simp only [storeCells, List.append_nil, List.length_nil, Nat.add_zero, List.take_append_drop, Array.toArray_toList]
    rw [setRow_self w g cur t fz hg]
    rfl
  | v :: rest, i, cur, w, hg, hfz, hl, h1 => by
    have hi : o + i < cur.size := by simp at hl; omega
    have hadd : (⟨g, o, none⟩ : Addr).add i = ⟨g, o + i, none⟩ := by unfold Addr.add; split <;> simp_all
    have hcell : w.cell? ⟨g, o + i, none⟩ = some cur[o + i] := by simp [World.cell?, hg, hi]
    have hfro : w.frozen? ⟨g, o + i, none⟩ = false := by
      obtain ⟨lo, hi'⟩ := fz
      simp only [World.frozen?, hg, Bool.and_eq_false_iff, decide_eq_false_iff_not]
      rcases hfz with hz | hz
      · right; simp at hz; omega
      · left; simp only at hz; omega
    have hst : (store ((⟨g, o, none⟩ : Addr).add i) v).run P w = .ok () (w.setRow g (cur.setIfInBounds (o + i) v)) := by
      rw [hadd, run_store P w _ v _ (h1 v (by simp)), hcell]
      simp [hfro, setCell_eq_setRow w g (o + i) cur t fz v hg]
    have ih := run_storeCells_T P g o t fz rest (i + 1) (cur.setIfInBounds (o + i) v) (w.setRow g (cur.setIfInBounds (o + i) v)) (setRow_heap w g cur _ t _ hg) (by simpa using hfz) (by simp at hl ⊢; omega) (fun x hx => h1 x (by simp [hx]))
    simp only [storeCells, Sem.run_bind, hst, Result.andThen_ok, ih, setRow_setRow]
    congr 3
    have e := list_seg_step cur.toList (o + i) v rest (by simp at hl ⊢; omega)
    simpa [Array.toList_setIfInBounds, Nat.add_assoc] using e
section
variable {P : Program} (w : World)
theorem OwnsT.cells {w : World} {base n : Nat} {e : TypeId} {v : Value} {xs : List Value} (h : OwnsT w base e v n xs) {g c : Nat} (hg : v = .slice (some ⟨g, 0, none⟩) n c) : ∀ j u, xs[j]? = some u → w.cell? ((⟨g, 0, none⟩ : Addr).add j) = some u := by
  intro j u hu
  rcases h.2 with ⟨rfl, _⟩ | ⟨g', cap, cur, fz, rfl, _, hgg, _, _, _, _, htake⟩
  · simp at hg
  · simp at hg
    obtain ⟨rfl, _⟩ := hg
    have hadd : (⟨g', 0, none⟩ : Addr).add j = ⟨g', j, none⟩ := by unfold Addr.add; split <;> simp_all
    rw [hadd, cell_of_row w g' j cur e fz hgg]
    rw [← htake, List.getElem?_take] at hu
    split at hu
    · simpa using hu
    · cases hu
theorem run_append_T (base : Nat) (t u ty e : TypeId) (i : TypeInfo) (ht : P.underlying t = some (.slice e)) (hu : P.underlying u = some .string) (hi : P.info? e = some i) (hz : i.zero = some (.int .u8 0))
    (hsize : i.size = 1) (hby : i.bytes = 1)
    (v : Value) (n : Nat) (xs : List Value) (hown : OwnsT w base e v n xs) (s : ByteArray)
    (h63 : n + s.size ≤ maxLen) (hbytes : n + s.size ≤ 140737488355328) (hbase : base ≤ w.heap.size) :
    ∃ v' w', (Builtin.append_ #[t, u] ty #[v, .string s]).run P w = .ok v' w' ∧ OwnsT w' base e v' (n + s.size) (xs ++ strCells s) ∧ w.grownBy w' v.ownBlock := by
  rcases hown.2 with ⟨rfl, rfl⟩ | ⟨g, cap, cur, fz, rfl, hbg, hg, hfz, hnc, hcm, hcs, htake⟩
  · obtain ⟨v', w', h1, h2, h3, h4⟩ := run_append_own_string (P := P) w base t u ty e i ht hu hi hz hsize hby (.slice none 0 0) 0 xs ⟨by simpa using hown.1, .inl ⟨rfl, rfl⟩⟩ s h63 hbytes hbase
    exact ⟨v', w', h1, OwnsT.of_own h2, h3⟩
  · have hsmall : n + s.size ≤ 9223372036854775807 := by simp only [maxLen] at h63; omega
    have hxl : xs.length = n := hown.1
    have hlen : (xs ++ strCells s).length = n + s.size := by rw [List.length_append, hxl, strCells_length]
    by_cases hroom : n + s.size ≤ cap
    · have hf := run_firstCells_string (P := P) w 1 s
      have hst := run_storeCells_T P g n e fz (strCells s) 0 cur w hg hfz (by rw [strCells_length]; omega) (strCells_oneCell s)
      simp only [Nat.add_zero, strCells_length] at hst
      have hr : (Builtin.append_ #[t, u] ty #[.slice (some ⟨g, 0, none⟩) n cap, .string s]).run P w = .ok (.slice (some ⟨g, 0, none⟩) (n + s.size) cap) (w.setRow g (cur.toList.take n ++ strCells s ++ cur.toList.drop (n + s.size)).toArray) := by
        simp [Builtin.append_, run_underlying ht, run_underlying hu, sizeOf, typeInfo, hi, hsize, Builtin.lenOf, hroom, hf, Addr.add_lit, hst]
      have hsz : (cur.toList.take n ++ strCells s ++ cur.toList.drop (n + s.size)).toArray.size = cur.size := by
        simp only [List.size_toArray, List.length_append, List.length_take, List.length_drop, Array.length_toList, strCells_length]
        omega
      refine ⟨_, _, hr, ⟨hlen, .inr ⟨g, cap, _, fz, rfl, hbg, setRow_heap w g cur _ e _ hg, by rw [hsz]; exact hfz, hroom, hcm, by rw [hsz]; exact hcs, ?_⟩⟩, ⟨rfl, rfl, rfl, by simp, fun k _ hk => setRow_other w g k _ (fun e => hk (by simp [Value.ownBlock, e]))⟩⟩
      rw [htake, ← hlen]
      exact List.take_left
    · have holds : ∀ j u, xs[j]? = some u → w.cell? ((⟨g, 0, none⟩ : Addr).add j) = some u := hown.cells rfl
      have hr := run_append_grow_string (P := P) w t u ty e i (.int .u8 0) ht hu hi hz ⟨g, 0, none⟩ n cap xs (by rw [hsize]; simpa using hxl) holds s (by omega) (by omega) (by rw [hby]; exact growslice_fits (by omega) (by omega))
      have hge := grownCap_ge w (n + s.size) cap e
      have hcm2 : grownCap w (n + s.size) cap e ≤ maxLen := grownCap_le_maxLen w (n + s.size) cap e h63
      refine ⟨_, _, hr, ⟨hlen, .inr ⟨w.heap.size, _, _, (0, 0), rfl, hbase, heap_alloc_new w.drew _, .inl rfl, hge, hcm2, ?_, ?_⟩⟩, ⟨rfl, rfl, rfl, by simp, fun k hk _ => Below.heap_alloc w.drew _ k hk⟩⟩
      · have hz1 : (Value.int IntKind.u8 0).cells.size = 1 := rfl
        simp only [Array.size_append, List.size_toArray, size_zeroCells, hz1, hxl, strCells_length]
        omega
      · simp only [Array.toList_append, List.append_assoc]
        rw [← List.append_assoc, ← hlen]
        exact List.take_left
/-- '[]byte(s)' -/
theorem own_bytes (w : World) (e : TypeId) (s : ByteArray) (h : s.size ≤ maxLen) : OwnsT (bytesWorld w e s) w.heap.size e (.slice (some ⟨w.heap.size, 0, none⟩) s.size (grownCap w s.size 0 e)) s.size (strCells s) := by
  refine ⟨strCells_length s, .inr ⟨w.heap.size, _, _, _, rfl, Nat.le_refl _, bytesWorld_at_new w e s, .inr (Nat.le_refl _), ?_, ?_, ?_, ?_⟩⟩
  · exact grownCap_ge w s.size 0 e
  · exact grownCap_le_maxLen w s.size 0 e h
  · have := grownCap_ge w s.size 0 e
    simp [bytesCells]
    omega
  · simp only [bytesCells, Array.toList_append, Array.toList_map]
    rw [List.take_left' (by simp)]
    simp [strCells]
end

open Go.ChangeShapes Go.WideShapes Go.ChangeAt Go.RowKit Go.Lib
/-- the varint of a number, k digits at most -/
def numF : Nat → Nat → List UInt8
  | 0, _ => []
  | k + 1, n => if n < 128 then [UInt8.ofNat n] else UInt8.ofNat (128 + n % 128) :: numF k (n / 128)
/-- the varint of a number below 128^10 -/
def numL (n : Nat) : List UInt8 := numF 10 n
/-- what Num answers -/
def numI (n : Int) : List UInt8 := if n < 0 then [] else numL n.toNat
def textL (s : List UInt8) : List UInt8 := numL s.length ++ s

theorem own_form {w : World} {base e size n : Nat} {v : Value} {xs : List Value} (h : w.ownsRow base e size v n xs) : ∃ a c, v = .slice a n c := by
  rcases h.2 with ⟨rfl, rfl⟩ | ⟨g, cap, cur, rfl, _⟩
  · exact ⟨_, _, rfl⟩
  · exact ⟨_, _, rfl⟩
theorem byte_toNat {n : Nat} (h : n < 256) : (UInt8.ofNat n).toNat = n := by simp [UInt8.toNat_ofNat']; omega
theorem bs_inj {a b : List UInt8} : bs a = bs b ↔ a = b := by simp [bs]
theorem bs_extract (l : List UInt8) (a b : Nat) : (bs l).extract a b = bs ((l.drop a).take (b - a)) := by
  apply ByteArray.ext
  simp [bs]
def byteCells (l : List UInt8) : List Value := l.map fun b => Value.int .u8 b.toNat
theorem byteCells_length (l : List UInt8) : (byteCells l).length = l.length := by simp [byteCells]
theorem strOf_bytes (l : List UInt8) : strOfNums (l.map fun b => (b.toNat : Int)) = bs l := by
  unfold strOfNums bs
  congr 2
  rw [List.map_map]
  have : ((fun n : Int => UInt8.ofNat n.toNat) ∘ fun b : UInt8 => (b.toNat : Int)) = id := by
    funext b
    simp
  rw [this, List.map_id]
theorem conv_bytes {w : World} {base : Nat} {v : Value} {l : List UInt8} (h : OwnsT w base 5 v l.length (byteCells l)) : (convert 45 9 v).run Tryd.prog w = .ok (.string (bs l)) w := by
  rcases h.2 with ⟨rfl, hn⟩ | ⟨g, cap, cur, fz, rfl, _⟩
  · have : l = [] := List.eq_nil_of_length_eq_zero hn
    subst this
    exact run_convert_bytes_nil w 45 5 Tryd.underlying45 Tryd.underlying5 0 0 9 Tryd.underlying9
  · have hc := h.cells (g := g) (c := cap) rfl
    have := run_convert_bytes_arg (P := Tryd.prog) w 45 5 Tryd.underlying45 Tryd.underlying5 g 0 l.length cap (l.map fun b => (b.toNat : Int)) (by simp) (fun i hi => by
      have h1 := hc i (.int .u8 (l[i].toNat)) (by simp [byteCells, List.getElem?_eq_getElem hi])
      have hadd : (⟨g, 0, none⟩ : Addr).add i = ⟨g, 0 + i, none⟩ := by unfold Addr.add; split <;> simp_all
      rw [hadd] at h1
      rw [h1]
      simp [List.getD, List.getElem?_eq_getElem hi]) 9 Tryd.underlying9
    rw [this, strOf_bytes]
theorem infoByte : (Tryd.prog.info? 5).map (fun i => (i.zero, i.size, i.bytes)) = some (some (.int .u8 0), 1, 1) := by kernel_rfl
def EncPost (w : World) (n : Int) (e : Ending) (w' : World) : Prop := e = .returned (.string (bs (numI n))) ∧ Below w.heap.size w w'
set_option maxRecDepth 100000 in
set_option maxHeartbeats 400000 in
theorem enc_num (n : Int) (w : World) (hn : n ≤ 9223372036854775807) : Calls Tryd.prog 24 #[.int .i64 n] w (EncPost w n) := by
  obtain ⟨i0, hi, hz0, hz1, hz2⟩ := info_parts infoByte
  by_cases h0 : n < 0
  · have hN : Hid (numI n = []) := by simp [Hid, numI, h0]
    go_enter Tryd.func24, Tryd.ntmps24
    go_wp2
    go_ret
    unfold EncPost
    rw [hN.out]
    exact ⟨rfl, Below.refl _ _⟩
  · obtain ⟨m0, rfl⟩ : ∃ m : Nat, n = m := ⟨n.toNat, by omega⟩
    have hN : Hid (numI m0 = numF 10 m0) := by unfold Hid numI numL; rw [if_neg h0]; simp
    go_enter Tryd.func24, Tryd.ntmps24
    go_wp2
    go_loopw [0, 3] (fun v0 d wr => ∃ (m k : Nat) (pre : List UInt8), v0 = .int .i64 m ∧ m ≤ 9223372036854775807 ∧ numF 10 m0 = pre ++ numF (k + 1) m ∧ pre.length + k = 9 ∧ m < 128 ^ (k + 1) ∧ wr.ownsRow w.heap.size 5 1 d pre.length (byteCells pre) ∧ Below w.heap.size w wr) (fun v0 _ _ => (intOf v0).toNat)
    case atStart => exact ⟨m0, 9, [], rfl, by omega, rfl, rfl, by omega, ⟨by simp [byteCells], .inl ⟨rfl, rfl⟩⟩, Below.refl _ _⟩
    case round =>
      obtain ⟨m, k, pre, rfl, hm, hpre, hk, hlt, hown, hbel⟩ := hrel
      have HPRE := Lib.hid hpre
      have HLT := Lib.hid hlt
      have hk9 : pre.length ≤ 9 := by omega
      have HK := Lib.hid hk
      clear hpre hlt hk
      by_cases h128 : 128 ≤ m
      · obtain ⟨da, dc, rfl⟩ := own_form hown
        have hm8 : (m : Int) % 128 < 128 := by omega
        have hm0 : 0 ≤ (m : Int) % 128 := by omega
        go_wp2_with (at_builtin; refine wpList_append_own _ rfl _ _ 45 rfl w.heap.size 5 i0 (.int .u8 0) 1 1 Tryd.underlying45 hi hz0 hz1 hz2 rfl (by decide) _ _ _ rfl (hown.alloc _) ⟨wr.heap.size, 0, none⟩ 1 1 [.int .u8 (128 + (m : Int) % 128)] rfl rfl ?c1 ?c2 ?c3 ?c4 ?c5 ?_)
        case c1 => exact cell_one_new _ _ _
        case c2 => intro u hu; simp at hu; subst hu; rfl
        case c3 => unfold maxLen; omega
        case c4 => omega
        case c5 => have := hbel.size; simp; omega
        intro v1 w1 hown1 hgrow1 _
        have hbel1 : Below w.heap.size w w1 := (hbel.alloc hbel.size _).grown hgrow1 (by have := hbel.size; simp; omega) (fun b hb => (hown.lt b hb).1)
        have hcs : byteCells pre ++ [.int .u8 (128 + (m : Int) % 128)] = byteCells (pre ++ [UInt8.ofNat (128 + m % 128)]) := by
          simp only [byteCells, List.map_append, List.map_cons, List.map_nil]
          rw [byte_toNat (by omega)]
          simp
        have hln : pre.length + 1 = (pre ++ [UInt8.ofNat (128 + m % 128)]).length := by simp
        rw [hcs, hln] at hown1
        clear hcs hln hgrow1 hown hbel
        go_wp2
        go_roundw
        case rel =>
          have h1 := HLT.out
          have h2 := HK.out
          have hk1 : 1 ≤ k := by
            rcases Nat.eq_zero_or_pos k with h | h
            · subst h; simp at h1; omega
            · exact h
          obtain ⟨k', rfl⟩ : ∃ k', k = k' + 1 := ⟨k - 1, by omega⟩
          refine ⟨m / 128, k', _, by go_num, by omega, ?_, by simp; omega, ?_, hown1, hbel1⟩
          · rw [HPRE.out, numF, if_neg (by omega)]; simp
          · rw [Nat.pow_succ] at h1; omega
        case measure => simp [intOf]; omega
      · obtain ⟨da, dc, rfl⟩ := own_form hown
        have hlt8 : (m : Int) < 128 := by omega
        go_wp2_with (at_builtin; refine wpList_append_own _ rfl _ _ 45 rfl w.heap.size 5 i0 (.int .u8 0) 1 1 Tryd.underlying45 hi hz0 hz1 hz2 rfl (by decide) _ _ _ rfl (hown.alloc _) ⟨wr.heap.size, 0, none⟩ 1 1 [.int .u8 (m : Int)] rfl rfl ?c1 ?c2 ?c3 ?c4 ?c5 ?_)
        case c1 => exact cell_one_new _ _ _
        case c2 => intro u hu; simp at hu; subst hu; rfl
        case c3 => unfold maxLen; omega
        case c4 => omega
        case c5 => have := hbel.size; simp; omega
        intro v1 w1 hown1 hgrow1 _
        have hbel1 : Below w.heap.size w w1 := (hbel.alloc hbel.size _).grown hgrow1 (by have := hbel.size; simp; omega) (fun b hb => (hown.lt b hb).1)
        have hcs : byteCells pre ++ [.int .u8 (m : Int)] = byteCells (pre ++ [UInt8.ofNat m]) := by
          simp only [byteCells, List.map_append, List.map_cons, List.map_nil]
          rw [byte_toNat (by omega)]
        have hln : pre.length + 1 = (pre ++ [UInt8.ofNat m]).length := by simp
        rw [hcs, hln] at hown1
        have hcv := conv_bytes (OwnsT.of_own hown1)
        have hfin : Hid (numI m0 = pre ++ [UInt8.ofNat m]) := by
          unfold Hid
          rw [hN.out, HPRE.out, numF, if_pos (by omega)]
        obtain ⟨a1, c1, rfl⟩ := own_form hown1
        generalize pre ++ [UInt8.ofNat m] = out at *
        clear hcs hln hgrow1 hown hbel hown1
        go_wp2
        go_ret
        exact ⟨by rw [hfin.out]; rfl, hbel1⟩

theorem numI_nat (n : Nat) : numI n = numL n := by unfold numI; rw [if_neg (by omega)]; simp
theorem numF_length (k n : Nat) : (numF k n).length ≤ k := by
  induction k generalizing n with
  | zero => simp [numF]
  | succ k ih =>
    unfold numF
    split
    · simp
    · simp; exact ih _
theorem numI_length (n : Int) : (numI n).length ≤ 10 := by
  unfold numI
  split
  · simp
  · exact numF_length 10 _
theorem textL_length (l : List UInt8) : (textL l).length ≤ 10 + l.length := by
  unfold textL
  have := numF_length 10 l.length
  simp [numL]; omega
theorem enc_text (l : List UInt8) (w : World) (hl : l.length ≤ 1000000000) : Calls Tryd.prog 23 #[.string (bs l)] w (StrPost w (textL l)) := by
  have hsz := bs_size l
  have c := enc_num l.length w (by omega)
  have ha := bs_append (numI l.length) l
  have hno : ¬ (9223372036854775807 < (bs (numI l.length)).size + l.length) := by rw [bs_size]; have := numI_length l.length; omega
  have hN : Hid (textL l = numI l.length ++ l) := by unfold Hid textL; rw [numI_nat]
  go_enter Tryd.func23, Tryd.ntmps23
  go_wp2_with (go_at_call 24; refine (c).mono ?_; rintro e w' ⟨rfl, hb⟩)
  go_ret
  exact ⟨by rw [hN.out]; rfl, hb⟩
theorem numL_small {n : Nat} (h : n < 128) : numL n = [UInt8.ofNat n] := by unfold numL numF; rw [if_pos h]
theorem numF_succ (k n : Nat) : numF (k + 1) n = if n < 128 then [UInt8.ofNat n] else UInt8.ofNat (128 + n % 128) :: numF k (n / 128) := rfl
theorem numF_more (k n : Nat) (h : n < 128 ^ (k + 1)) : numF (k + 1) n = numF (k + 2) n := by
  induction k generalizing n with
  | zero => simp at h; rw [numF_succ, numF_succ, if_pos h, if_pos h]
  | succ k ih =>
    rw [numF_succ (k + 1), numF_succ (k + 2)]
    split
    · rfl
    · rw [ih (n / 128) (by rw [Nat.pow_succ] at h; omega)]
theorem numL_big {n : Nat} (h : 128 ≤ n) (hn : n < 128 ^ 10) : numL n = UInt8.ofNat (128 + n % 128) :: numL (n / 128) := by
  unfold numL
  conv => lhs; unfold numF
  rw [if_neg (by omega), numF_more 8 (n / 128) (by omega)]

theorem conv_one (W : World) (b : Nat) (d : Nat) (hd : d < 256) (h : W.cell? ⟨b, 0, none⟩ = some (.int .u8 d)) : (convert 45 9 (.slice (some ⟨b, 0, none⟩) 1 1)).run Tryd.prog W = .ok (.string (bs [UInt8.ofNat d])) W := by
  have := run_convert_bytes_arg (P := Tryd.prog) W 45 5 Tryd.underlying45 Tryd.underlying5 b 0 1 1 [(d : Int)] rfl (fun i hi => by
    obtain rfl : i = 0 := by omega
    simpa using h) 9 Tryd.underlying9
  rw [this]
  have h2 := strOf_bytes [UInt8.ofNat d]
  simp only [List.map_cons, List.map_nil, byte_toNat hd] at h2
  rw [h2]
set_option maxHeartbeats 400000 in
theorem renc_num (n : Int) (w : World) (hn : n ≤ 9223372036854775807) : Calls Tryd.prog 32 #[.int .i64 n] w (EncPost w n) := by
  by_cases h0 : n < 0
  · have hN : Hid (numI n = []) := by simp [Hid, numI, h0]
    go_enter Tryd.func32, Tryd.ntmps32
    go_wp2
    go_ret
    unfold EncPost
    rw [hN.out]
    exact ⟨rfl, Below.refl _ _⟩
  · obtain ⟨m, rfl⟩ : ∃ m : Nat, n = m := ⟨n.toNat, by omega⟩
    clear h0
    induction m using Nat.strongRecOn generalizing w with
    | _ m ih =>
      have hf : ((m : Int) < 0) = False := by simp
      have hf' : decide ((m : Int) < 0) = false := by simp
      by_cases h128 : m < 128
      · have hN : Hid (numI m = [UInt8.ofNat m]) := by unfold Hid; rw [numI_nat, numL_small h128]
        have hc := fun W b => conv_one W b m (by omega)
        have hlt : (m : Int) < 128 := by omega
        clear ih
        go_enter Tryd.func32, Tryd.ntmps32
        go_wp2
        go_ret
        exact ⟨by rw [hN.out]; rfl, (Below.refl _ _).alloc (Nat.le_refl _) _⟩
      · have hN : Hid (numI m = UInt8.ofNat (128 + m % 128) :: numI ((m / 128 : Nat) : Int)) := by unfold Hid; rw [numI_nat, numL_big (by omega) (by omega), numI_nat]
        have hlt : decide ((m : Int) < 128) = false := by simp; omega
        have hcast : ((m / 128 : Nat) : Int) = (m : Int) / 128 := by omega
        have IH : ∀ W, Calls Tryd.prog 32 #[.int .i64 ((m : Int) / 128)] W (EncPost W ((m / 128 : Nat) : Int)) := fun W => by
          have := ih (m / 128) (by omega) W (by omega)
          rw [hcast] at this ⊢; exact this
        clear ih
        have hc : ∀ (W : World) (b : Nat), W.cell? ⟨b, 0, none⟩ = some (.int .u8 (128 + (m : Int) % 128)) → (convert 45 9 (.slice (some ⟨b, 0, none⟩) 1 1)).run Tryd.prog W = .ok (.string (bs [UInt8.ofNat (128 + m % 128)])) W := fun W b hW => conv_one W b (128 + m % 128) (by omega) (by rw [hW]; simp)
        have ha := bs_append [UInt8.ofNat (128 + m % 128)] (numI ((m / 128 : Nat) : Int))
        have hno : ¬ (9223372036854775807 < (bs [UInt8.ofNat (128 + m % 128)]).size + (bs (numI ((m / 128 : Nat) : Int))).size) := by rw [bs_size, bs_size]; have := numI_length ((m / 128 : Nat) : Int); rw [List.length_singleton]; omega
        clear hcast
        have ht : ((m : Int).tmod 128) = (m : Int) % 128 := by rw [Int.tmod_eq_emod_of_nonneg (by omega)]
        have hu : IntKind.u8.wrap (IntKind.i64.wrap (128 + (m : Int).tmod 128)) = 128 + (m : Int) % 128 := by
          rw [ht, IntWalk.i64_in _ (by omega), IntWalk.u8_in _ (by omega)]
        have hw2 : IntKind.i64.wrap ((m : Int) / 128) = (m : Int) / 128 := IntWalk.i64_in _ (by omega)
        clear ht
        generalize ((m / 128 : Nat) : Int) = q at *
        generalize UInt8.ofNat (128 + m % 128) = d at *
        go_enter Tryd.func32, Tryd.ntmps32
        go_wp2
        go_region_with (go_at_call 32; refine (IH _).mono ?_; rintro e w' ⟨rfl, hb⟩; try (have hcl : w'.cell? ⟨w.heap.size, 0, none⟩ = some (.int .u8 (128 + (m : Int) % 128)) := (hb.cell (by simp)).trans (cell_one_new w _ 5 0 _ rfl)))
        all_goals (
          have hbw : Below w.heap.size w w' := Below.trans (by repeat (first | exact Below.refl _ _ | apply Below.drew | refine Below.alloc ?_ (by simp) _)) (hb.mono (by simp))
          go_wp2
          go_ret
          first
            | exact ⟨by rw [hN.out]; rfl, hbw⟩
            | exact ⟨by rw [hN.out]; rfl, hbw.alloc hbw.size _⟩)
theorem renc_text (l : List UInt8) (w : World) (hl : l.length ≤ 1000000000) : Calls Tryd.prog 31 #[.string (bs l)] w (StrPost w (textL l)) := by
  have hsz := bs_size l
  have c := renc_num l.length w (by omega)
  have ha := bs_append (numI l.length) l
  have hno : ¬ (9223372036854775807 < (bs (numI l.length)).size + l.length) := by rw [bs_size]; have := numI_length l.length; omega
  have hN : Hid (textL l = numI l.length ++ l) := by unfold Hid textL; rw [numI_nat]
  go_enter Tryd.func31, Tryd.ntmps31
  go_wp2_with (go_at_call 32; refine (c).mono ?_; rintro e w' ⟨rfl, hb⟩)
  go_ret
  exact ⟨by rw [hN.out]; rfl, hb⟩
end Go.Proofs.YtgmlhgojkmpkkaaDoor
