/- List and Nums (writeList at both types), and the reference's, walked. -/
import Derived.Test.YtckgnmloemnkcaaNum3
namespace Go.Proofs.Ytckgnmloemnkcaa
open Go.ChangeShapes Go.WideShapes Go.ChangeAt Go.RowKit Go.Lib
set_option linter.unusedVariables false

/-- a slice's cells, one a value -/
def RowAt (w : World) (A : Option Addr) (xs : List Value) : Prop := 0 < xs.length → ∃ b o, A = some ⟨b, o, none⟩ ∧ ∀ i x, xs[i]? = some x → w.cell? ⟨b, o + i, none⟩ = some x
theorem RowAt.below {w w' : World} {A : Option Addr} {xs : List Value} (h : RowAt w A xs) (hb : Below w.heap.size w w') : RowAt w' A xs := by
  intro hp
  obtain ⟨b, o, hA, hc⟩ := h hp
  refine ⟨b, o, hA, fun i x hx => ?_⟩
  exact (hb.cell (lt_of_cell (hc i x hx))).trans (hc i x hx)
theorem RowAt.at {w : World} {A : Option Addr} {xs : List Value} (h : RowAt w A xs) {i : Nat} {x : Value} (hx : xs[i]? = some x) : ∃ b o, A = some ⟨b, o, none⟩ ∧ w.cell? ⟨b, o + i, none⟩ = some x := by
  obtain ⟨b, o, hA, hc⟩ := h (by have := (List.getElem?_eq_some_iff.1 hx).1; omega)
  exact ⟨b, o, hA, hc i x hx⟩
def strs (l : List (List UInt8)) : List Value := l.map fun s => .string (bs s)
def ints (l : List Int) : List Value := l.map fun n => .int .i64 n
theorem strs_length (l : List (List UInt8)) : (strs l).length = l.length := by simp [strs]
theorem ints_length (l : List Int) : (ints l).length = l.length := by simp [ints]
theorem strs_get {l : List (List UInt8)} {i : Nat} {x : List UInt8} (h : l[i]? = some x) : (strs l)[i]? = some (.string (bs x)) := by simp [strs, h]
theorem ints_get {l : List Int} {i : Nat} {x : Int} (h : l[i]? = some x) : (ints l)[i]? = some (.int .i64 x) := by simp [ints, h]
theorem OwnsT.below {w w' : World} {base n : Nat} {e : TypeId} {v : Value} {xs : List Value} (h : OwnsT w base e v n xs) (hb : Below w.heap.size w w') : OwnsT w' base e v n xs := by
  refine ⟨h.1, ?_⟩
  rcases h.2 with hn | ⟨g, cap, cur, fz, hv, hbb, hg, hl, h1, h2, h3, h4⟩
  · exact .inl hn
  · exact .inr ⟨g, cap, cur, fz, hv, hbb, (hb.block g (lt_of_heap hg)).trans hg, hl, h1, h2, h3, h4⟩
theorem ownT_form {w : World} {base n : Nat} {e : TypeId} {v : Value} {xs : List Value} (h : OwnsT w base e v n xs) : ∃ a c, v = .slice a n c := by
  rcases h.2 with ⟨rfl, rfl⟩ | ⟨g, cap, cur, fz, rfl, _⟩
  · exact ⟨_, _, rfl⟩
  · exact ⟨_, _, rfl⟩
theorem OwnsT.lt {w : World} {base n : Nat} {e : TypeId} {v : Value} {xs : List Value} (h : OwnsT w base e v n xs) : ∀ b, v.ownBlock = some b → base ≤ b := by
  intro b hb
  rcases h.2 with ⟨rfl, rfl⟩ | ⟨g, cap, cur, fz, rfl, hg, _⟩
  · simp [Value.ownBlock] at hb
  · simp [Value.ownBlock] at hb; omega
theorem below_bytes (w : World) (e : TypeId) (s : ByteArray) : Below w.heap.size w (bytesWorld w e s) := ⟨rfl, rfl, rfl, by rw [bytesWorld_size]; omega, fun k hk => bytesWorld_at_old w e s k hk⟩
theorem strCells_bs (l : List UInt8) : strCells (bs l) = byteCells l := by simp [strCells, bs, byteCells]
/-- '[]byte(s)' -/
theorem bytes_own (w : World) (l : List UInt8) (h : l.length ≤ 1000000000) : ∃ v W, (convert 9 53 (.string (bs l))).run Try.prog w = .ok v W ∧ OwnsT W w.heap.size 5 v l.length (byteCells l) ∧ Below w.heap.size w W := by
  have h1 := own_bytes w 5 (bs l) (by rw [bs_size]; unfold maxLen; omega)
  rw [strCells_bs] at h1
  refine ⟨_, _, Go.Lib.run_convert_string_bytes (P := Try.prog) w 9 53 5 (bs l) Try.underlying9 Try.underlying53 Try.underlying5, ?_, below_bytes w 5 _⟩
  rw [bs_size] at h1
  rw [bs_size]
  exact h1
/-- append(out, x...) of a string -/
theorem append_bytes (ty : TypeId) (w : World) (base : Nat) (v : Value) (out x : List UInt8) (hown : OwnsT w base 5 v out.length (byteCells out)) (h63 : out.length + x.length ≤ 1000000000) (hbase : base ≤ w.heap.size) :
    ∃ v' w', (Builtin.append_ #[53, 9] ty #[v, .string (bs x)]).run Try.prog w = .ok v' w' ∧ OwnsT w' base 5 v' (out ++ x).length (byteCells (out ++ x)) ∧ w.grownBy w' v.ownBlock := by
  obtain ⟨i0, hi, hz0, hz1, hz2⟩ := info_parts info5
  obtain ⟨v', w', h1, h2, h3⟩ := run_append_T (P := Try.prog) w base 53 9 ty 5 i0 Try.underlying53 Try.underlying9 hi hz0 hz1 hz2 v _ _ hown (bs x) (by rw [bs_size]; unfold maxLen; omega) (by rw [bs_size]; omega) hbase
  refine ⟨v', w', h1, ?_, h3⟩
  rw [bs_size, strCells_bs] at h2
  simpa [byteCells] using h2
theorem wpList_append_bytes {ops : Array Oper} {rest : List Oper} {o : Oper} {a : Act} {Q : Exit → Act → World → Prop} (w : World) (hgd : o.guard = none) (sl so : Operand)
    (ho : o.op = .call { callee := .builtin .append, args := #[sl, so], argTypes := #[53, 9] }) (base : Nat) (v : Value) (out x : List UInt8) (hs : a.eval sl = v) (hx : a.eval so = .string (bs x))
    (hown : OwnsT w base 5 v out.length (byteCells out)) (h63 : out.length + x.length ≤ 1000000000) (hbase : base ≤ w.heap.size)
    (h : ∀ v' w', OwnsT w' base 5 v' (out ++ x).length (byteCells (out ++ x)) → w.grownBy w' v.ownBlock → wpList Try.prog ops Q rest (a.put o.dst v') w') : wpList Try.prog ops Q (o :: rest) a w :=
  wpList_plain hgd fun K hK => by
    obtain ⟨v', w', hr, h2, h3⟩ := append_bytes o.type w base v out x hown h63 hbase
    unfold Oper.wp execOp
    simp only [ho, resolve, invoke, builtin, Sem.run_bind, Sem.run_pure, Result.andThen_ok, List.map_toArray, List.map_cons, List.map_nil, hs, hx, hr]
    exact hK _ _ (h v' w' h2 h3)
theorem flatMap_take_succ {α β : Type} (f : α → List β) (l : List α) {k : Nat} {x : α} (h : l[k]? = some x) : (l.take (k + 1)).flatMap f = (l.take k).flatMap f ++ f x := by
  rw [List.take_add_one, h]; simp
theorem flatMap_take_le {α β : Type} (f : α → List β) (B : Nat) (l : List α) (k : Nat) (h : ∀ x, x ∈ l → (f x).length ≤ B) : ((l.take k).flatMap f).length ≤ l.length * B := by
  induction l generalizing k with
  | nil => simp
  | cons a l ih =>
    cases k with
    | zero => simp
    | succ k =>
      have h1 := ih k (fun x hx => h x (by simp [hx]))
      have h2 := h a (by simp)
      simp only [List.take_succ_cons, List.flatMap_cons, List.length_append, List.length_cons]
      rw [Nat.succ_mul]
      omega

set_option maxRecDepth 100000 in
set_option maxHeartbeats 400000 in
theorem writeTexts (l : List (List UInt8)) (A : Option Addr) (C : Nat) (w : World) (hl : RowAt w A (strs l)) (hn : l.length ≤ 10000) (hs : ∀ x, x ∈ l → x.length ≤ 10000) : Calls Try.prog 47 #[.slice A l.length C, .func (.func 16) #[] #[]] w (StrPost w (numL l.length ++ l.flatMap textL)) := by
  have hB : ∀ k, ((l.take k).flatMap textL).length ≤ l.length * 20000 := fun k => flatMap_take_le _ _ _ _ (fun x hx => by have h1 := textL_length x; have h2 := hs x hx; omega)
  have hB' : l.length * 20000 ≤ 200000000 := by omega
  have cn := num_any l.length w (by omega)
  have hnum := numI_nat l.length
  have hnl := numI_length l.length
  rw [hnum] at hnl
  have HB := Lib.hid hB
  have HNUM := Lib.hid hnum
  clear hB hnum
  go_enter Try.func47, Try.ntmps47
  go_wp2_with (first | (go_at_call 12; refine (cn).mono ?_; rintro e w1 ⟨rfl, hb1⟩))
  obtain ⟨v2, w2, hcv2, hown0, hb2⟩ := bytes_own w1 (numI l.length) (by rw [HNUM.out]; omega)
  have hb0 : Below w.heap.size w w2 := hb1.trans (hb2.mono hb1.size)
  obtain ⟨da0, dc0, rfl⟩ := ownT_form hown0
  rw [hcv2]
  clear hcv2
  go_wp2
  go_loopw [5, 14] (fun v0 v1 wr => ∃ (k : Nat) (out : List UInt8), v1 = .int .i64 k ∧ k ≤ l.length ∧ out = numL l.length ++ (l.take k).flatMap textL ∧ OwnsT wr w.heap.size 5 v0 out.length (byteCells out) ∧ Below w.heap.size w wr) (fun _ v1 _ => l.length - (intOf v1).toNat)
  case atStart =>
    refine ⟨0, numI l.length, rfl, by omega, by simp [HNUM.out], ?_, hb0⟩
    have hs : ∀ {ww b1 b2 e v n xs}, OwnsT ww b1 e v n xs → b2 ≤ b1 → OwnsT ww b2 e v n xs := by
      intro ww b1 b2 e v n xs h hb
      refine ⟨h.1, ?_⟩
      rcases h.2 with hn | ⟨g, cap, cur, fz, hv, hbb, rest⟩
      · exact .inl hn
      · exact .inr ⟨g, cap, cur, fz, hv, by omega, rest⟩
    exact hs hown0 hb1.size
  case round =>
    obtain ⟨k, out, rfl, hk, hout, hown, hbel⟩ := hrel
    have HOUT := Lib.hid hout
    clear hout
    obtain ⟨da, dc, rfl⟩ := ownT_form hown
    have hol : out.length ≤ 300000000 := by have h1 := HB.out k; rw [HOUT.out, List.length_append]; omega
    by_cases hlt : k < l.length
    · obtain ⟨x, hx⟩ : ∃ x, l[k]? = some x := ⟨_, List.getElem?_eq_getElem hlt⟩
      obtain ⟨b, o, rfl, hc⟩ := (hl.below hbel).at (strs_get hx)
      have HX := Lib.hid hx
      clear hx
      have hxs := hs x (List.mem_of_getElem? HX.out)
      have ce := text_any x wr (by omega)
      go_wp2_with (first | (go_at_call 16; refine (ce).mono ?_; rintro e w3 ⟨rfl, hb3⟩) | (at_builtin; refine wpList_append_bytes _ rfl _ _ rfl w.heap.size _ out (textL x) rfl rfl (hown.below hb3) ?c1 ?c2 ?_))
      case c1 => have := textL_length x; omega
      case c2 => have := hbel.size; have := hb3.size; omega
      intro v4 w4 hown4 hgr4
      obtain ⟨da4, dc4, rfl⟩ := ownT_form hown4
      go_wp2
      go_roundw
      case rel =>
        refine ⟨k + 1, out ++ textL x, by go_num, by omega, ?_, by rw [List.length_append]; exact hown4, ?_⟩
        · rw [HOUT.out, flatMap_take_succ _ _ HX.out, List.append_assoc]
        · exact (hbel.trans (hb3.mono hbel.size)).grown hgr4 (by have := hbel.size; have := hb3.size; omega) (fun bb hb => hown.lt bb hb)
      case measure => simp [intOf]; omega
    · have hkl : k = l.length := by omega
      subst hkl
      have hcv := conv_bytes hown
      go_wp2
      go_ret
      refine ⟨?_, hbel⟩
      rw [HOUT.out, List.take_length]; rfl

set_option maxRecDepth 100000 in
set_option maxHeartbeats 400000 in
theorem writeInts (l : List Int) (A : Option Addr) (C : Nat) (w : World) (hl : RowAt w A (ints l)) (hn : l.length ≤ 10000) (hs : ∀ x, x ∈ l → -9223372036854775808 ≤ x ∧ x ≤ 9223372036854775807) : Calls Try.prog 48 #[.slice A l.length C, .func (.func 14) #[] #[]] w (StrPost w (numL l.length ++ l.flatMap intI)) := by
  have hB : ∀ k, ((l.take k).flatMap intI).length ≤ l.length * 20000 := fun k => flatMap_take_le _ _ _ _ (fun x hx => by have h1 := intI_length x; omega)
  have hB' : l.length * 20000 ≤ 200000000 := by omega
  have cn := num_any l.length w (by omega)
  have hnum := numI_nat l.length
  have hnl := numI_length l.length
  rw [hnum] at hnl
  have HB := Lib.hid hB
  have HNUM := Lib.hid hnum
  clear hB hnum
  go_enter Try.func48, Try.ntmps48
  go_wp2_with (first | (go_at_call 12; refine (cn).mono ?_; rintro e w1 ⟨rfl, hb1⟩))
  obtain ⟨v2, w2, hcv2, hown0, hb2⟩ := bytes_own w1 (numI l.length) (by rw [HNUM.out]; omega)
  have hb0 : Below w.heap.size w w2 := hb1.trans (hb2.mono hb1.size)
  obtain ⟨da0, dc0, rfl⟩ := ownT_form hown0
  rw [hcv2]
  clear hcv2
  go_wp2
  go_loopw [5, 14] (fun v0 v1 wr => ∃ (k : Nat) (out : List UInt8), v1 = .int .i64 k ∧ k ≤ l.length ∧ out = numL l.length ++ (l.take k).flatMap intI ∧ OwnsT wr w.heap.size 5 v0 out.length (byteCells out) ∧ Below w.heap.size w wr) (fun _ v1 _ => l.length - (intOf v1).toNat)
  case atStart =>
    refine ⟨0, numI l.length, rfl, by omega, by simp [HNUM.out], ?_, hb0⟩
    have hs : ∀ {ww b1 b2 e v n xs}, OwnsT ww b1 e v n xs → b2 ≤ b1 → OwnsT ww b2 e v n xs := by
      intro ww b1 b2 e v n xs h hb
      refine ⟨h.1, ?_⟩
      rcases h.2 with hn | ⟨g, cap, cur, fz, hv, hbb, rest⟩
      · exact .inl hn
      · exact .inr ⟨g, cap, cur, fz, hv, by omega, rest⟩
    exact hs hown0 hb1.size
  case round =>
    obtain ⟨k, out, rfl, hk, hout, hown, hbel⟩ := hrel
    have HOUT := Lib.hid hout
    clear hout
    obtain ⟨da, dc, rfl⟩ := ownT_form hown
    have hol : out.length ≤ 300000000 := by have h1 := HB.out k; rw [HOUT.out, List.length_append]; omega
    by_cases hlt : k < l.length
    · obtain ⟨x, hx⟩ : ∃ x, l[k]? = some x := ⟨_, List.getElem?_eq_getElem hlt⟩
      obtain ⟨b, o, rfl, hc⟩ := (hl.below hbel).at (ints_get hx)
      have HX := Lib.hid hx
      clear hx
      have hxs := hs x (List.mem_of_getElem? HX.out)
      have ce := int_any x wr (by omega) (by omega)
      go_wp2_with (first | (go_at_call 14; refine (ce).mono ?_; rintro e w3 ⟨rfl, hb3⟩) | (at_builtin; refine wpList_append_bytes _ rfl _ _ rfl w.heap.size _ out (intI x) rfl rfl (hown.below hb3) ?c1 ?c2 ?_))
      case c1 => have := intI_length x; omega
      case c2 => have := hbel.size; have := hb3.size; omega
      intro v4 w4 hown4 hgr4
      obtain ⟨da4, dc4, rfl⟩ := ownT_form hown4
      go_wp2
      go_roundw
      case rel =>
        refine ⟨k + 1, out ++ intI x, by go_num, by omega, ?_, by rw [List.length_append]; exact hown4, ?_⟩
        · rw [HOUT.out, flatMap_take_succ _ _ HX.out, List.append_assoc]
        · exact (hbel.trans (hb3.mono hbel.size)).grown hgr4 (by have := hbel.size; have := hb3.size; omega) (fun bb hb => hown.lt bb hb)
      case measure => simp [intOf]; omega
    · have hkl : k = l.length := by omega
      subst hkl
      have hcv := conv_bytes hown
      go_wp2
      go_ret
      refine ⟨?_, hbel⟩
      rw [HOUT.out, List.take_length]; rfl

theorem list_any (l : List (List UInt8)) (A : Option Addr) (C : Nat) (w : World) (hl : RowAt w A (strs l)) (hn : l.length ≤ 10000) (hs : ∀ x, x ∈ l → x.length ≤ 10000) : Calls Try.prog 18 #[.slice A l.length C] w (StrPost w (listL l)) := by
  have c := writeTexts l A C w hl hn hs
  have hN : Hid (listL l = numL l.length ++ l.flatMap textL) := by unfold Hid listL; rfl
  clear hl hs
  go_enter Try.func18, Try.ntmps18
  go_wp2_with (go_at_call 47; refine (c).mono ?_; rintro e w1 ⟨rfl, hb1⟩)
  go_ret
  exact ⟨by rw [hN.out]; rfl, hb1⟩

theorem nums_any (l : List Int) (A : Option Addr) (C : Nat) (w : World) (hl : RowAt w A (ints l)) (hn : l.length ≤ 10000) (hs : ∀ x, x ∈ l → -9223372036854775808 ≤ x ∧ x ≤ 9223372036854775807) : Calls Try.prog 20 #[.slice A l.length C] w (StrPost w (numsL l)) := by
  have c := writeInts l A C w hl hn hs
  have hN : Hid (numsL l = numL l.length ++ l.flatMap intI) := by unfold Hid numsL; rfl
  clear hl hs
  go_enter Try.func20, Try.ntmps20
  go_wp2_with (go_at_call 48; refine (c).mono ?_; rintro e w1 ⟨rfl, hb1⟩)
  go_ret
  exact ⟨by rw [hN.out]; rfl, hb1⟩

set_option maxRecDepth 100000 in
set_option maxHeartbeats 400000 in
theorem reflist_any (l : List (List UInt8)) (A : Option Addr) (C : Nat) (w : World) (hl : RowAt w A (strs l)) (hn : l.length ≤ 10000) (hs : ∀ x, x ∈ l → x.length ≤ 10000) : Calls Try.prog 19 #[.slice A l.length C] w (StrPost w (listL l)) := by
  have hB : ∀ k, ((l.take k).flatMap textL).length ≤ l.length * 20000 := fun k => flatMap_take_le _ _ _ _ (fun x hx => by have h1 := textL_length x; have h2 := hs x hx; omega)
  have hB' : l.length * 20000 ≤ 200000000 := by omega
  have cn := refnum_any l.length w (by omega)
  have hnum := numI_nat l.length
  have hnl := numI_length l.length
  rw [hnum] at hnl
  have HB := Lib.hid hB
  have HNUM := Lib.hid hnum
  clear hB hnum
  go_enter Try.func19, Try.ntmps19
  go_wp2_with (first | (go_at_call 13; refine (cn).mono ?_; rintro e w1 ⟨rfl, hb1⟩))
  go_loopw [3, 4] (fun v0 v1 wr => ∃ (k : Nat) (out : List UInt8), v0 = .string (bs out) ∧ v1 = .int .i64 k ∧ k ≤ l.length ∧ out = numL l.length ++ (l.take k).flatMap textL ∧ Below w.heap.size w wr) (fun _ v1 _ => l.length - (intOf v1).toNat)
  case atStart => exact ⟨0, numI l.length, rfl, rfl, by omega, by simp [HNUM.out], hb1⟩
  case round =>
    obtain ⟨k, out, rfl, rfl, hk, hout, hbel⟩ := hrel
    have HOUT := Lib.hid hout
    clear hout
    have hol : out.length ≤ 300000000 := by have h1 := HB.out k; rw [HOUT.out, List.length_append]; omega
    by_cases hlt : k < l.length
    · obtain ⟨x, hx⟩ : ∃ x, l[k]? = some x := ⟨_, List.getElem?_eq_getElem hlt⟩
      obtain ⟨b, o, rfl, hc⟩ := (hl.below hbel).at (strs_get hx)
      have HX := Lib.hid hx
      clear hx
      have hxs := hs x (List.mem_of_getElem? HX.out)
      have ce := reftext_any x wr (by omega)
      have ha := bs_append out (textL x)
      have hno : ¬ (9223372036854775807 < (bs out).size + (bs (textL x)).size) := by rw [bs_size, bs_size]; have := textL_length x; omega
      go_wp2_with (first | (go_at_call 17; refine (ce).mono ?_; rintro e w3 ⟨rfl, hb3⟩))
      go_roundw
      case rel =>
        refine ⟨k + 1, out ++ textL x, rfl, by go_num, by omega, ?_, ?_⟩
        · rw [HOUT.out, flatMap_take_succ _ _ HX.out, List.append_assoc]
        · exact hbel.trans (hb3.mono hbel.size)
      case measure => simp [intOf]; omega
    · have hkl : k = l.length := by omega
      subst hkl
      go_wp2
      go_ret
      refine ⟨?_, hbel⟩
      rw [HOUT.out, List.take_length]; rfl

set_option maxRecDepth 100000 in
set_option maxHeartbeats 400000 in
theorem refnums_any (l : List Int) (A : Option Addr) (C : Nat) (w : World) (hl : RowAt w A (ints l)) (hn : l.length ≤ 10000) (hs : ∀ x, x ∈ l → -9223372036854775808 ≤ x ∧ x ≤ 9223372036854775807) : Calls Try.prog 21 #[.slice A l.length C] w (StrPost w (numsL l)) := by
  have hB : ∀ k, ((l.take k).flatMap intI).length ≤ l.length * 20000 := fun k => flatMap_take_le _ _ _ _ (fun x hx => by have h1 := intI_length x; omega)
  have hB' : l.length * 20000 ≤ 200000000 := by omega
  have cn := refnum_any l.length w (by omega)
  have hnum := numI_nat l.length
  have hnl := numI_length l.length
  rw [hnum] at hnl
  have HB := Lib.hid hB
  have HNUM := Lib.hid hnum
  clear hB hnum
  go_enter Try.func21, Try.ntmps21
  go_wp2_with (first | (go_at_call 13; refine (cn).mono ?_; rintro e w1 ⟨rfl, hb1⟩))
  go_loopw [3, 4] (fun v0 v1 wr => ∃ (k : Nat) (out : List UInt8), v0 = .string (bs out) ∧ v1 = .int .i64 k ∧ k ≤ l.length ∧ out = numL l.length ++ (l.take k).flatMap intI ∧ Below w.heap.size w wr) (fun _ v1 _ => l.length - (intOf v1).toNat)
  case atStart => exact ⟨0, numI l.length, rfl, rfl, by omega, by simp [HNUM.out], hb1⟩
  case round =>
    obtain ⟨k, out, rfl, rfl, hk, hout, hbel⟩ := hrel
    have HOUT := Lib.hid hout
    clear hout
    have hol : out.length ≤ 300000000 := by have h1 := HB.out k; rw [HOUT.out, List.length_append]; omega
    by_cases hlt : k < l.length
    · obtain ⟨x, hx⟩ : ∃ x, l[k]? = some x := ⟨_, List.getElem?_eq_getElem hlt⟩
      obtain ⟨b, o, rfl, hc⟩ := (hl.below hbel).at (ints_get hx)
      have HX := Lib.hid hx
      clear hx
      have hxs := hs x (List.mem_of_getElem? HX.out)
      have ce := refint_any x wr (by omega) (by omega)
      have ha := bs_append out (intI x)
      have hno : ¬ (9223372036854775807 < (bs out).size + (bs (intI x)).size) := by rw [bs_size, bs_size]; have := intI_length x; omega
      go_wp2_with (first | (go_at_call 15; refine (ce).mono ?_; rintro e w3 ⟨rfl, hb3⟩))
      go_roundw
      case rel =>
        refine ⟨k + 1, out ++ intI x, rfl, by go_num, by omega, ?_, ?_⟩
        · rw [HOUT.out, flatMap_take_succ _ _ HX.out, List.append_assoc]
        · exact hbel.trans (hb3.mono hbel.size)
      case measure => simp [intOf]; omega
    · have hkl : k = l.length := by omega
      subst hkl
      go_wp2
      go_ret
      refine ⟨?_, hbel⟩
      rw [HOUT.out, List.take_length]; rfl

end Go.Proofs.Ytckgnmloemnkcaa
