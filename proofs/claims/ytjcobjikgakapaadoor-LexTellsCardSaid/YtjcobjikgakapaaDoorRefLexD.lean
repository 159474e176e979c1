/- The reference's lexer: Scan, Same, Write, walked. -/
import Derived.Test.YtjcobjikgakapaaDoorRefLexC
namespace Go.Proofs.YtjcobjikgakapaaDoor
open Go.ChangeShapes Go.WideShapes Go.ChangeAt Go.RowKit Go.Lib
set_option linter.unusedVariables false

theorem rtoken_some {l : List UInt8} {a n : Nat} {c : UInt8} {r : List UInt8} {t : Tok} (w : World) (hd : l.drop a = c :: r) (hl : l.length ≤ 281474976710000) (h : tokF (c :: r) = some (t, n)) :
    Calls Tryd.prog 21 #[.string (bs l), .int .i64 (a : Nat)] w (fun e w' => e = .returned (.tuple #[.agg #[.int .i64 t.kind, .string (bs t.text), .int .i64 t.n, .int .i64 (a : Nat)], .int .i64 (n : Nat)]) ∧ Below w.heap.size w w') := by
  refine (rtok_any l a c r w hd hl).mono ?_
  rintro e w' ⟨⟨u, rfl, hu⟩, hb⟩
  rw [hu t n h, h]
  exact ⟨rfl, hb⟩
theorem rtoken_none {l : List UInt8} {a : Nat} {c : UInt8} {r : List UInt8} (w : World) (hd : l.drop a = c :: r) (hl : l.length ≤ 281474976710000) (h : tokF (c :: r) = none) :
    Calls Tryd.prog 21 #[.string (bs l), .int .i64 (a : Nat)] w (fun e w' => ∃ (x y z : Int) (b : ByteArray), e = .returned (.tuple #[.agg #[.int .i64 x, .string b, .int .i64 y, .int .i64 z], .int .i64 0]) ∧ Below w.heap.size w w') := by
  refine (rtok_any l a c r w hd hl).mono ?_
  rintro e w' ⟨⟨u, rfl, hu⟩, hb⟩
  rw [h]
  exact ⟨u.kind, u.n, u.off, bs u.text, rfl, hb⟩
theorem rscan_full (l : List UInt8) (w : World) (h : 4096 < l.length) (hl : l.length ≤ 281474976710000) : Calls Tryd.prog 11 #[.string (bs l)] w (ScanPost (scanR l) w) := by
  have HR : Hid (scanR l = ([], 7, 0)) := by unfold Hid scanR; rw [if_pos h]
  have hs := bs_size l
  have d1 : decide (4096 < (l.length : Int)) = true := decide_eq_true (by omega)
  clear h
  go_enter Tryd.func11, Tryd.ntmps11
  go_wp2
  go_ret3
  rw [HR.out]
  exact ⟨_, rfl, World.ownsRow_nil _ _ _ _, Below.refl _ _⟩
set_option maxRecDepth 100000 in
set_option maxHeartbeats 2000000 in
theorem rscan_few (l : List UInt8) (w : World) (h : l.length ≤ 4096) : Calls Tryd.prog 11 #[.string (bs l)] w (ScanPost (scanR l) w) := by
  have HR : Hid (scanR l = match sc 0 l with | .ok ts => (ts, 0, 0) | .err k => ([], 2, (k : Nat))) := by unfold Hid scanR; rw [if_neg (by omega)]; rfl
  have hs := bs_size l
  have d1 : decide (4096 < (l.length : Int)) = false := decide_eq_false (by omega)
  obtain ⟨i0, hi, hz0, hz1, hz2⟩ := info_parts info22
  go_enter Tryd.func11, Tryd.ntmps11
  go_wp2_with fail
  go_loopw [5, 6] (fun v6 v7 wr => ∃ (us : List Tok) (k : Nat), k ≤ l.length ∧ v7 = .int .i64 k ∧ us.length ≤ k ∧ wr.ownsRow w.heap.size 25 4 v6 us.length (tokCells us) ∧ Below w.heap.size w wr ∧ Hid (sc 0 l = (sc k (l.drop k)).prep us)) (fun _ v7 _ => l.length - (intOf v7).toNat)
  case atStart => exact ⟨[], 0, by omega, rfl, by simp, World.ownsRow_nil _ _ _ _, Below.refl _ _, by unfold Hid; rw [prep_nil]; rfl⟩
  case round =>
    obtain ⟨us, k, hk, rfl, huk, hown, hbr, HS⟩ := hrel
    obtain ⟨va, vc, rfl⟩ := own_form hown
    by_cases hlt : k < l.length
    · have hg := bs_at l hlt
      have hx : l[k].toNat < 256 := l[k].toNat_lt
      have hdd := List.drop_eq_getElem_cons hlt
      obtain ⟨c, hce⟩ : ∃ c, l[k] = c := ⟨_, rfl⟩
      rw [hce] at hdd hg hx
      have HD := Lib.hid hdd
      have cB := fun W => rblank_any c W
      clear hdd
      cases hsp : isSp c with
      | true =>
        have H : Hid (sc 0 l = (sc (k + 1) (l.drop (k + 1))).prep us) := by unfold Hid; rw [HS.out, HD.out, sc_sp k _ hsp]
        rw [hsp] at cB
        have HO := Lib.hid hown
        clear hce HS hown hsp
        generalize c.toNat = x at *
        go_wp2_with fail
        refine (Calls.mono (cB _) ?_)
        rintro e w1 ⟨rfl, rfl⟩
        go_wp2
        go_roundw
        case rel => exact ⟨us, k + 1, by omega, by go_num, by omega, HO.out, hbr, H⟩
        case measure => simp [intOf]; omega
      | false =>
        rw [hsp] at cB
        cases ht : tokF (c :: l.drop (k + 1)) with
        | none =>
          have cT := fun W => rtoken_none W HD.out (by omega) ht
          have H : Hid (scanR l = ([], 2, ((k : Nat) : Int))) := by unfold Hid; rw [HR.out, HS.out, HD.out, sc_none k _ hsp ht]; rfl
          clear hce HS hown hsp ht
          generalize c.toNat = x at *
          go_wp2_with fail
          refine (Calls.mono (cB _) ?_)
          rintro e w1 ⟨rfl, rfl⟩
          go_wp2_with fail
          refine (Calls.mono (cT _) ?_)
          rintro e w3 ⟨fa, fb, fd, fx, rfl, hb3⟩
          have hbx := hbr.trans (hb3.mono hbr.size)
          clear hb3 cT
          go_wp2_with fail
          go_ret3
          rw [H.out]
          exact ⟨_, rfl, World.ownsRow_nil _ _ _ _, hbx.alloc hbx.size _⟩
        | some q =>
          obtain ⟨t, n⟩ := q
          have hw := tok_wr ht
          have cT := fun W => rtoken_some W HD.out (by omega) ht
          have H : Hid (sc 0 l = (sc (k + n) (l.drop (k + n))).prep (us ++ [{ t with off := (k : Int) }])) := by
            unfold Hid
            rw [HS.out, HD.out, sc_some k _ hsp ht, prep_push, ← HD.out, List.drop_drop]
          have hn : k + n ≤ l.length := by
            have h1 := hw.2.2.1
            rw [← HD.out, List.length_drop] at h1
            omega
          have hn1 := hw.2.1
          have hn0 : ((n : Int) == 0) = false := beq_eq_false_iff_ne.2 (by omega)
          obtain ⟨tk, tt, tn, tf⟩ := t
          have HO := Lib.hid hown
          clear hce HS hown hw ht hsp
          generalize c.toNat = x at *
          go_wp2_with fail
          refine (Calls.mono (cB _) ?_)
          rintro e w1 ⟨rfl, rfl⟩
          go_wp2_with fail
          refine (Calls.mono (cT _) ?_)
          rintro e w3 ⟨rfl, hb3⟩
          have hown3 := own_below HO.out hb3
          have hbx := hbr.trans (hb3.mono hbr.size)
          clear hb3 cT HO
          have HO3 := Lib.hid hown3
          clear hown3
          have hu63 : us.length + 1 ≤ 5000 := by omega
          go_wp2_with (at_builtin; refine wpList_append_own _ rfl _ _ 22 rfl w.heap.size 25 i0 (.agg #[.int .i64 0, .string ⟨#[]⟩, .int .i64 0, .int .i64 0]) 4 40 Tryd.underlying22 hi hz0 hz1 hz2 rfl (by decide) _ _ _ rfl ((HO3.out.alloc _).alloc _) ⟨w3.heap.size + 1, 0, none⟩ 1 1 [.int .i64 tk, .string (bs tt), .int .i64 tn, .int .i64 (k : Nat)] rfl rfl ?c1 ?c2 ?c3 ?c4 ?c5 ?_)
          case c1 =>
            intro j u hj
            rw [cell_add_alloc]
            simpa using hj
          case c2 => intro u hu; simp at hu; rcases hu with rfl | rfl | rfl | rfl <;> rfl
          case c3 => unfold maxLen; omega
          case c4 => omega
          case c5 => simp; exact Nat.le_trans hbx.size (by omega)
          intro v' w' hown' hgrow _
          have hbA := (hbx.alloc hbx.size (.cells #[.int .i64 tk, .string (bs tt), .int .i64 tn, .int .i64 (k : Nat)] 25)).alloc (by simp; exact Nat.le_trans hbx.size (by omega)) (.cells #[.int .i64 tk, .string (bs tt), .int .i64 tn, .int .i64 (k : Nat)] 25)
          have hsz := hbA.size
          have hbG := hbA.grown hgrow hsz (own_base HO3.out)
          have HOW : Hid (w'.ownsRow w.heap.size 25 4 v' (us ++ [(⟨tk, tt, tn, (k : Nat)⟩ : Tok)]).length (tokCells (us ++ [(⟨tk, tt, tn, (k : Nat)⟩ : Tok)]))) := by
            unfold Hid
            rw [List.length_append, tokCells_append]
            exact hown'
          clear hown' hgrow hbA hsz HO3
          go_wp2
          go_roundw
          case rel => exact ⟨us ++ [(⟨tk, tt, tn, (k : Nat)⟩ : Tok)], k + n, by omega, by go_num, by simp; omega, HOW.out, hbG, H⟩
          case measure => simp [intOf]; omega
    · have hkl : k = l.length := by omega
      have H : Hid (scanR l = (us ++ [⟨4, [], 0, (l.length : Nat)⟩], 0, 0)) := by
        unfold Hid
        rw [HR.out, HS.out, hkl, List.drop_length, sc_nil]
        rfl
      subst hkl
      have HO3 := Lib.hid hown
      clear hown HS
      have hu63 : us.length + 1 ≤ 5000 := by omega
      go_wp2_with (at_builtin; refine wpList_append_own _ rfl _ _ 22 rfl w.heap.size 25 i0 (.agg #[.int .i64 0, .string ⟨#[]⟩, .int .i64 0, .int .i64 0]) 4 40 Tryd.underlying22 hi hz0 hz1 hz2 rfl (by decide) _ _ _ rfl (HO3.out.alloc _) ⟨wr.heap.size, 0, none⟩ 1 1 [.int .i64 4, .string ⟨#[]⟩, .int .i64 0, .int .i64 (l.length : Nat)] rfl rfl ?d1 ?d2 ?d3 ?d4 ?d5 ?_)
      case d1 =>
        intro j u hj
        rw [cell_add_new]
        simpa using hj
      case d2 => intro u hu; simp at hu; rcases hu with rfl | rfl | rfl | rfl <;> rfl
      case d3 => unfold maxLen; omega
      case d4 => omega
      case d5 => simp; exact Nat.le_trans hbr.size (by omega)
      intro v' w' hown' hgrow _
      have hbA := hbr.alloc hbr.size (.cells #[.int .i64 4, .string ⟨#[]⟩, .int .i64 0, .int .i64 (l.length : Nat)] 25)
      have hbG := hbA.grown hgrow hbA.size (own_base HO3.out)
      have HOW : Hid (w'.ownsRow w.heap.size 25 4 v' (us ++ [(⟨4, [], 0, (l.length : Nat)⟩ : Tok)]).length (tokCells (us ++ [(⟨4, [], 0, (l.length : Nat)⟩ : Tok)]))) := by
        unfold Hid
        rw [List.length_append, tokCells_append]
        exact hown'
      clear hown' hgrow hbA HO3
      go_wp2_with fail
      go_ret3
      rw [H.out]
      exact ⟨_, rfl, HOW.out, hbG⟩
theorem rscan_any (l : List UInt8) (w : World) (hl : l.length ≤ 281474976710000) : Calls Tryd.prog 11 #[.string (bs l)] w (ScanPost (scanR l) w) := by
  by_cases h : 4096 < l.length
  · exact rscan_full l w h hl
  · exact rscan_few l w (by omega)
set_option maxRecDepth 100000 in
set_option maxHeartbeats 1000000 in
theorem rsame_true (A B : Option Addr) (c d : Nat) (xs : List Tok) (w : World) (hA : TokR w A xs) (hB : TokR w B xs) (hlim : xs.length ≤ 1000000) :
    Calls Tryd.prog 12 #[.slice A xs.length c, .slice B xs.length d, .bool true] w (BoolPost w true) := by
  obtain ⟨n, hn⟩ : ∃ n, xs.length = n := ⟨_, rfl⟩
  rw [hn]
  rw [hn] at hlim
  have HN := Lib.hid hn
  clear hn
  go_enter Tryd.func12, Tryd.ntmps12
  go_wp2
  go_loopw [7] (fun v wr => ∃ k q : Nat, k ≤ n ∧ v = .int .i64 k ∧ wr = w.drewN q) (fun v _ => n - (intOf v).toNat)
  case atStart => exact ⟨0, 0, by omega, rfl, rfl⟩
  case round =>
    obtain ⟨k, q, hk, rfl, rfl⟩ := hrel
    by_cases hlt : k < n
    · obtain ⟨t, ht⟩ : ∃ t, xs[k]? = some t := ⟨_, List.getElem?_eq_getElem (by have := HN.out; omega)⟩
      obtain ⟨g, o, rfl, _, a0, a1, a2, a3⟩ := hA k t ht
      obtain ⟨g', o', rfl, _, b0, b1, b2, b3⟩ := hB k t ht
      obtain ⟨tk, tt, tn, tf⟩ := t
      have htl := bs_toList tt
      clear ht hA hB
      go_wp2
      go_quiet (fail)
      go_wp2
      go_roundw
      case rel => exact ⟨k + 1, _, by omega, by go_num, by first | rfl | (simp; rfl)⟩
      case measure => simp [intOf]; omega
    · have hkn : k = n := by omega
      subst hkn
      go_wp2
      go_ret
      exact ⟨rfl, below_drewN (Below.refl _ _) _⟩
theorem joinW_snoc (xs : List (List UInt8)) (x : List UInt8) : joinW (xs ++ [x]) = if xs = [] then x else joinW xs ++ (32 :: x) := by
  cases xs with
  | nil => rfl
  | cons a r =>
    rw [if_neg (by simp), List.cons_append, joinW_tail, joinW_tail]
    simp
set_option maxRecDepth 100000 in
set_option maxHeartbeats 4000000 in
theorem rwrite_any (A : Option Addr) (n c : Nat) (ts : List Tok) (w : World) (hA : TokR w A ts) (hn : ts.length = n) (hlim : n ≤ 100000) (hw : ∀ t ∈ ts, wf64 t.n ∧ t.text.length ≤ 50) :
    Calls Tryd.prog 14 #[.slice A n c] w (Same (.string (bs (writeL ts))) w) := by
  have HW := Lib.hid hw
  have HN := Lib.hid hn
  have HA := Lib.hid hA
  have HX0 : Hid ((⟨#[]⟩ : ByteArray) = bs []) := rfl
  clear hw hA hn
  go_enter Tryd.func14, Tryd.ntmps14
  go_wp2
  go_loop [3, 4, 5] (fun v3 v4 v5 => ∃ k : Nat, k ≤ n ∧ v5 = .int .i64 k ∧ v3 = .string (bs (joinW ((ts.take k).filterMap wrO))) ∧ v4 = .bool ((ts.take k).filterMap wrO).isEmpty) (fun _ _ v5 => n - (intOf v5).toNat)
  case atStart => exact ⟨0, by omega, rfl, by rw [HX0.out]; rfl, rfl⟩
  case round =>
    obtain ⟨k, hk, rfl, rfl, rfl⟩ := hrel
    by_cases hlt : k < n
    · obtain ⟨t, ht⟩ : ∃ t, ts[k]? = some t := ⟨_, List.getElem?_eq_getElem (by have := HN.out; omega)⟩
      obtain ⟨wt, wl⟩ := HW.out t (List.mem_of_getElem? ht)
      obtain ⟨g, o, rfl, hg, a0, a1, a2, a3⟩ := HA.out k t ht
      have HT := Lib.hid (take_fm ht)
      have hjl : (joinW ((ts.take k).filterMap wrO)).length ≤ 6000000 := by
        have h1 := writeL_len (ts.take k) (fun t h => HW.out t (List.mem_of_mem_take h))
        have h2 : (ts.take k).length ≤ k := by simp; omega
        unfold writeL at h1
        omega
      clear ht a3
      obtain ⟨tk, tt, tn, tf⟩ := t
      have wl' : tt.length ≤ 50 := wl
      have wt' : wf64 tn := wt
      have htl := bs_size tt
      have hjs := bs_size (joinW ((ts.take k).filterMap wrO))
      clear wl wt
      obtain ⟨xs, hxs⟩ : ∃ xs, (ts.take k).filterMap wrO = xs := ⟨_, rfl⟩
      rw [hxs] at HT hjl hjs
      rw [hxs]
      clear hxs
      by_cases h4 : tk = 4
      · subst h4
        have H : Hid (((ts.take (k + 1)).filterMap wrO) = xs) := by unfold Hid; rw [HT.out]; simp [wrO]
        clear HT
        generalize hjx : joinW xs = jx at *
        have HJ := Lib.hid hjx
        generalize hem : xs.isEmpty = em at *
        have HE := Lib.hid hem
        clear hjx hem
        go_wp2
        go_round
        case rel => exact ⟨k + 1, by omega, by go_num, by rw [H.out, HJ.out], by rw [H.out, HE.out]⟩
        case measure => simp [intOf]; omega
      have b4 : ((tk : Int) == 4) = false := beq_eq_false_iff_ne.2 h4
      by_cases h0 : tk = 0
      · subst h0
        have H : Hid (((ts.take (k + 1)).filterMap wrO) = xs ++ [tt]) := by unfold Hid; rw [HT.out]; simp [wrO]
        clear h4
        cases xs with
        | nil =>
          have HN1 : Hid (joinW ((ts.take (k + 1)).filterMap wrO) = tt) := by unfold Hid; rw [H.out]; rfl
          have HE1 : Hid (((ts.take (k + 1)).filterMap wrO).isEmpty = false) := by unfold Hid; rw [H.out]; rfl
          have e0 : bs (joinW []) = (⟨#[]⟩ : ByteArray) := rfl
          have ea : (⟨#[]⟩ : ByteArray) ++ bs tt = bs tt := by rw [show (⟨#[]⟩ : ByteArray) = bs [] from rfl]; exact bs_append [] _
          clear H HT
          go_wp2_with fail
          go_round
          case rel => exact ⟨k + 1, by omega, by go_num, by rw [HN1.out] <;> rfl, by rw [HE1.out]⟩
          case measure => simp [intOf]; omega
        | cons y ys =>
          have HN1 : Hid (joinW ((ts.take (k + 1)).filterMap wrO) = (joinW (y :: ys) ++ [32]) ++ tt) := by unfold Hid; rw [H.out, joinW_snoc, if_neg (by simp)]; simp
          have HE1 : Hid (((ts.take (k + 1)).filterMap wrO).isEmpty = false) := by unfold Hid; rw [H.out]; simp
          clear H HT
          generalize joinW (y :: ys) = jx at *
          have ea : bs jx ++ (⟨#[32]⟩ : ByteArray) = bs (jx ++ [32]) := bs_append jx [32]
          have eb : bs (jx ++ [32]) ++ bs tt = bs ((jx ++ [32]) ++ tt) := bs_append _ _
          have ec : (bs (jx ++ [32])).size = jx.length + 1 := by rw [bs_size]; simp
          obtain ⟨jy, hjy⟩ : ∃ jy, jx ++ [32] = jy := ⟨_, rfl⟩
          rw [hjy] at ea eb ec HN1
          obtain ⟨jz, hjz⟩ : ∃ jz, jy ++ tt = jz := ⟨_, rfl⟩
          rw [hjz] at eb HN1
          clear hjy hjz
          go_wp2_with fail
          go_round
          case rel => exact ⟨k + 1, by omega, by go_num, by rw [HN1.out] <;> rfl, by rw [HE1.out]⟩
          case measure => simp [intOf]; omega
      have b0 : ((tk : Int) == 0) = false := beq_eq_false_iff_ne.2 h0
      by_cases h3 : tk = 3
      · subst h3
        have H : Hid (((ts.take (k + 1)).filterMap wrO) = xs ++ [tt]) := by unfold Hid; rw [HT.out]; simp [wrO]
        clear h4 h0
        cases xs with
        | nil =>
          have HN1 : Hid (joinW ((ts.take (k + 1)).filterMap wrO) = tt) := by unfold Hid; rw [H.out]; rfl
          have HE1 : Hid (((ts.take (k + 1)).filterMap wrO).isEmpty = false) := by unfold Hid; rw [H.out]; rfl
          have e0 : bs (joinW []) = (⟨#[]⟩ : ByteArray) := rfl
          have ea : (⟨#[]⟩ : ByteArray) ++ bs tt = bs tt := by rw [show (⟨#[]⟩ : ByteArray) = bs [] from rfl]; exact bs_append [] _
          clear H HT
          go_wp2_with fail
          go_round
          case rel => exact ⟨k + 1, by omega, by go_num, by rw [HN1.out] <;> rfl, by rw [HE1.out]⟩
          case measure => simp [intOf]; omega
        | cons y ys =>
          have HN1 : Hid (joinW ((ts.take (k + 1)).filterMap wrO) = (joinW (y :: ys) ++ [32]) ++ tt) := by unfold Hid; rw [H.out, joinW_snoc, if_neg (by simp)]; simp
          have HE1 : Hid (((ts.take (k + 1)).filterMap wrO).isEmpty = false) := by unfold Hid; rw [H.out]; simp
          clear H HT
          generalize joinW (y :: ys) = jx at *
          have ea : bs jx ++ (⟨#[32]⟩ : ByteArray) = bs (jx ++ [32]) := bs_append jx [32]
          have eb : bs (jx ++ [32]) ++ bs tt = bs ((jx ++ [32]) ++ tt) := bs_append _ _
          have ec : (bs (jx ++ [32])).size = jx.length + 1 := by rw [bs_size]; simp
          obtain ⟨jy, hjy⟩ : ∃ jy, jx ++ [32] = jy := ⟨_, rfl⟩
          rw [hjy] at ea eb ec HN1
          obtain ⟨jz, hjz⟩ : ∃ jz, jy ++ tt = jz := ⟨_, rfl⟩
          rw [hjz] at eb HN1
          clear hjy hjz
          go_wp2_with fail
          go_round
          case rel => exact ⟨k + 1, by omega, by go_num, by rw [HN1.out] <;> rfl, by rw [HE1.out]⟩
          case measure => simp [intOf]; omega
      have b3 : ((tk : Int) == 3) = false := beq_eq_false_iff_ne.2 h3
      by_cases h1 : tk = 1
      · subst h1
        have H : Hid (((ts.take (k + 1)).filterMap wrO) = xs ++ [itoa tn]) := by unfold Hid; rw [HT.out]; simp [wrO]
        have cT := fun W => rtext_any tn W wt'
        have hil := (itoa_length wt'.1 wt'.2).1
        have his := bs_size (itoa tn)
        generalize itoa tn = itn at *
        clear h4 h0 h3
        cases xs with
        | nil =>
          have HN1 : Hid (joinW ((ts.take (k + 1)).filterMap wrO) = itn) := by unfold Hid; rw [H.out]; rfl
          have HE1 : Hid (((ts.take (k + 1)).filterMap wrO).isEmpty = false) := by unfold Hid; rw [H.out]; rfl
          have e0 : bs (joinW []) = (⟨#[]⟩ : ByteArray) := rfl
          have ea : (⟨#[]⟩ : ByteArray) ++ bs itn = bs itn := by rw [show (⟨#[]⟩ : ByteArray) = bs [] from rfl]; exact bs_append [] _
          clear H HT
          go_wp2_with fail
          refine (Calls.mono (cT _) ?_)
          rintro e w1 ⟨rfl, rfl⟩
          go_wp2_with fail
          go_round
          case rel => exact ⟨k + 1, by omega, by go_num, by rw [HN1.out] <;> rfl, by rw [HE1.out]⟩
          case measure => simp [intOf]; omega
        | cons y ys =>
          have HN1 : Hid (joinW ((ts.take (k + 1)).filterMap wrO) = (joinW (y :: ys) ++ [32]) ++ itn) := by unfold Hid; rw [H.out, joinW_snoc, if_neg (by simp)]; simp
          have HE1 : Hid (((ts.take (k + 1)).filterMap wrO).isEmpty = false) := by unfold Hid; rw [H.out]; simp
          clear H HT
          generalize joinW (y :: ys) = jx at *
          have ea : bs jx ++ (⟨#[32]⟩ : ByteArray) = bs (jx ++ [32]) := bs_append jx [32]
          have eb : bs (jx ++ [32]) ++ bs itn = bs ((jx ++ [32]) ++ itn) := bs_append _ _
          have ec : (bs (jx ++ [32])).size = jx.length + 1 := by rw [bs_size]; simp
          obtain ⟨jy, hjy⟩ : ∃ jy, jx ++ [32] = jy := ⟨_, rfl⟩
          rw [hjy] at ea eb ec HN1
          obtain ⟨jz, hjz⟩ : ∃ jz, jy ++ itn = jz := ⟨_, rfl⟩
          rw [hjz] at eb HN1
          clear hjy hjz
          go_wp2_with fail
          refine (Calls.mono (cT _) ?_)
          rintro e w1 ⟨rfl, rfl⟩
          go_wp2_with fail
          go_round
          case rel => exact ⟨k + 1, by omega, by go_num, by rw [HN1.out] <;> rfl, by rw [HE1.out]⟩
          case measure => simp [intOf]; omega
      have b1 : ((tk : Int) == 1) = false := beq_eq_false_iff_ne.2 h1
      by_cases h2 : tk = 2
      · subst h2
        have H : Hid (((ts.take (k + 1)).filterMap wrO) = xs ++ [34 :: (tt ++ [34])]) := by unfold Hid; rw [HT.out]; simp [wrO]
        have q1 : (⟨#[34]⟩ : ByteArray) ++ bs tt = bs (34 :: tt) := bs_append [34] tt
        have q2 : bs (34 :: tt) ++ (⟨#[34]⟩ : ByteArray) = bs (34 :: (tt ++ [34])) := bs_append (34 :: tt) [34]
        have q3 := bs_size (34 :: tt)
        rw [List.length_cons] at q3
        have q4 : (bs (34 :: (tt ++ [34]))).size = tt.length + 2 := by rw [bs_size]; simp
        obtain ⟨qx, hqx⟩ : ∃ qx, 34 :: (tt ++ [34]) = qx := ⟨_, rfl⟩
        rw [hqx] at q2 q4 H
        obtain ⟨qy, hqy⟩ : ∃ qy, 34 :: tt = qy := ⟨_, rfl⟩
        rw [hqy] at q1 q2 q3
        clear h4 h0 h3 h1 hqx hqy
        cases xs with
        | nil =>
          have HN1 : Hid (joinW ((ts.take (k + 1)).filterMap wrO) = qx) := by unfold Hid; rw [H.out]; rfl
          have HE1 : Hid (((ts.take (k + 1)).filterMap wrO).isEmpty = false) := by unfold Hid; rw [H.out]; rfl
          have e0 : bs (joinW []) = (⟨#[]⟩ : ByteArray) := rfl
          have ea : (⟨#[]⟩ : ByteArray) ++ bs qx = bs qx := by rw [show (⟨#[]⟩ : ByteArray) = bs [] from rfl]; exact bs_append [] _
          clear H HT
          go_wp2_with fail
          go_round
          case rel => exact ⟨k + 1, by omega, by go_num, by rw [HN1.out] <;> rfl, by rw [HE1.out]⟩
          case measure => simp [intOf]; omega
        | cons y ys =>
          have HN1 : Hid (joinW ((ts.take (k + 1)).filterMap wrO) = (joinW (y :: ys) ++ [32]) ++ qx) := by unfold Hid; rw [H.out, joinW_snoc, if_neg (by simp)]; simp
          have HE1 : Hid (((ts.take (k + 1)).filterMap wrO).isEmpty = false) := by unfold Hid; rw [H.out]; simp
          clear H HT
          generalize joinW (y :: ys) = jx at *
          have ea : bs jx ++ (⟨#[32]⟩ : ByteArray) = bs (jx ++ [32]) := bs_append jx [32]
          have eb : bs (jx ++ [32]) ++ bs qx = bs ((jx ++ [32]) ++ qx) := bs_append _ _
          have ec : (bs (jx ++ [32])).size = jx.length + 1 := by rw [bs_size]; simp
          obtain ⟨jy, hjy⟩ : ∃ jy, jx ++ [32] = jy := ⟨_, rfl⟩
          rw [hjy] at ea eb ec HN1
          obtain ⟨jz, hjz⟩ : ∃ jz, jy ++ qx = jz := ⟨_, rfl⟩
          rw [hjz] at eb HN1
          clear hjy hjz
          go_wp2_with fail
          go_round
          case rel => exact ⟨k + 1, by omega, by go_num, by rw [HN1.out] <;> rfl, by rw [HE1.out]⟩
          case measure => simp [intOf]; omega
      have b2 : ((tk : Int) == 2) = false := beq_eq_false_iff_ne.2 h2
      have H : Hid (((ts.take (k + 1)).filterMap wrO) = xs ++ [[]]) := by unfold Hid; rw [HT.out]; simp [wrO, h4, h0, h3, h1, h2]
      clear h4 h0 h3 h1 h2
      cases xs with
      | nil =>
        have HN1 : Hid (joinW ((ts.take (k + 1)).filterMap wrO) = []) := by unfold Hid; rw [H.out]; rfl
        have HE1 : Hid (((ts.take (k + 1)).filterMap wrO).isEmpty = false) := by unfold Hid; rw [H.out]; rfl
        have e0 : bs (joinW []) = (⟨#[]⟩ : ByteArray) := rfl
        have ea : (⟨#[]⟩ : ByteArray) ++ (⟨#[]⟩ : ByteArray) = (⟨#[]⟩ : ByteArray) := by rw [show (⟨#[]⟩ : ByteArray) = bs [] from rfl]; exact bs_append [] _
        clear H HT
        go_wp2_with fail
        go_round
        case rel => exact ⟨k + 1, by omega, by go_num, by rw [HN1.out] <;> rfl, by rw [HE1.out]⟩
        case measure => simp [intOf]; omega
      | cons y ys =>
        have HN1 : Hid (joinW ((ts.take (k + 1)).filterMap wrO) = (joinW (y :: ys) ++ [32]) ++ []) := by unfold Hid; rw [H.out, joinW_snoc, if_neg (by simp)]; simp
        have HE1 : Hid (((ts.take (k + 1)).filterMap wrO).isEmpty = false) := by unfold Hid; rw [H.out]; simp
        clear H HT
        generalize joinW (y :: ys) = jx at *
        have ea : bs jx ++ (⟨#[32]⟩ : ByteArray) = bs (jx ++ [32]) := bs_append jx [32]
        have eb : bs (jx ++ [32]) ++ (⟨#[]⟩ : ByteArray) = bs ((jx ++ [32]) ++ []) := bs_append _ _
        have ec : (bs (jx ++ [32])).size = jx.length + 1 := by rw [bs_size]; simp
        obtain ⟨jy, hjy⟩ : ∃ jy, jx ++ [32] = jy := ⟨_, rfl⟩
        rw [hjy] at ea eb ec HN1
        obtain ⟨jz, hjz⟩ : ∃ jz, jy ++ [] = jz := ⟨_, rfl⟩
        rw [hjz] at eb HN1
        clear hjy hjz
        go_wp2_with fail
        go_round
        case rel => exact ⟨k + 1, by omega, by go_num, by rw [HN1.out] <;> rfl, by rw [HE1.out]⟩
        case measure => simp [intOf]; omega
    · have hkn : k = n := by omega
      subst hkn
      have HF : Hid (joinW ((ts.take k).filterMap wrO) = writeL ts) := by unfold Hid; rw [List.take_of_length_le (by rw [HN.out]; omega)]; rfl
      generalize (ts.take k).filterMap wrO = xs at *
      generalize hjx : joinW xs = jx at *
      have HJ := Lib.hid HF.out
      clear HF hjx
      go_wp2_with fail
      go_ret
      exact ⟨by rw [← HJ.out]; rfl, rfl⟩
end Go.Proofs.YtjcobjikgakapaaDoor
