/- The reference's lexer: its token, walked. -/
import Derived.Test.YtjcobjikgakapaaDoorRefLexB
namespace Go.Proofs.YtjcobjikgakapaaDoor
open Go.ChangeShapes Go.WideShapes Go.ChangeAt Go.RowKit Go.Lib
set_option linter.unusedVariables false

def tokN (o : Option (Tok × Nat)) : Nat := match o with
  | some (_, n) => n
  | none => 0
def RTokPost (o : Option (Tok × Nat)) (a : Nat) (w : World) (e : Ending) (w' : World) : Prop :=
  (∃ u : Tok, e = .returned (.tuple #[.agg (tokV u), .int .i64 (tokN o : Nat)]) ∧ ∀ t n, o = some (t, n) → u = { t with off := (a : Nat) }) ∧ Below w.heap.size w w'
theorem rtok_post {o : Option (Tok × Nat)} {a : Nat} {w w' : World} (u : Tok) (n : Nat) (hn : n = tokN o) (h : ∀ t m, o = some (t, m) → u = { t with off := (a : Nat) }) (hB : Below w.heap.size w w') :
    RTokPost o a w (.returned (.tuple #[.agg #[.int .i64 u.kind, .string (bs u.text), .int .i64 u.n, .int .i64 u.off], .int .i64 (n : Nat)])) w' := ⟨⟨u, by rw [hn]; rfl, h⟩, hB⟩
theorem results_cell1 {P : Program} {fn : Func} {p a : Tmp} {ty : TypeId} (h : fn.results = #[.cell p ty, .tmp a]) (tmps : Array Value) (w : World) (g : Nat) (t : TypeId) (cs : Array Value) (fr : Nat × Nat) (d : TypeDesc)
    (hp : tmps.getD p undef = .pointer (some ⟨g, 0, none⟩)) (hg : w.heap[g]? = some (.cells cs t fr))
    (hu : P.underlying ty = some d) (hd : (match d with | .struct _ | .array _ _ => true | _ => false) = true) (hi : (P.info? ty).map (·.size) = some cs.size) :
    (results fn tmps).run P w = .ok (.tuple #[.agg cs, tmps.getD a undef]) w := by
  have hp' : tmps[p]?.getD undef = .pointer (some ⟨g, 0, none⟩) := by simpa using hp
  simp [results, h, hp', asAddr, run_loadVar_row w g t ty cs fr d hg hu hd hi]
set_option maxRecDepth 100000 in
set_option maxHeartbeats 2000000 in
theorem rtok_letter (l : List UInt8) (a : Nat) (c : UInt8) (r : List UInt8) (w : World) (hd : l.drop a = c :: r) (ha : a < l.length) (hl : l.length ≤ 281474976710000) (hc : isLe c = true) (hg : ∀ h, ((bs l)[a]'h).toNat = c.toNat) :
    Calls Tryd.prog 21 #[.string (bs l), .int .i64 (a : Nat)] w (RTokPost (tokF (c :: r)) a w) := by
  have HF : Hid (tokF (c :: r) = if (wordL (c :: r)).length ≤ 24 then some (⟨0, wordL (c :: r), 0, 0⟩, (wordL (c :: r)).length) else none) := by
    unfold Hid
    simp only [tokF]
    rw [if_pos hc]
  have hs := bs_size l
  have cL := fun W => rletter_any c W
  have cD := fun W => rdigit_any c W
  have cW := fun W => rword_any l a W (by omega) (by omega)
  rw [hd] at cW
  have hwl : a + (wordL (c :: r)).length ≤ l.length := by
    have h1 := word_le (c :: r)
    rw [← hd, List.length_drop] at h1
    rw [← hd]; omega
  have hsl := slice_any l a (a + (wordL (c :: r)).length) (by omega) hwl (a : Int) ((a : Int) + ((wordL (c :: r)).length : Int)) rfl (by omega)
  rw [hd, show a + (wordL (c :: r)).length - a = (wordL (c :: r)).length by omega, take_word] at hsl
  have hx := c.toNat_lt
  rw [hc] at cL
  clear hd hc cD
  generalize hwd : wordL (c :: r) = wd at *
  generalize c.toNat = x at *
  by_cases h24 : wd.length ≤ 24
  · have HT : Hid (tokF (c :: r) = some (⟨0, wd, 0, 0⟩, wd.length)) := by unfold Hid; rw [HF.out, if_pos h24]
    have d24 : decide (24 < (wd.length : Int)) = false := decide_eq_false (by omega)
    clear HF hwd
    go_enter Tryd.func21, Tryd.ntmps21
    go_wp2_with fail
    refine (Calls.mono (cL _) ?_)
    rintro e w1 ⟨rfl, rfl⟩
    go_wp2_with fail
    refine (Calls.mono (cW _) ?_)
    rintro e w1 ⟨rfl, rfl⟩
    go_wp2_with fail
    refine bodyPost_ret (results_cell1 rfl _ _ w.heap.size 25 #[.int .i64 0, .string (bs wd), .int .i64 0, .int .i64 (a : Nat)] (0, 0) _ rfl (heap_alloc2_old _ _ _) Tryd.underlying25 rfl info25) rfl ?_
    rw [HT.out]
    exact rtok_post ⟨0, wd, 0, (a : Nat)⟩ wd.length rfl (by intro t m h; injection h with h; injection h with h1 h2; subst h1; rfl) (((Below.refl _ _).alloc (Nat.le_refl _) _).alloc (by simp) _)
  · have HT : Hid (tokF (c :: r) = none) := by unfold Hid; rw [HF.out, if_neg h24]
    have d24 : decide (24 < (wd.length : Int)) = true := decide_eq_true (by omega)
    clear HF hwd
    go_enter Tryd.func21, Tryd.ntmps21
    go_wp2_with fail
    refine (Calls.mono (cL _) ?_)
    rintro e w1 ⟨rfl, rfl⟩
    go_wp2_with fail
    refine (Calls.mono (cW _) ?_)
    rintro e w1 ⟨rfl, rfl⟩
    go_wp2_with fail
    refine bodyPost_ret (results_cell1 rfl _ _ w.heap.size 25 #[.int .i64 0, .string (⟨#[]⟩), .int .i64 0, .int .i64 (a : Nat)] (0, 0) _ rfl (heap_alloc2_old _ _ _) Tryd.underlying25 rfl info25) rfl ?_
    rw [HT.out]
    exact rtok_post ⟨0, [], 0, (a : Nat)⟩ 0 rfl (by intro t m h; cases h) (((Below.refl _ _).alloc (Nat.le_refl _) _).alloc (by simp) _)
set_option maxRecDepth 100000 in
set_option maxHeartbeats 2000000 in
theorem rtok_digit (l : List UInt8) (a : Nat) (c : UInt8) (r : List UInt8) (w : World) (hd : l.drop a = c :: r) (ha : a < l.length) (hl : l.length ≤ 281474976710000) (hc0 : isLe c = false) (hc : isDi c = true) (hg : ∀ h, ((bs l)[a]'h).toNat = c.toNat) :
    Calls Tryd.prog 21 #[.string (bs l), .int .i64 (a : Nat)] w (RTokPost (tokF (c :: r)) a w) := by
  have HF : Hid (tokF (c :: r) = (parseI (wordL (c :: r)) 0 1125899906842624).map fun n => (⟨1, [], n, 0⟩, (wordL (c :: r)).length)) := by
    unfold Hid
    simp only [tokF]
    rw [if_neg (by simp [hc0]), if_pos hc]
  have hs := bs_size l
  have cL := fun W => rletter_any c W
  have cD := fun W => rdigit_any c W
  have cW := fun W => rword_any l a W (by omega) (by omega)
  rw [hd] at cW
  have hwl : a + (wordL (c :: r)).length ≤ l.length := by
    have h1 := word_le (c :: r)
    rw [← hd, List.length_drop] at h1
    rw [← hd]; omega
  have hsl := slice_any l a (a + (wordL (c :: r)).length) (by omega) hwl (a : Int) ((a : Int) + ((wordL (c :: r)).length : Int)) rfl (by omega)
  rw [hd, show a + (wordL (c :: r)).length - a = (wordL (c :: r)).length by omega, take_word] at hsl
  have hx := c.toNat_lt
  rw [hc0] at cL
  rw [hc] at cD
  have cP := fun W => rparse_any (wordL (c :: r)) 0 1125899906842624 W (by omega)
  rw [ref_eq] at cP
  clear hd hc hc0
  generalize hwd : wordL (c :: r) = wd at *
  generalize c.toNat = x at *
  have HP : ∀ o, parseI wd 0 1125899906842624 = o → Hid (tokF (c :: r) = o.map fun n => (⟨1, [], n, 0⟩, wd.length)) := fun o h => by unfold Hid; rw [HF.out, h]
  clear HF hwd
  generalize hpo : parseI wd 0 1125899906842624 = o at *
  have HT := HP o rfl
  clear HP hpo
  cases o with
  | some m =>
    have cP2 : ∀ W, Calls Tryd.prog 32 #[.string (bs wd), .int .i64 0, .int .i64 1125899906842624] W (Same (.tuple #[.int .i64 m, .bool true]) W) := cP
    clear cP
    go_enter Tryd.func21, Tryd.ntmps21
    go_wp2_with fail
    refine (Calls.mono (cL _) ?_)
    rintro e w1 ⟨rfl, rfl⟩
    go_wp2_with fail
    refine (Calls.mono (cD _) ?_)
    rintro e w1 ⟨rfl, rfl⟩
    go_wp2_with fail
    refine (Calls.mono (cW _) ?_)
    rintro e w1 ⟨rfl, rfl⟩
    go_wp2_with fail
    refine (Calls.mono (cP2 _) ?_)
    rintro e w1 ⟨rfl, rfl⟩
    go_wp2_with fail
    refine bodyPost_ret (results_cell1 rfl _ _ w.heap.size 25 #[.int .i64 1, .string (⟨#[]⟩), .int .i64 m, .int .i64 (a : Nat)] (0, 0) _ rfl (heap_alloc2_old _ _ _) Tryd.underlying25 rfl info25) rfl ?_
    rw [HT.out]
    exact rtok_post ⟨1, [], m, (a : Nat)⟩ wd.length rfl (by intro t m h; injection h with h; injection h with h1 h2; subst h1; rfl) (((Below.refl _ _).alloc (Nat.le_refl _) _).alloc (by simp) _)
  | none =>
    have cP2 : ∀ W, Calls Tryd.prog 32 #[.string (bs wd), .int .i64 0, .int .i64 1125899906842624] W (Same (.tuple #[.int .i64 0, .bool false]) W) := cP
    clear cP
    go_enter Tryd.func21, Tryd.ntmps21
    go_wp2_with fail
    refine (Calls.mono (cL _) ?_)
    rintro e w1 ⟨rfl, rfl⟩
    go_wp2_with fail
    refine (Calls.mono (cD _) ?_)
    rintro e w1 ⟨rfl, rfl⟩
    go_wp2_with fail
    refine (Calls.mono (cW _) ?_)
    rintro e w1 ⟨rfl, rfl⟩
    go_wp2_with fail
    refine (Calls.mono (cP2 _) ?_)
    rintro e w1 ⟨rfl, rfl⟩
    go_wp2_with fail
    refine bodyPost_ret (results_cell1 rfl _ _ w.heap.size 25 #[.int .i64 0, .string (⟨#[]⟩), .int .i64 0, .int .i64 (a : Nat)] (0, 0) _ rfl (heap_alloc2_old _ _ _) Tryd.underlying25 rfl info25) rfl ?_
    rw [HT.out]
    exact rtok_post ⟨0, [], 0, (a : Nat)⟩ 0 rfl (by intro t m h; cases h) (((Below.refl _ _).alloc (Nat.le_refl _) _).alloc (by simp) _)
set_option maxRecDepth 100000 in
set_option maxHeartbeats 2000000 in
theorem rtok_quote (l : List UInt8) (a : Nat) (c : UInt8) (r : List UInt8) (w : World) (hd : l.drop a = c :: r) (ha : a < l.length) (hl : l.length ≤ 281474976710000) (hc : c = 34) (hg : ∀ h, ((bs l)[a]'h).toNat = c.toNat) :
    Calls Tryd.prog 21 #[.string (bs l), .int .i64 (a : Nat)] w (RTokPost (tokF (c :: r)) a w) := by
  have HF : Hid (tokF (c :: r) = (textF 25 r).map fun w => (⟨2, w, 0, 0⟩, w.length + 2)) := by
    unfold Hid
    subst hc
    simp only [tokF]
    rw [if_neg (by decide), if_neg (by decide), if_pos trivial]
  have hs := bs_size l
  have cL := fun W => rletter_any c W
  have cD := fun W => rdigit_any c W
  rw [show isLe c = false by rw [hc]; rfl] at cL
  rw [show isDi c = false by rw [hc]; rfl] at cD
  have cQ := fun W => rquoted_any l a W ha (by omega)
  have hdr : l.drop (a + 1) = r := by rw [← List.drop_drop, hd]; rfl
  rw [hdr] at cQ
  have hx : c.toNat = 34 := by rw [hc]; rfl
  rw [hx] at hg cL cD
  have hrl : r.length + a + 1 = l.length := by
    have := congrArg List.length hd
    simp at this; omega
  clear hd hc hx
  cases ho : textF 25 r with
  | some v =>
    have HT : Hid (tokF (c :: r) = some (⟨2, v, 0, 0⟩, v.length + 2)) := by unfold Hid; rw [HF.out, ho]; rfl
    obtain ⟨v1, v2, v3⟩ := textF_some _ _ _ ho
    rw [ho] at cQ
    have cQ2 : ∀ W, Calls Tryd.prog 33 #[.string (bs l), .int .i64 (a : Nat)] W (Same (.int .i64 ((v.length : Nat) + 2)) W) := cQ
    have hsl := slice_any l (a + 1) (a + 1 + v.length) (by omega) (by omega) ((a : Int) + 1) ((a : Int) + ((v.length : Int) + 2) - 1) (by omega) (by omega)
    have hv : (r.take (a + 1 + v.length - (a + 1))) = v := by
      rw [show a + 1 + v.length - (a + 1) = v.length by omega]
      have := congrArg (List.take v.length) v3
      rw [List.take_take, List.take_left' rfl, Nat.min_eq_left (by omega)] at this
      exact this
    rw [hdr, hv] at hsl
    have vl : v.length ≤ 24 := by omega
    clear HF ho cQ v1 v2 v3 hv hdr
    go_enter Tryd.func21, Tryd.ntmps21
    go_wp2_with fail
    refine (Calls.mono (cL _) ?_)
    rintro e w1 ⟨rfl, rfl⟩
    go_wp2_with fail
    refine (Calls.mono (cD _) ?_)
    rintro e w1 ⟨rfl, rfl⟩
    go_wp2_with fail
    refine (Calls.mono (cQ2 _) ?_)
    rintro e w1 ⟨rfl, rfl⟩
    go_wp2_with fail
    refine bodyPost_ret (results_cell1 rfl _ _ w.heap.size 25 #[.int .i64 2, .string (bs v), .int .i64 0, .int .i64 (a : Nat)] (0, 0) _ rfl (heap_alloc2_old _ _ _) Tryd.underlying25 rfl info25) rfl ?_
    rw [HT.out]
    exact rtok_post ⟨2, v, 0, (a : Nat)⟩ (v.length + 2) rfl (by intro t m h; injection h with h; injection h with h1 h2; subst h1; rfl) (((Below.refl _ _).alloc (Nat.le_refl _) _).alloc (by simp) _)
  | none =>
    have HT : Hid (tokF (c :: r) = none) := by unfold Hid; rw [HF.out, ho]; rfl
    rw [ho] at cQ
    have cQ2 : ∀ W, Calls Tryd.prog 33 #[.string (bs l), .int .i64 (a : Nat)] W (Same (.int .i64 0) W) := cQ
    clear HF ho cQ hdr
    go_enter Tryd.func21, Tryd.ntmps21
    go_wp2_with fail
    refine (Calls.mono (cL _) ?_)
    rintro e w1 ⟨rfl, rfl⟩
    go_wp2_with fail
    refine (Calls.mono (cD _) ?_)
    rintro e w1 ⟨rfl, rfl⟩
    go_wp2_with fail
    refine (Calls.mono (cQ2 _) ?_)
    rintro e w1 ⟨rfl, rfl⟩
    go_wp2_with fail
    refine bodyPost_ret (results_cell1 rfl _ _ w.heap.size 25 #[.int .i64 0, .string (⟨#[]⟩), .int .i64 0, .int .i64 (a : Nat)] (0, 0) _ rfl (heap_alloc2_old _ _ _) Tryd.underlying25 rfl info25) rfl ?_
    rw [HT.out]
    exact rtok_post ⟨0, [], 0, (a : Nat)⟩ 0 rfl (by intro t m h; cases h) (((Below.refl _ _).alloc (Nat.le_refl _) _).alloc (by simp) _)
set_option maxRecDepth 100000 in
set_option maxHeartbeats 2000000 in
theorem rtok_sign (l : List UInt8) (a : Nat) (c : UInt8) (r : List UInt8) (w : World) (hd : l.drop a = c :: r) (ha : a < l.length) (hl : l.length ≤ 281474976710000) (hc0 : isLe c = false) (hc1 : isDi c = false) (hc2 : c ≠ 34) (hg : ∀ h, ((bs l)[a]'h).toNat = c.toNat) :
    Calls Tryd.prog 21 #[.string (bs l), .int .i64 (a : Nat)] w (RTokPost (tokF (c :: r)) a w) := by
  have HF : Hid (tokF (c :: r) = if signL (c :: r) = [] then none else some (⟨3, signL (c :: r), 0, 0⟩, (signL (c :: r)).length)) := by
    unfold Hid
    simp only [tokF]
    rw [if_neg (by simp [hc0]), if_neg (by simp [hc1]), if_neg hc2]
  have hs := bs_size l
  have cL := fun W => rletter_any c W
  have cD := fun W => rdigit_any c W
  rw [hc0] at cL
  rw [hc1] at cD
  have cS := fun W => rsigned_lex l a c r W hd ha hl
  have hsn := sign_len (c :: r)
  have hsgl : a + (signL (c :: r)).length ≤ l.length := by
    have h1 := hsn.1
    rw [← hd, List.length_drop] at h1
    rw [← hd]; omega
  have hsl := slice_any l a (a + (signL (c :: r)).length) (by omega) hsgl (a : Int) ((a : Int) + ((signL (c :: r)).length : Int)) rfl (by omega)
  rw [hd, show a + (signL (c :: r)).length - a = (signL (c :: r)).length by omega, hsn.2.2] at hsl
  have k34 : ((c.toNat : Int) == 34) = false := beq_eq_false_iff_ne.2 (fun h => hc2 ((u8_eq c 34).2 (by show c.toNat = 34; omega)))
  have hx := c.toNat_lt
  have hs2 := hsn.2.1
  have HTS : Hid (∀ t m, tokF (c :: r) = some (t, m) → (⟨3, signL (c :: r), 0, (a : Nat)⟩ : Tok) = { t with off := (a : Nat) }) := by
    unfold Hid
    intro t m h
    rw [HF.out] at h
    split at h
    · cases h
    · injection h with h; injection h with h1 h2; subst h1; rfl
  have HTN : Hid ((signL (c :: r)).length = tokN (tokF (c :: r))) := by
    unfold Hid
    rw [HF.out]
    split
    · rename_i h; rw [h]; rfl
    · rfl
  clear hd hc0 hc1 hc2 hsn HF
  generalize signL (c :: r) = sg at *
  generalize c.toNat = x at *
  go_enter Tryd.func21, Tryd.ntmps21
  go_wp2_with fail
  refine (Calls.mono (cL _) ?_)
  rintro e w1 ⟨rfl, rfl⟩
  go_wp2_with fail
  refine (Calls.mono (cD _) ?_)
  rintro e w1 ⟨rfl, rfl⟩
  go_wp2_with fail
  have cS := cS ((w.alloc (.cells #[.int .i64 0, .string ⟨#[]⟩, .int .i64 0, .int .i64 0] 25)).alloc (.cells #[.int .i64 0, .string ⟨#[]⟩, .int .i64 0, .int .i64 (a : Nat)] 25))
  refine (Calls.mono cS ?_)
  rintro e w4 ⟨rfl, hbx⟩
  have hb4 := (((Below.refl w.heap.size w).alloc (Nat.le_refl _) (.cells #[.int .i64 0, .string ⟨#[]⟩, .int .i64 0, .int .i64 0] 25)).alloc (by simp) (.cells #[.int .i64 0, .string ⟨#[]⟩, .int .i64 0, .int .i64 (a : Nat)] 25)).trans (hbx.mono (by simp; omega))
  have g4 : w4.heap[w.heap.size]? = some (.cells #[.int .i64 0, .string ⟨#[]⟩, .int .i64 0, .int .i64 0] 25 (0, 0)) := by rw [hbx.block _ (by simp; omega), heap_alloc2_old]
  have g6 : w4.heap[w.heap.size + 1]? = some (.cells #[.int .i64 0, .string ⟨#[]⟩, .int .i64 0, .int .i64 (a : Nat)] 25 (0, 0)) := by rw [hbx.block _ (by simp), heap_alloc2_new]
  have G4 := Lib.hid g4
  have G6 := Lib.hid g6
  clear hbx cS g4 g6
  have q0 : w4.cell? ⟨w.heap.size, 0, none⟩ = some (.int .i64 0) := by rw [cell_of_row _ _ _ _ _ _ G4.out]; rfl
  have q1 : w4.cell? ⟨w.heap.size, 1, none⟩ = some (.string ⟨#[]⟩) := by rw [cell_of_row _ _ _ _ _ _ G4.out]; rfl
  have q2 : w4.cell? ⟨w.heap.size, 2, none⟩ = some (.int .i64 0) := by rw [cell_of_row _ _ _ _ _ _ G4.out]; rfl
  have q3 : w4.cell? ⟨w.heap.size, 3, none⟩ = some (.int .i64 0) := by rw [cell_of_row _ _ _ _ _ _ G4.out]; rfl
  have p0 : w4.cell? ⟨w.heap.size + 1, 0, none⟩ = some (.int .i64 0) := by rw [cell_of_row _ _ _ _ _ _ G6.out]; rfl
  have p1 : w4.cell? ⟨w.heap.size + 1, 1, none⟩ = some (.string ⟨#[]⟩) := by rw [cell_of_row _ _ _ _ _ _ G6.out]; rfl
  have p2 : w4.cell? ⟨w.heap.size + 1, 2, none⟩ = some (.int .i64 0) := by rw [cell_of_row _ _ _ _ _ _ G6.out]; rfl
  have p3 : w4.cell? ⟨w.heap.size + 1, 3, none⟩ = some (.int .i64 (a : Nat)) := by rw [cell_of_row _ _ _ _ _ _ G6.out]; rfl
  have f0 := frozen_of_row _ _ 0 _ _ G4.out
  have e0 := frozen_of_row _ _ 0 _ _ G6.out
  have f1 := frozen_of_row _ _ 1 _ _ G4.out
  have e1 := frozen_of_row _ _ 1 _ _ G6.out
  have f2 := frozen_of_row _ _ 2 _ _ G4.out
  have e2 := frozen_of_row _ _ 2 _ _ G6.out
  have f3 := frozen_of_row _ _ 3 _ _ G4.out
  have e3 := frozen_of_row _ _ 3 _ _ G6.out
  go_wp2_with fail
  have GG : ((((((w4.setCell ⟨w.heap.size + 1, 0, none⟩ (.int .i64 3)).setCell ⟨w.heap.size + 1, 1, none⟩ (.string (bs sg))).setCell ⟨w.heap.size, 0, none⟩ (.int .i64 3)).setCell ⟨w.heap.size, 1, none⟩ (.string (bs sg))).setCell ⟨w.heap.size, 2, none⟩ (.int .i64 0)).setCell ⟨w.heap.size, 3, none⟩ (.int .i64 (a : Nat))).heap[w.heap.size]? = some (.cells #[.int .i64 3, .string (bs sg), .int .i64 0, .int .i64 (a : Nat)] 25 (0, 0)) := by
    refine blk4 _ _ _ _ (a0 := .int .i64 0) (a1 := .string ⟨#[]⟩) (a2 := .int .i64 0) (a3 := .int .i64 0) ?_
    rw [heap_setCell_other _ _ _ _ (by simp), heap_setCell_other _ _ _ _ (by simp)]
    exact G4.out
  refine bodyPost_ret (results_cell1 rfl _ _ w.heap.size 25 #[.int .i64 3, .string (bs sg), .int .i64 0, .int .i64 (a : Nat)] (0, 0) _ rfl GG Tryd.underlying25 rfl info25) rfl ?_
  exact rtok_post ⟨3, sg, 0, (a : Nat)⟩ sg.length HTN.out HTS.out (set4_below _ _ _ _ ((hb4.setCell (by simp) _).setCell (by simp) _) (Nat.le_refl _))
theorem rtok_any (l : List UInt8) (a : Nat) (c : UInt8) (r : List UInt8) (w : World) (hd : l.drop a = c :: r) (hl : l.length ≤ 281474976710000) :
    Calls Tryd.prog 21 #[.string (bs l), .int .i64 (a : Nat)] w (RTokPost (tokF (c :: r)) a w) := by
  have ha : a < l.length := by
    have := congrArg List.length hd
    simp at this; omega
  have hg : ∀ h, ((bs l)[a]'h).toNat = c.toNat := by
    have h1 := bs_at l ha
    have h2 := List.drop_eq_getElem_cons ha
    rw [hd] at h2
    injection h2 with h2 _
    rw [h2]
    exact h1
  cases h1 : isLe c with
  | true => exact rtok_letter l a c r w hd ha hl h1 hg
  | false =>
    cases h2 : isDi c with
    | true => exact rtok_digit l a c r w hd ha hl h1 h2 hg
    | false =>
      by_cases h3 : c = 34
      · exact rtok_quote l a c r w hd ha hl h3 hg
      · exact rtok_sign l a c r w hd ha hl h1 h2 h3 hg
end Go.Proofs.YtjcobjikgakapaaDoor
