/- The lexer's token, walked. -/
import Derived.Test.YtjcobjikgakapaaDoorLexS
namespace Go.Proofs.YtjcobjikgakapaaDoor
open Go.ChangeShapes Go.WideShapes Go.ChangeAt Go.RowKit Go.Lib
set_option linter.unusedVariables false

def tokV (t : Tok) : Array Value := #[.int .i64 t.kind, .string (bs t.text), .int .i64 t.n, .int .i64 t.off]
/-- what a try at a token leaves -/
def TokPost (o : Option (Tok × Nat)) (w : World) (e : Ending) (w' : World) : Prop :=
  (∃ (t : Tok) (n : Int), e = .returned (.tuple #[.agg (tokV t), .int .i64 n, .bool o.isSome]) ∧ ∀ u k, o = some (u, k) → t = u ∧ n = (k : Nat)) ∧ Below w.heap.size w w'
theorem ClsAt.below {w w' : World} {p : Nat} (h : ClsAt w p) (hb : Below w.heap.size w w') (hp : p < w.heap.size) : ClsAt w' p := fun i hi => by
  rw [hb.cell (p := ⟨p, i, none⟩) hp]; exact h i hi
theorem tok_post {o : Option (Tok × Nat)} {w w' : World} {t : Tok} {n : Int} {b : Bool} (hb : b = o.isSome) (h : ∀ u k, o = some (u, k) → t = u ∧ n = (k : Nat)) (hB : Below w.heap.size w w') :
    TokPost o w (.returned (.tuple #[.agg #[.int .i64 t.kind, .string (bs t.text), .int .i64 t.n, .int .i64 t.off], .int .i64 n, .bool b])) w' := ⟨⟨t, n, by rw [hb]; rfl, h⟩, hB⟩
theorem results_cell2 {P : Program} {fn : Func} {p a b : Tmp} {ty : TypeId} (h : fn.results = #[.cell p ty, .tmp a, .tmp b]) (tmps : Array Value) (w : World) (g : Nat) (t : TypeId) (cs : Array Value) (fr : Nat × Nat) (d : TypeDesc)
    (hp : tmps.getD p undef = .pointer (some ⟨g, 0, none⟩)) (hg : w.heap[g]? = some (.cells cs t fr))
    (hu : P.underlying ty = some d) (hd : (match d with | .struct _ | .array _ _ => true | _ => false) = true) (hi : (P.info? ty).map (·.size) = some cs.size) :
    (results fn tmps).run P w = .ok (.tuple #[.agg cs, tmps.getD a undef, tmps.getD b undef]) w := by
  have hp' : tmps[p]?.getD undef = .pointer (some ⟨g, 0, none⟩) := by simpa using hp
  simp [results, h, hp', asAddr, run_loadVar_row w g t ty cs fr d hg hu hd hi]
theorem blk4 {w : World} {T t : Nat} {a0 a1 a2 a3 : Value} (v0 v1 v2 v3 : Value) (h : w.heap[T]? = some (.cells #[a0, a1, a2, a3] t (0, 0))) :
    ((((w.setCell ⟨T, 0, none⟩ v0).setCell ⟨T, 1, none⟩ v1).setCell ⟨T, 2, none⟩ v2).setCell ⟨T, 3, none⟩ v3).heap[T]? = some (.cells #[v0, v1, v2, v3] t (0, 0)) := by
  have h0 := heap_setCell_same _ _ 0 _ _ v0 h
  have h1 := heap_setCell_same _ _ 1 _ _ v1 h0
  have h2 := heap_setCell_same _ _ 2 _ _ v2 h1
  exact heap_setCell_same _ _ 3 _ _ v3 h2
theorem set4_below {B : Nat} {w w1 : World} {T : Nat} (v0 v1 v2 v3 : Value) (h : Below B w w1) (hT : B ≤ T) : Below B w ((((w1.setCell ⟨T, 0, none⟩ v0).setCell ⟨T, 1, none⟩ v1).setCell ⟨T, 2, none⟩ v2).setCell ⟨T, 3, none⟩ v3) :=
  (((h.setCell hT v0).setCell hT v1).setCell hT v2).setCell hT v3
theorem info25 : (Tryd.prog.info? 25).map (·.size) = some 4 := by kernel_rfl
set_option maxRecDepth 100000 in
set_option maxHeartbeats 1000000 in
theorem token_letter (c : UInt8) (r : List UInt8) (p : Nat) (w : World) (hC : ClsAt w p) (hp : p < w.heap.size) (hl : (c :: r).length ≤ 281474976710655) (hc : isLe c = true) (hL : Laid w) :
    Calls Tryd.prog 19 #[.pointer (some ⟨p, 0, none⟩), .string (bs (c :: r))] w (TokPost (tokF (c :: r)) w) := by
  have HF : Hid (tokF (c :: r) = if (wordL (c :: r)).length ≤ 24 then some (⟨0, wordL (c :: r), 0, 0⟩, (wordL (c :: r)).length) else none) := by
    unfold Hid
    simp only [tokF]
    rw [if_pos hc]
  obtain ⟨l, hLl⟩ : ∃ l, l = c :: r := ⟨_, rfl⟩
  have hg : ∀ h, ((bs l)[0]'h).toNat = c.toNat := by rw [hLl]; intro h; rfl
  have hlen : l.length = r.length + 1 := by rw [hLl]; rfl
  have hpos : 0 < l.length := by omega
  have hcell := hC c.toNat c.toNat_lt
  rw [cls_le.1 hc] at hcell
  have hx : c.toNat < 256 := c.toNat_lt
  rw [← hLl] at hl HF ⊢
  have hs := bs_size l
  have hwle := word_le l
  clear hLl hlen
  generalize c.toNat = x at *
  have HC := Lib.hid hC
  clear hC
  go_enter Tryd.func19, Tryd.ntmps19
  go_wp2
  go_quiet (fail)
  go_wp2_with fail
  obtain ⟨W, hW⟩ : ∃ W, W = (w.alloc (.cells #[.int .i64 0, .string ⟨#[]⟩, .int .i64 0, .int .i64 0] 25)).drewN nq := ⟨_, rfl⟩
  have hb0 : Below w.heap.size w W := by rw [hW]; exact below_drewN ((Below.refl _ _).alloc (Nat.le_refl _) _) _
  have g0 : W.heap[w.heap.size]? = some (.cells #[.int .i64 0, .string ⟨#[]⟩, .int .i64 0, .int .i64 0] 25 (0, 0)) := by rw [hW]; exact heap_alloc_new w _
  have z0 : w.heap.size < W.heap.size := by rw [hW]; show _ < (w.alloc _).heap.size; simp
  rw [← hW]
  clear hW
  have hCW := HC.out.below hb0 hp
  refine (word_any l p W hCW (by omega)).mono ?_
  rintro e w1 ⟨rfl, hb1⟩
  have g1 := (hb1.block _ z0).trans g0
  have hB := hb0.trans (hb1.mono hb0.size)
  have z1 : w.heap.size < w1.heap.size := Nat.lt_of_lt_of_le z0 hb1.size
  have hwl := bs_size (wordL l)
  have G := Lib.hid g1
  clear hb1 hb0 g0 z0 hCW HC g1
  by_cases h24 : (wordL l).length ≤ 24
  · have HT : Hid (tokF l = some (⟨0, wordL l, 0, 0⟩, (wordL l).length)) := by unfold Hid; rw [HF.out, if_pos h24]
    clear HF hcell
    generalize hwd : wordL l = wd at *
    clear hwd
    have d24 : decide ((wd.length : Int) ≤ 24) = true := decide_eq_true (by omega)
    have q0 : w1.cell? ⟨w.heap.size, 0, none⟩ = some (.int .i64 0) := by rw [cell_of_row _ _ _ _ _ _ G.out]; rfl
    have q1 : w1.cell? ⟨w.heap.size, 1, none⟩ = some (.string ⟨#[]⟩) := by rw [cell_of_row _ _ _ _ _ _ G.out]; rfl
    have q2 : w1.cell? ⟨w.heap.size, 2, none⟩ = some (.int .i64 0) := by rw [cell_of_row _ _ _ _ _ _ G.out]; rfl
    have q3 : w1.cell? ⟨w.heap.size, 3, none⟩ = some (.int .i64 0) := by rw [cell_of_row _ _ _ _ _ _ G.out]; rfl
    have f0 := frozen_of_row _ _ 0 _ _ G.out
    have f1 := frozen_of_row _ _ 1 _ _ G.out
    have f2 := frozen_of_row _ _ 2 _ _ G.out
    have f3 := frozen_of_row _ _ 3 _ _ G.out
    go_wp2_with fail
    refine bodyPost_ret (results_cell2 rfl _ _ w.heap.size 25 #[.int .i64 0, .string (bs wd), .int .i64 0, .int .i64 0] (0, 0) _ rfl (blk4 _ _ _ _ G.out) Tryd.underlying25 rfl info25) rfl ?_
    rw [HT.out]
    exact tok_post (t := ⟨0, wd, 0, 0⟩) rfl (by intro u k h; injection h with h; injection h with h1 h2; subst h1; subst h2; exact ⟨rfl, rfl⟩) (set4_below _ _ _ _ hB (Nat.le_refl _))
  · have HT : Hid (tokF l = none) := by unfold Hid; rw [HF.out, if_neg h24]
    clear HF hcell
    generalize hwd : wordL l = wd at *
    clear hwd
    have d24 : decide ((wd.length : Int) ≤ 24) = false := decide_eq_false (by omega)
    have q0 : w1.cell? ⟨w.heap.size, 0, none⟩ = some (.int .i64 0) := by rw [cell_of_row _ _ _ _ _ _ G.out]; rfl
    have q1 : w1.cell? ⟨w.heap.size, 1, none⟩ = some (.string ⟨#[]⟩) := by rw [cell_of_row _ _ _ _ _ _ G.out]; rfl
    have q2 : w1.cell? ⟨w.heap.size, 2, none⟩ = some (.int .i64 0) := by rw [cell_of_row _ _ _ _ _ _ G.out]; rfl
    have q3 : w1.cell? ⟨w.heap.size, 3, none⟩ = some (.int .i64 0) := by rw [cell_of_row _ _ _ _ _ _ G.out]; rfl
    have f0 := frozen_of_row _ _ 0 _ _ G.out
    have f1 := frozen_of_row _ _ 1 _ _ G.out
    have f2 := frozen_of_row _ _ 2 _ _ G.out
    have f3 := frozen_of_row _ _ 3 _ _ G.out
    go_wp2_with fail
    refine bodyPost_ret (results_cell2 rfl _ _ w.heap.size 25 #[.int .i64 0, .string (bs wd), .int .i64 0, .int .i64 0] (0, 0) _ rfl (blk4 _ _ _ _ G.out) Tryd.underlying25 rfl info25) rfl ?_
    rw [HT.out]
    exact tok_post (t := ⟨0, wd, 0, 0⟩) rfl (by intro u k h; cases h) (set4_below _ _ _ _ hB (Nat.le_refl _))
set_option maxRecDepth 100000 in
set_option maxHeartbeats 1000000 in
theorem token_digit (c : UInt8) (r : List UInt8) (p : Nat) (w : World) (hC : ClsAt w p) (hp : p < w.heap.size) (hl : (c :: r).length ≤ 281474976710655) (hc : isDi c = true) (hc0 : isLe c = false) (hL : Laid w) :
    Calls Tryd.prog 19 #[.pointer (some ⟨p, 0, none⟩), .string (bs (c :: r))] w (TokPost (tokF (c :: r)) w) := by
  have HF : Hid (tokF (c :: r) = (parseI (wordL (c :: r)) 0 1125899906842624).map fun n => (⟨1, [], n, 0⟩, (wordL (c :: r)).length)) := by
    unfold Hid
    simp only [tokF]
    rw [if_neg (by simp [hc0]), if_pos hc]
  obtain ⟨l, hLl⟩ : ∃ l, l = c :: r := ⟨_, rfl⟩
  have hg : ∀ h, ((bs l)[0]'h).toNat = c.toNat := by rw [hLl]; intro h; rfl
  have hlen : l.length = r.length + 1 := by rw [hLl]; rfl
  have hpos : 0 < l.length := by omega
  have hcell := hC c.toNat c.toNat_lt
  rw [cls_di.1 hc] at hcell
  have hx : c.toNat < 256 := c.toNat_lt
  rw [← hLl] at hl HF ⊢
  have hs := bs_size l
  have hwle := word_le l
  clear hLl hlen
  generalize c.toNat = x at *
  have HC := Lib.hid hC
  clear hC
  go_enter Tryd.func19, Tryd.ntmps19
  go_wp2
  go_quiet (fail)
  go_wp2_with fail
  obtain ⟨W, hW⟩ : ∃ W, W = (w.alloc (.cells #[.int .i64 0, .string ⟨#[]⟩, .int .i64 0, .int .i64 0] 25)).drewN nq := ⟨_, rfl⟩
  have hb0 : Below w.heap.size w W := by rw [hW]; exact below_drewN ((Below.refl _ _).alloc (Nat.le_refl _) _) _
  have g0 : W.heap[w.heap.size]? = some (.cells #[.int .i64 0, .string ⟨#[]⟩, .int .i64 0, .int .i64 0] 25 (0, 0)) := by rw [hW]; exact heap_alloc_new w _
  have z0 : w.heap.size < W.heap.size := by rw [hW]; show _ < (w.alloc _).heap.size; simp
  rw [← hW]
  clear hW
  have hCW := HC.out.below hb0 hp
  refine (word_any l p W hCW (by omega)).mono ?_
  rintro e w1 ⟨rfl, hb1⟩
  have g1 := (hb1.block _ z0).trans g0
  have hB := hb0.trans (hb1.mono hb0.size)
  have z1 : w.heap.size < w1.heap.size := Nat.lt_of_lt_of_le z0 hb1.size
  have hwl := bs_size (wordL l)
  have G := Lib.hid g1
  clear hb1 hb0 g0 z0 hCW HC g1
  have hwn : (wordL l).length ≤ 281474976710656 := by omega
  have cP := parse_any (wordL l) 0 1125899906842624 w1 hwn (hL.below hB)
  have HP : ∀ o, parseI (wordL l) 0 1125899906842624 = o → Hid (tokF l = o.map fun n => (⟨1, [], n, 0⟩, (wordL l).length)) := fun o h => by unfold Hid; rw [HF.out, h]
  clear HF hcell
  generalize hpo : parseI (wordL l) 0 1125899906842624 = o at *
  have HT := HP o rfl
  clear HP hpo
  generalize hwd : wordL l = wd at *
  clear hwd
  cases o with
  | some m =>
    go_wp2_with fail
    refine (Calls.mono cP ?_)
    rintro e w2 ⟨rfl, hb2⟩
    have G := Lib.hid ((hb2.block _ z1).trans G.out)
    have hB := hB.trans (hb2.mono hB.size)
    clear hb2 cP
    have q0 : w2.cell? ⟨w.heap.size, 0, none⟩ = some (.int .i64 0) := by rw [cell_of_row _ _ _ _ _ _ G.out]; rfl
    have q1 : w2.cell? ⟨w.heap.size, 1, none⟩ = some (.string ⟨#[]⟩) := by rw [cell_of_row _ _ _ _ _ _ G.out]; rfl
    have q2 : w2.cell? ⟨w.heap.size, 2, none⟩ = some (.int .i64 0) := by rw [cell_of_row _ _ _ _ _ _ G.out]; rfl
    have q3 : w2.cell? ⟨w.heap.size, 3, none⟩ = some (.int .i64 0) := by rw [cell_of_row _ _ _ _ _ _ G.out]; rfl
    have f0 := frozen_of_row _ _ 0 _ _ G.out
    have f1 := frozen_of_row _ _ 1 _ _ G.out
    have f2 := frozen_of_row _ _ 2 _ _ G.out
    have f3 := frozen_of_row _ _ 3 _ _ G.out
    go_wp2_with fail
    refine bodyPost_ret (results_cell2 rfl _ _ w.heap.size 25 #[.int .i64 1, .string (⟨#[]⟩), .int .i64 m, .int .i64 0] (0, 0) _ rfl (blk4 _ _ _ _ G.out) Tryd.underlying25 rfl info25) rfl ?_
    rw [HT.out]
    exact tok_post (t := ⟨1, [], m, 0⟩) rfl (by intro u k h; injection h with h; injection h with h1 h2; subst h1; subst h2; exact ⟨rfl, rfl⟩) (set4_below _ _ _ _ hB (Nat.le_refl _))
  | none =>
    go_wp2_with fail
    refine (Calls.mono cP ?_)
    rintro e w2 ⟨rfl, hb2⟩
    have G := Lib.hid ((hb2.block _ z1).trans G.out)
    have hB := hB.trans (hb2.mono hB.size)
    clear hb2 cP
    have q0 : w2.cell? ⟨w.heap.size, 0, none⟩ = some (.int .i64 0) := by rw [cell_of_row _ _ _ _ _ _ G.out]; rfl
    have q1 : w2.cell? ⟨w.heap.size, 1, none⟩ = some (.string ⟨#[]⟩) := by rw [cell_of_row _ _ _ _ _ _ G.out]; rfl
    have q2 : w2.cell? ⟨w.heap.size, 2, none⟩ = some (.int .i64 0) := by rw [cell_of_row _ _ _ _ _ _ G.out]; rfl
    have q3 : w2.cell? ⟨w.heap.size, 3, none⟩ = some (.int .i64 0) := by rw [cell_of_row _ _ _ _ _ _ G.out]; rfl
    have f0 := frozen_of_row _ _ 0 _ _ G.out
    have f1 := frozen_of_row _ _ 1 _ _ G.out
    have f2 := frozen_of_row _ _ 2 _ _ G.out
    have f3 := frozen_of_row _ _ 3 _ _ G.out
    go_wp2_with fail
    refine bodyPost_ret (results_cell2 rfl _ _ w.heap.size 25 #[.int .i64 1, .string (⟨#[]⟩), .int .i64 0, .int .i64 0] (0, 0) _ rfl (blk4 _ _ _ _ G.out) Tryd.underlying25 rfl info25) rfl ?_
    rw [HT.out]
    exact tok_post (t := ⟨1, [], 0, 0⟩) rfl (by intro u k h; cases h) (set4_below _ _ _ _ hB (Nat.le_refl _))
set_option maxRecDepth 100000 in
set_option maxHeartbeats 1000000 in
theorem token_quote (c : UInt8) (r : List UInt8) (p : Nat) (w : World) (hC : ClsAt w p) (hp : p < w.heap.size) (hl : (c :: r).length ≤ 281474976710655) (hc : c = 34) (hL : Laid w) :
    Calls Tryd.prog 19 #[.pointer (some ⟨p, 0, none⟩), .string (bs (c :: r))] w (TokPost (tokF (c :: r)) w) := by
  have HF : Hid (tokF (c :: r) = (textF 25 r).map fun w => (⟨2, w, 0, 0⟩, w.length + 2)) := by
    unfold Hid
    subst hc
    simp only [tokF]
    rw [if_neg (by decide), if_neg (by decide), if_pos trivial]
  obtain ⟨l, hLl⟩ : ∃ l, l = c :: r := ⟨_, rfl⟩
  have hg : ∀ h, ((bs l)[0]'h).toNat = c.toNat := by rw [hLl]; intro h; rfl
  have hlen : l.length = r.length + 1 := by rw [hLl]; rfl
  have hpos : 0 < l.length := by omega
  have hcell := hC c.toNat c.toNat_lt
  rw [cls_qu.1 hc] at hcell
  have hx : c.toNat < 256 := c.toNat_lt
  rw [← hLl] at hl HF ⊢
  have hs := bs_size l
  have hwle := word_le l
  have hex : (bs l).extract 1 l.length = bs r := by rw [bs_extract, hLl]; simp
  have hrl : r.length ≤ 281474976710655 := by omega
  have hpos1 : 1 ≤ l.length := by omega
  clear hLl hlen
  generalize c.toNat = x at *
  have HC := Lib.hid hC
  clear hC
  go_enter Tryd.func19, Tryd.ntmps19
  go_wp2
  go_quiet (fail)
  go_wp2_with fail
  obtain ⟨W, hW⟩ : ∃ W, W = (w.alloc (.cells #[.int .i64 0, .string ⟨#[]⟩, .int .i64 0, .int .i64 0] 25)).drewN nq := ⟨_, rfl⟩
  have hb0 : Below w.heap.size w W := by rw [hW]; exact below_drewN ((Below.refl _ _).alloc (Nat.le_refl _) _) _
  have g0 : W.heap[w.heap.size]? = some (.cells #[.int .i64 0, .string ⟨#[]⟩, .int .i64 0, .int .i64 0] 25 (0, 0)) := by rw [hW]; exact heap_alloc_new w _
  have z0 : w.heap.size < W.heap.size := by rw [hW]; show _ < (w.alloc _).heap.size; simp
  rw [← hW]
  clear hW
  have hCW := HC.out.below hb0 hp
  have cT := lextext_any r W (by omega)
  cases ho : textF 25 r with
  | some v =>
    have HT : Hid (tokF l = some (⟨2, v, 0, 0⟩, v.length + 2)) := by unfold Hid; rw [HF.out, ho]; rfl
    rw [ho] at cT
    have hv : v.length ≤ 24 := by have := textF_some _ _ _ ho; omega
    clear HF hcell ho
    refine (Calls.mono cT ?_)
    rintro e w1 ⟨rfl, rfl⟩
    have hvs := bs_size v
    have G := Lib.hid g0
    have hB := hb0
    clear hb0 g0 z0 hCW HC cT
    have q0 : W.cell? ⟨w.heap.size, 0, none⟩ = some (.int .i64 0) := by rw [cell_of_row _ _ _ _ _ _ G.out]; rfl
    have q1 : W.cell? ⟨w.heap.size, 1, none⟩ = some (.string ⟨#[]⟩) := by rw [cell_of_row _ _ _ _ _ _ G.out]; rfl
    have q2 : W.cell? ⟨w.heap.size, 2, none⟩ = some (.int .i64 0) := by rw [cell_of_row _ _ _ _ _ _ G.out]; rfl
    have q3 : W.cell? ⟨w.heap.size, 3, none⟩ = some (.int .i64 0) := by rw [cell_of_row _ _ _ _ _ _ G.out]; rfl
    have f0 := frozen_of_row _ _ 0 _ _ G.out
    have f1 := frozen_of_row _ _ 1 _ _ G.out
    have f2 := frozen_of_row _ _ 2 _ _ G.out
    have f3 := frozen_of_row _ _ 3 _ _ G.out
    go_wp2_with fail
    refine bodyPost_ret (results_cell2 rfl _ _ w.heap.size 25 #[.int .i64 2, .string (bs v), .int .i64 0, .int .i64 0] (0, 0) _ rfl (blk4 _ _ _ _ G.out) Tryd.underlying25 rfl info25) rfl ?_
    rw [HT.out]
    exact tok_post (t := ⟨2, v, 0, 0⟩) rfl (by intro u k h; injection h with h; injection h with h1 h2; subst h1; subst h2; exact ⟨rfl, (by simp)⟩) (set4_below _ _ _ _ hB (Nat.le_refl _))
  | none =>
    have HT : Hid (tokF l = none) := by unfold Hid; rw [HF.out, ho]; rfl
    rw [ho] at cT
    clear HF hcell ho
    refine (Calls.mono cT ?_)
    rintro e w1 ⟨rfl, rfl⟩
    have hvs := bs_size []
    have G := Lib.hid g0
    have hB := hb0
    clear hb0 g0 z0 hCW HC cT
    have q0 : W.cell? ⟨w.heap.size, 0, none⟩ = some (.int .i64 0) := by rw [cell_of_row _ _ _ _ _ _ G.out]; rfl
    have q1 : W.cell? ⟨w.heap.size, 1, none⟩ = some (.string ⟨#[]⟩) := by rw [cell_of_row _ _ _ _ _ _ G.out]; rfl
    have q2 : W.cell? ⟨w.heap.size, 2, none⟩ = some (.int .i64 0) := by rw [cell_of_row _ _ _ _ _ _ G.out]; rfl
    have q3 : W.cell? ⟨w.heap.size, 3, none⟩ = some (.int .i64 0) := by rw [cell_of_row _ _ _ _ _ _ G.out]; rfl
    have f0 := frozen_of_row _ _ 0 _ _ G.out
    have f1 := frozen_of_row _ _ 1 _ _ G.out
    have f2 := frozen_of_row _ _ 2 _ _ G.out
    have f3 := frozen_of_row _ _ 3 _ _ G.out
    go_wp2_with fail
    refine bodyPost_ret (results_cell2 rfl _ _ w.heap.size 25 #[.int .i64 2, .string (bs []), .int .i64 0, .int .i64 0] (0, 0) _ rfl (blk4 _ _ _ _ G.out) Tryd.underlying25 rfl info25) rfl ?_
    rw [HT.out]
    exact tok_post (t := ⟨2, [], 0, 0⟩) rfl (by intro u k h; cases h) (set4_below _ _ _ _ hB (Nat.le_refl _))
set_option maxRecDepth 100000 in
set_option maxHeartbeats 1000000 in
theorem token_sign (c : UInt8) (r : List UInt8) (p : Nat) (w : World) (hC : ClsAt w p) (hp : p < w.heap.size) (hl : (c :: r).length ≤ 281474976710655) (hc0 : isLe c = false) (hc1 : isDi c = false) (hc2 : c ≠ 34) (hL : Laid w) :
    Calls Tryd.prog 19 #[.pointer (some ⟨p, 0, none⟩), .string (bs (c :: r))] w (TokPost (tokF (c :: r)) w) := by
  have HF : Hid (tokF (c :: r) = if signL (c :: r) = [] then none else some (⟨3, signL (c :: r), 0, 0⟩, (signL (c :: r)).length)) := by
    unfold Hid
    simp only [tokF]
    rw [if_neg (by simp [hc0]), if_neg (by simp [hc1]), if_neg hc2]
  have k2 : ((clsN c.toNat : Nat) : Int) ≠ 2 := fun h => by
    have h' : clsN c.toNat = 2 := by omega
    rw [cls_le.2 h'] at hc0; cases hc0
  have k3 : ((clsN c.toNat : Nat) : Int) ≠ 3 := fun h => by
    have h' : clsN c.toNat = 3 := by omega
    rw [cls_di.2 h'] at hc1; cases hc1
  have k5 : ((clsN c.toNat : Nat) : Int) ≠ 5 := fun h => by
    have h' : clsN c.toNat = 5 := by omega
    exact hc2 (cls_qu.2 h')
  have e2 : (((clsN c.toNat : Nat) : Int) == 2) = false := beq_eq_false_iff_ne.2 k2
  have e3 : (((clsN c.toNat : Nat) : Int) == 3) = false := beq_eq_false_iff_ne.2 k3
  have e5 : (((clsN c.toNat : Nat) : Int) == 5) = false := beq_eq_false_iff_ne.2 k5
  clear k2 k3 k5
  have cS := fun W => sign_any c r W (by omega)
  obtain ⟨l, hLl⟩ : ∃ l, l = c :: r := ⟨_, rfl⟩
  have hg : ∀ h, ((bs l)[0]'h).toNat = c.toNat := by rw [hLl]; intro h; rfl
  have hlen : l.length = r.length + 1 := by rw [hLl]; rfl
  have hpos : 0 < l.length := by omega
  have hcell := hC c.toNat c.toNat_lt
  have hx : c.toNat < 256 := c.toNat_lt
  rw [← hLl] at hl HF cS ⊢
  have hs := bs_size l
  have hwle := word_le l
  clear hLl hlen
  generalize c.toNat = x at *
  generalize clsN x = cn at *
  have HC := Lib.hid hC
  clear hC
  go_enter Tryd.func19, Tryd.ntmps19
  go_wp2
  go_quiet (fail)
  go_wp2_with fail
  obtain ⟨W, hW⟩ : ∃ W, W = (w.alloc (.cells #[.int .i64 0, .string ⟨#[]⟩, .int .i64 0, .int .i64 0] 25)).drewN nq := ⟨_, rfl⟩
  have hb0 : Below w.heap.size w W := by rw [hW]; exact below_drewN ((Below.refl _ _).alloc (Nat.le_refl _) _) _
  have g0 : W.heap[w.heap.size]? = some (.cells #[.int .i64 0, .string ⟨#[]⟩, .int .i64 0, .int .i64 0] 25 (0, 0)) := by rw [hW]; exact heap_alloc_new w _
  have z0 : w.heap.size < W.heap.size := by rw [hW]; show _ < (w.alloc _).heap.size; simp
  rw [← hW]
  clear hW
  have hCW := HC.out.below hb0 hp
  have hsl := sign_len l
  by_cases h0 : signL l = []
  · have HT : Hid (tokF l = none) := by unfold Hid; rw [HF.out, if_pos h0]
    rw [h0] at cS
    clear HF hcell h0
    refine (cS _).mono ?_
    rintro e w1 ⟨rfl, rfl⟩
    have hvs := bs_size []
    have tl := bs_toList []
    have G := Lib.hid g0
    have hB := hb0
    clear hb0 g0 z0 hCW HC cS hsl
    have q0 : W.cell? ⟨w.heap.size, 0, none⟩ = some (.int .i64 0) := by rw [cell_of_row _ _ _ _ _ _ G.out]; rfl
    have q1 : W.cell? ⟨w.heap.size, 1, none⟩ = some (.string ⟨#[]⟩) := by rw [cell_of_row _ _ _ _ _ _ G.out]; rfl
    have q2 : W.cell? ⟨w.heap.size, 2, none⟩ = some (.int .i64 0) := by rw [cell_of_row _ _ _ _ _ _ G.out]; rfl
    have q3 : W.cell? ⟨w.heap.size, 3, none⟩ = some (.int .i64 0) := by rw [cell_of_row _ _ _ _ _ _ G.out]; rfl
    have f0 := frozen_of_row _ _ 0 _ _ G.out
    have f1 := frozen_of_row _ _ 1 _ _ G.out
    have f2 := frozen_of_row _ _ 2 _ _ G.out
    have f3 := frozen_of_row _ _ 3 _ _ G.out
    go_wp2_with fail
    refine bodyPost_ret (results_cell2 rfl _ _ w.heap.size 25 #[.int .i64 3, .string (bs []), .int .i64 0, .int .i64 0] (0, 0) _ rfl (blk4 _ _ _ _ G.out) Tryd.underlying25 rfl info25) rfl ?_
    rw [HT.out]
    exact tok_post (t := ⟨3, [], 0, 0⟩) rfl (by intro u k h; cases h) (set4_below _ _ _ _ hB (Nat.le_refl _))
  · have HT : Hid (tokF l = some (⟨3, signL l, 0, 0⟩, (signL l).length)) := by unfold Hid; rw [HF.out, if_neg h0]
    clear HF hcell
    generalize hsg : signL l = sg at *
    clear hsg
    refine (cS _).mono ?_
    rintro e w1 ⟨rfl, rfl⟩
    have hvs := bs_size sg
    have tl := bs_toList sg
    have i0 : sg.isEmpty = false := by simpa using h0
    have hsgl : sg.length ≤ 2 := hsl.2.1
    have G := Lib.hid g0
    have hB := hb0
    clear hb0 g0 z0 hCW HC cS hsl h0
    have q0 : W.cell? ⟨w.heap.size, 0, none⟩ = some (.int .i64 0) := by rw [cell_of_row _ _ _ _ _ _ G.out]; rfl
    have q1 : W.cell? ⟨w.heap.size, 1, none⟩ = some (.string ⟨#[]⟩) := by rw [cell_of_row _ _ _ _ _ _ G.out]; rfl
    have q2 : W.cell? ⟨w.heap.size, 2, none⟩ = some (.int .i64 0) := by rw [cell_of_row _ _ _ _ _ _ G.out]; rfl
    have q3 : W.cell? ⟨w.heap.size, 3, none⟩ = some (.int .i64 0) := by rw [cell_of_row _ _ _ _ _ _ G.out]; rfl
    have f0 := frozen_of_row _ _ 0 _ _ G.out
    have f1 := frozen_of_row _ _ 1 _ _ G.out
    have f2 := frozen_of_row _ _ 2 _ _ G.out
    have f3 := frozen_of_row _ _ 3 _ _ G.out
    go_wp2_with fail
    refine bodyPost_ret (results_cell2 rfl _ _ w.heap.size 25 #[.int .i64 3, .string (bs sg), .int .i64 0, .int .i64 0] (0, 0) _ rfl (blk4 _ _ _ _ G.out) Tryd.underlying25 rfl info25) rfl ?_
    rw [HT.out]
    exact tok_post (t := ⟨3, sg, 0, 0⟩) rfl (by intro u k h; injection h with h; injection h with h1 h2; subst h1; subst h2; exact ⟨rfl, rfl⟩) (set4_below _ _ _ _ hB (Nat.le_refl _))
theorem token_any (c : UInt8) (r : List UInt8) (p : Nat) (w : World) (hC : ClsAt w p) (hp : p < w.heap.size) (hl : (c :: r).length ≤ 281474976710655) (hL : Laid w) :
    Calls Tryd.prog 19 #[.pointer (some ⟨p, 0, none⟩), .string (bs (c :: r))] w (TokPost (tokF (c :: r)) w) := by
  cases h1 : isLe c with
  | true => exact token_letter c r p w hC hp hl h1 hL
  | false =>
    cases h2 : isDi c with
    | true => exact token_digit c r p w hC hp hl h2 h1 hL
    | false =>
      by_cases h3 : c = 34
      · exact token_quote c r p w hC hp hl h3 hL
      · exact token_sign c r p w hC hp hl h1 h2 h3 hL
end Go.Proofs.YtjcobjikgakapaaDoor
