/- The lexer's Scan, walked. -/
import Derived.Test.YtjcobjikgakapaaDoorLexT
import Derived.Laws.AppendOwn
import Derived.OwnWalk
namespace Go.Proofs.YtjcobjikgakapaaDoor
open Go.ChangeShapes Go.WideShapes Go.ChangeAt Go.RowKit Go.Lib
set_option linter.unusedVariables false

def tokCells : List Tok → List Value
  | [] => []
  | t :: l => [.int .i64 t.kind, .string (bs t.text), .int .i64 t.n, .int .i64 t.off] ++ tokCells l
theorem tokCells_append (a b : List Tok) : tokCells (a ++ b) = tokCells a ++ tokCells b := by
  induction a with
  | nil => rfl
  | cons t a ih => simp [tokCells, ih]
theorem tokCells_len (a : List Tok) : (tokCells a).length = a.length * 4 := by
  induction a with
  | nil => rfl
  | cons t a ih => simp [tokCells, ih]; omega
def Scan.prep (us : List Tok) : Scan → Scan
  | .ok ts => .ok (us ++ ts)
  | .err k => .err k
theorem prep_nil (s : Scan) : s.prep [] = s := by cases s <;> rfl
theorem prep_push (us : List Tok) (t : Tok) (s : Scan) : (s.push t).prep us = s.prep (us ++ [t]) := by cases s <;> simp [Scan.push, Scan.prep]
/-- what Scan answers -/
def scanR (l : List UInt8) : List Tok × Int × Int :=
  if 4096 < l.length then ([], 7, 0) else match sc 0 l with
    | .ok ts => (ts, 0, 0)
    | .err k => ([], 2, (k : Nat))
def ScanPost (R : List Tok × Int × Int) (w : World) (e : Ending) (w' : World) : Prop :=
  ∃ v, e = .returned (.tuple #[v, .int .i64 R.2.1, .int .i64 R.2.2]) ∧ w'.ownsRow w.heap.size 25 4 v R.1.length (tokCells R.1) ∧ Below w.heap.size w w'
theorem own_form {w : World} {base e size n : Nat} {v : Value} {xs : List Value} (h : w.ownsRow base e size v n xs) : ∃ a c, v = .slice a n c := by
  rcases h.2 with ⟨rfl, rfl⟩ | ⟨g, cap, cur, rfl, _⟩
  · exact ⟨_, _, rfl⟩
  · exact ⟨_, _, rfl⟩
theorem own_ne {w : World} {base g n : Nat} {e t : Nat} {size : Nat} {v : Value} {xs : List Value} {cs : Array Value} {fr : Nat × Nat} (h : w.ownsRow base e size v n xs) (hg : w.heap[g]? = some (.cells cs t fr)) (hne : e ≠ t) : v.ownBlock ≠ some g := by
  rcases h.2 with ⟨rfl, _⟩ | ⟨g', cap, cur, rfl, _, hh, _⟩
  · simp [Value.ownBlock]
  · intro he
    have : g' = g := by simpa [Value.ownBlock] using he
    subst this
    rw [hh] at hg
    injection hg with hg
    injection hg with _ ht
    exact hne ht
theorem own_below {w w' : World} {base n e size : Nat} {v : Value} {xs : List Value} (h : w.ownsRow base e size v n xs) (hb : Below w.heap.size w w') : w'.ownsRow base e size v n xs := by
  refine ⟨h.1, ?_⟩
  rcases h.2 with ⟨rfl, rfl⟩ | ⟨g, cap, cur, rfl, hg, hh, q⟩
  · exact .inl ⟨rfl, rfl⟩
  · exact .inr ⟨g, cap, cur, rfl, hg, (hb.block g (Array.getElem?_eq_some_iff.1 hh).1).trans hh, q⟩
theorem cell_add_new (w : World) (cs : Array Value) (e : TypeId) (j : Nat) : (w.alloc (.cells cs e)).cell? ((⟨w.heap.size, 0, none⟩ : Addr).add j) = cs[j]? := by
  have hadd : (⟨w.heap.size, 0, none⟩ : Addr).add j = ⟨w.heap.size, j, none⟩ := by unfold Addr.add; split <;> simp_all
  rw [hadd]
  exact cell_of_row _ _ _ _ _ (0, 0) (heap_alloc_new w _)
theorem own_base {w : World} {base e size n : Nat} {v : Value} {xs : List Value} (h : w.ownsRow base e size v n xs) : ∀ k, v.ownBlock = some k → base ≤ k := by
  intro k hk
  exact (World.ownsRow.lt h k hk).1
theorem cell_add_alloc (w : World) (o : Obj) (cs : Array Value) (e : TypeId) (j : Nat) : ((w.alloc o).alloc (.cells cs e)).cell? ((⟨w.heap.size + 1, 0, none⟩ : Addr).add j) = cs[j]? := by
  have hadd : (⟨w.heap.size + 1, 0, none⟩ : Addr).add j = ⟨w.heap.size + 1, j, none⟩ := by unfold Addr.add; split <;> simp_all
  rw [hadd]
  exact cell_of_row _ _ _ _ _ (0, 0) (heap_alloc2_new w _ _)
theorem token_some {c : UInt8} {r : List UInt8} {t : Tok} {n : Nat} (p : Nat) (w : World) (hC : ClsAt w p) (hp : p < w.heap.size) (hl : (c :: r).length ≤ 281474976710655) (hL : Laid w) (h : tokF (c :: r) = some (t, n)) :
    Calls Tryd.prog 19 #[.pointer (some ⟨p, 0, none⟩), .string (bs (c :: r))] w (fun e w' => e = .returned (.tuple #[.agg #[.int .i64 t.kind, .string (bs t.text), .int .i64 t.n, .int .i64 0], .int .i64 n, .bool true]) ∧ Below w.heap.size w w') := by
  have hf := (tok_facts h).2.2.2.2.2
  refine (token_any c r p w hC hp hl hL).mono ?_
  rintro e w' ⟨⟨u, m, rfl, hu⟩, hb⟩
  obtain ⟨rfl, rfl⟩ := hu t n h
  refine ⟨?_, hb⟩
  rw [h]
  simp only [tokV, hf]
  rfl
theorem token_none {c : UInt8} {r : List UInt8} (p : Nat) (w : World) (hC : ClsAt w p) (hp : p < w.heap.size) (hl : (c :: r).length ≤ 281474976710655) (hL : Laid w) (h : tokF (c :: r) = none) :
    Calls Tryd.prog 19 #[.pointer (some ⟨p, 0, none⟩), .string (bs (c :: r))] w (fun e w' => ∃ (a b d m : Int) (x : ByteArray), e = .returned (.tuple #[.agg #[.int .i64 a, .string x, .int .i64 b, .int .i64 d], .int .i64 m, .bool false]) ∧ Below w.heap.size w w') := by
  refine (token_any c r p w hC hp hl hL).mono ?_
  rintro e w' ⟨⟨u, m, rfl, hu⟩, hb⟩
  refine ⟨u.kind, u.n, u.off, m, bs u.text, ?_, hb⟩
  rw [h]
  rfl
theorem scan_full (l : List UInt8) (w : World) (h : 4096 < l.length) (hl : l.length ≤ 281474976710655) : Calls Tryd.prog 10 #[.string (bs l)] w (ScanPost (scanR l) w) := by
  have HR : Hid (scanR l = ([], 7, 0)) := by unfold Hid scanR; rw [if_pos h]
  have hs := bs_size l
  have d1 : decide (4096 < (l.length : Int)) = true := decide_eq_true (by omega)
  clear h
  go_enter Tryd.func10, Tryd.ntmps10
  go_wp2
  go_ret3
  rw [HR.out]
  exact ⟨_, rfl, World.ownsRow_nil _ _ _ _, Below.refl _ _⟩
theorem info22 : (Tryd.prog.info? 25).map (fun i => (i.zero, i.size, i.bytes)) = some (some (.agg #[.int .i64 0, .string ⟨#[]⟩, .int .i64 0, .int .i64 0]), 4, 40) := by kernel_rfl
set_option maxRecDepth 100000 in
set_option maxHeartbeats 2000000 in
theorem scan_few (l : List UInt8) (w : World) (h : l.length ≤ 4096) (hL : Laid w) : Calls Tryd.prog 10 #[.string (bs l)] w (ScanPost (scanR l) w) := by
  have HR : Hid (scanR l = match sc 0 l with | .ok ts => (ts, 0, 0) | .err k => ([], 2, (k : Nat))) := by unfold Hid scanR; rw [if_neg (by omega)]
  have hs := bs_size l
  have d1 : decide (4096 < (l.length : Int)) = false := decide_eq_false (by omega)
  obtain ⟨i0, hi, hz0, hz1, hz2⟩ := info_parts info22
  go_enter Tryd.func10, Tryd.ntmps10
  go_wp2_with fail
  refine (classes_any w).mono ?_
  rintro e w1 ⟨rfl, hb1⟩
  have g0 : (w1.alloc (.cells Tryd.zeroCells37 37)).heap[w1.heap.size]? = some (.cells (tab zf) 37 (0, 0)) := by rw [heap_alloc_new, zero_tab]
  have G0 := Lib.hid g0
  clear g0
  go_wp2_with (refine wpList_store_row rfl 37 (.tmp 5) (.tmp 14) rfl w1.heap.size (tab clsN) rfl rfl 37 (tab zf) G0.out (by rw [tab_size]; exact info37) (by rw [tab_size, tab_size]) (tab_one _) ?_)
  obtain ⟨B, hBz⟩ : ∃ B, w1.heap.size = B := ⟨_, rfl⟩
  have hbW : Below w.heap.size w ((w1.alloc (.cells Tryd.zeroCells37 37)).setRow w1.heap.size (tab clsN)) := below_setRow (hb1.alloc hb1.size _) hb1.size _
  have gB : ((w1.alloc (.cells Tryd.zeroCells37 37)).setRow w1.heap.size (tab clsN)).heap[B]? = some (.cells (tab clsN) 37 (0, 0)) := by rw [← hBz]; exact setRow_heap _ _ (tab zf) _ _ _ G0.out
  have hBw : w.heap.size ≤ B := by rw [← hBz]; exact hb1.size
  generalize (w1.alloc (.cells Tryd.zeroCells37 37)).setRow w1.heap.size (tab clsN) = W2 at *
  rw [hBz]
  clear hBz G0 hb1
  go_loopw [6, 7] (fun v6 v7 wr => ∃ (us : List Tok) (k : Nat), k ≤ l.length ∧ v7 = .int .i64 k ∧ us.length ≤ k ∧ wr.ownsRow w.heap.size 25 4 v6 us.length (tokCells us) ∧ wr.heap[B]? = some (.cells (tab clsN) 37 (0, 0)) ∧ Below w.heap.size w wr ∧ Hid (sc 0 l = (sc k (l.drop k)).prep us)) (fun _ v7 _ => l.length - (intOf v7).toNat)
  case atStart => exact ⟨[], 0, by omega, rfl, by simp, World.ownsRow_nil _ _ _ _, gB, hbW, by unfold Hid; rw [prep_nil]; rfl⟩
  case round =>
    obtain ⟨us, k, hk, rfl, huk, hown, gB, hbr, HS⟩ := hrel
    have hc0 := fun (j : Nat) => cell_of_row wr B j _ _ _ gB
    obtain ⟨va, vc, rfl⟩ := own_form hown
    by_cases hlt : k < l.length
    · have hg := bs_at l hlt
      have hx : l[k].toNat < 256 := l[k].toNat_lt
      have hcell := hc0 l[k].toNat
      rw [tab_get _ hx] at hcell
      clear hc0
      have HD := Lib.hid (List.drop_eq_getElem_cons hlt)
      obtain ⟨c, hce⟩ : ∃ c, l[k] = c := ⟨_, rfl⟩
      rw [hce] at HD hg hcell hx
      cases hsp : isSp c with
      | true =>
        have hc1 := cls_sp.1 hsp
        rw [hc1] at hcell
        have H : Hid (sc 0 l = (sc (k + 1) (l.drop (k + 1))).prep us) := by unfold Hid; rw [HS.out, HD.out, sc_sp k _ hsp]
        have HO := Lib.hid hown
        have HB := Lib.hid gB
        clear hc1 hce HS hown gB
        generalize c.toNat = x at *
        go_wp2
        go_roundw
        case rel => exact ⟨us, k + 1, by omega, by go_num, by omega, HO.out, HB.out, hbr, H⟩
        case measure => simp [intOf]; omega
      | false =>
        have hc1 : ((clsN c.toNat : Nat) : Int) ≠ 1 := fun h => by
          have h' : clsN c.toNat = 1 := by omega
          rw [cls_sp.2 h'] at hsp; cases hsp
        have e1 : (((clsN c.toNat : Nat) : Int) == 1) = false := beq_eq_false_iff_ne.2 hc1
        have hex : (bs l).extract k l.length = bs (c :: l.drop (k + 1)) := by rw [bs_extract, List.take_of_length_le (by simp), HD.out]
        have hdl : (c :: l.drop (k + 1)).length ≤ 4096 := by simp; omega
        have hCl : ClsAt wr B := fun i hi => by rw [cell_of_row _ _ _ _ _ _ gB, tab_get _ hi]
        have hBr := (Array.getElem?_eq_some_iff.1 gB).1
        cases ht : tokF (c :: l.drop (k + 1)) with
        | none => 
          have cT := token_none B wr hCl hBr (by omega) (hL.below hbr) ht
          have H : Hid (scanR l = ([], 2, ((k : Nat) : Int))) := by unfold Hid; rw [HR.out, HS.out, HD.out, sc_none k _ hsp ht]; rfl
          clear hc1 hce HS hown gB hCl
          generalize clsN c.toNat = cn at *
          generalize c.toNat = x at *
          go_wp2_with fail
          refine (Calls.mono cT ?_)
          rintro e w3 ⟨fa, fb, fd, fm, fx, rfl, hb3⟩
          have hbx := hbr.trans (hb3.mono hbr.size)
          clear hb3 cT
          go_wp2_with fail
          go_ret3
          rw [H.out]
          exact ⟨_, rfl, World.ownsRow_nil _ _ _ _, hbx.alloc hbx.size _⟩
        | some q =>
          obtain ⟨t, n⟩ := q
          have hw := tok_wr ht
          have cT := token_some B wr hCl hBr (by omega) (hL.below hbr) ht
          have H : Hid (sc 0 l = (sc (k + n) (l.drop (k + n))).prep (us ++ [{ t with off := (k : Int) }])) := by
            unfold Hid
            rw [HS.out, HD.out, sc_some k _ hsp ht, prep_push, ← HD.out, List.drop_drop]
          have hn : k + n ≤ l.length := by
            have h1 := hw.2.2.1
            rw [← HD.out, List.length_drop] at h1
            omega
          have hn1 := hw.2.1
          obtain ⟨tk, tt, tn, to⟩ := t
          have HO := Lib.hid hown
          have HB := Lib.hid gB
          clear hc1 hce HS hown gB hCl hw ht
          generalize clsN c.toNat = cn at *
          generalize c.toNat = x at *
          go_wp2_with fail
          refine (Calls.mono cT ?_)
          rintro e w3 ⟨rfl, hb3⟩
          have hown3 := own_below HO.out hb3
          have HB3 := Lib.hid ((hb3.block _ hBr).trans HB.out)
          have hbx := hbr.trans (hb3.mono hbr.size)
          have hBr3 : B < w3.heap.size := Nat.lt_of_lt_of_le hBr hb3.size
          clear hb3 cT HO HB
          have HO3 := Lib.hid hown3
          clear hown3
          have hu63 : us.length + 1 ≤ 5000 := by omega
          go_wp2_with (at_builtin; refine wpList_append_own _ rfl _ _ 22 rfl w.heap.size 25 i0 (.agg #[.int .i64 0, .string ⟨#[]⟩, .int .i64 0, .int .i64 0]) 4 40 Tryd.underlying22 hi hz0 hz1 hz2 rfl (by decide) _ _ _ rfl ((HO3.out.alloc _).alloc _) ⟨w3.heap.size + 1, 0, none⟩ 1 1 [.int .i64 tk, .string (bs tt), .int .i64 tn, .int .i64 (k : Nat)] rfl rfl ?c1 ?c2 ?c3 ?c4 ?c5 ?_)
          case c1 =>
            intro j u hj
            rw [cell_add_alloc]
            simpa using hj
          case c2 => intro u hu; simp at hu; rcases hu with rfl | rfl | rfl | rfl <;> rfl
          case c3 => unfold maxLen; omega
          case c4 => omega
          case c5 => simp; exact Nat.le_trans hbx.size (by omega)
          intro v' w' hown' hgrow _
          have hbA := (hbx.alloc hbx.size (.cells #[.int .i64 tk, .string (bs tt), .int .i64 tn, .int .i64 (k : Nat)] 25)).alloc (by simp; exact Nat.le_trans hbx.size (by omega)) (.cells #[.int .i64 tk, .string (bs tt), .int .i64 tn, .int .i64 (k : Nat)] 25)
          have hsz := hbA.size
          have hbG := hbA.grown hgrow hsz (own_base HO3.out)
          have hBB : ((w3.alloc (.cells #[.int .i64 tk, .string (bs tt), .int .i64 tn, .int .i64 (k : Nat)] 25)).alloc (.cells #[.int .i64 tk, .string (bs tt), .int .i64 tn, .int .i64 (k : Nat)] 25)).heap[B]? = some (.cells (tab clsN) 37 (0, 0)) := by
            rw [heap_alloc_old _ _ (by simp; omega), heap_alloc_old _ _ hBr3]; exact HB3.out
          have HBB := Lib.hid ((hgrow.block B (by simp; omega) (fun e => own_ne HO3.out HB3.out (by decide) e.symm)).trans hBB)
          have HOW : Hid (w'.ownsRow w.heap.size 25 4 v' (us ++ [(⟨tk, tt, tn, (k : Nat)⟩ : Tok)]).length (tokCells (us ++ [(⟨tk, tt, tn, (k : Nat)⟩ : Tok)]))) := by
            unfold Hid
            rw [List.length_append, tokCells_append]
            exact hown'
          clear hown' hgrow hbA hsz hBB HO3 HB3
          go_wp2
          go_roundw
          case rel => exact ⟨us ++ [(⟨tk, tt, tn, (k : Nat)⟩ : Tok)], k + n, by omega, by go_num, by simp; omega, HOW.out, HBB.out, hbG, H⟩
          case measure => simp [intOf]; omega
    · have hkl : k = l.length := by omega
      have H : Hid (scanR l = (us ++ [⟨4, [], 0, (l.length : Nat)⟩], 0, 0)) := by
        unfold Hid
        rw [HR.out, HS.out, hkl, List.drop_length, sc_nil]
        rfl
      subst hkl
      have HO3 := Lib.hid hown
      clear hown gB hc0 HS
      have hu63 : us.length + 1 ≤ 5000 := by omega
      go_wp2_with (at_builtin; refine wpList_append_own _ rfl _ _ 22 rfl w.heap.size 25 i0 (.agg #[.int .i64 0, .string ⟨#[]⟩, .int .i64 0, .int .i64 0]) 4 40 Tryd.underlying22 hi hz0 hz1 hz2 rfl (by decide) _ _ _ rfl (HO3.out.alloc _) ⟨wr.heap.size, 0, none⟩ 1 1 [.int .i64 4, .string ⟨#[]⟩, .int .i64 0, .int .i64 (l.length : Nat)] rfl rfl ?d1 ?d2 ?d3 ?d4 ?d5 ?_)
      case d1 =>
        intro j u hj
        rw [cell_add_new]
        simpa using hj
      case d2 => intro u hu; simp at hu; rcases hu with rfl | rfl | rfl | rfl <;> rfl
      case d3 => unfold maxLen; omega
      case d4 => omega
      case d5 => simp; exact Nat.le_trans hbr.size (by omega)
      intro v' w' hown' hgrow _
      have hbA := hbr.alloc hbr.size (.cells #[.int .i64 4, .string ⟨#[]⟩, .int .i64 0, .int .i64 (l.length : Nat)] 25)
      have hbG := hbA.grown hgrow hbA.size (own_base HO3.out)
      have HOW : Hid (w'.ownsRow w.heap.size 25 4 v' (us ++ [(⟨4, [], 0, (l.length : Nat)⟩ : Tok)]).length (tokCells (us ++ [(⟨4, [], 0, (l.length : Nat)⟩ : Tok)]))) := by
        unfold Hid
        rw [List.length_append, tokCells_append]
        exact hown'
      clear hown' hgrow hbA HO3
      go_wp2_with fail
      go_ret3
      rw [H.out]
      exact ⟨_, rfl, HOW.out, hbG⟩
theorem scan_any (l : List UInt8) (w : World) (hl : l.length ≤ 281474976710655) (hL : Laid w) : Calls Tryd.prog 10 #[.string (bs l)] w (ScanPost (scanR l) w) := by
  by_cases h : 4096 < l.length
  · exact scan_full l w h hl
  · exact scan_few l w (by omega) hL
end Go.Proofs.YtjcobjikgakapaaDoor
