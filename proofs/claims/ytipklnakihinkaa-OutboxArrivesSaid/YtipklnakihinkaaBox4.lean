/- planFor, walked. -/
import Derived.Test.YtipklnakihinkaaBox3
import Derived.OwnWalk
namespace Go.Proofs.Ytipklnakihinkaa
open Go.ChangeShapes Go.WideShapes Go.ChangeAt Go.RowKit
set_option linter.unusedVariables false

/-- a slice value that reads as a list of numbers, out of blocks that are ok -/
def IntsAt (w : World) (ok : Nat → Prop) (v : Value) (l : List Int) : Prop :=
  ∃ a c, v = .slice a l.length c ∧ (0 < l.length → ∃ b o, a = some ⟨b, o, none⟩ ∧ ok b ∧ ∀ i x, l[i]? = some x → w.cell? ⟨b, o + i, none⟩ = some (.int .i64 x))
/-- an address at which slices lie that read as lists of numbers -/
def RowsAt (w : World) (ok : Nat → Prop) (a : Option Addr) (ll : List (List Int)) : Prop :=
  0 < ll.length → ∃ b o, a = some ⟨b, o, none⟩ ∧ ok b ∧ ∀ i l, ll[i]? = some l → ∃ v, w.cell? ⟨b, o + i, none⟩ = some v ∧ IntsAt w ok v l
theorem Chg.cell_lt {w w' : World} (h : Chg [] w w') {p : Addr} {v : Value} (hc : w.cell? p = some v) : w'.cell? p = some v := h.cell_some (by simp) hc
theorem IntsAt.keep {S : List Nat} {w w' : World} {ok : Nat → Prop} {v : Value} {l : List Int} (h : IntsAt w ok v l) (hc : Chg S w w') (hs : ∀ b, ok b → b ∉ S) : IntsAt w' ok v l := by
  obtain ⟨a, c, rfl, h⟩ := h
  refine ⟨a, c, rfl, fun hl => ?_⟩
  obtain ⟨b, o, rfl, hb, hx⟩ := h hl
  exact ⟨b, o, rfl, hb, fun i x hi => hc.cell_some (hs b hb) (hx i x hi)⟩
theorem RowsAt.keep {S : List Nat} {w w' : World} {ok : Nat → Prop} {a : Option Addr} {ll : List (List Int)} (h : RowsAt w ok a ll) (hc : Chg S w w') (hs : ∀ b, ok b → b ∉ S) : RowsAt w' ok a ll := by
  intro hl
  obtain ⟨b, o, rfl, hb, hx⟩ := h hl
  refine ⟨b, o, rfl, hb, fun i l hi => ?_⟩
  obtain ⟨v, h1, h2⟩ := hx i l hi
  exact ⟨v, hc.cell_some (hs b hb) h1, h2.keep hc hs⟩

/-- the cells of a list of sends -/
def sendCells : List Send → List Value
  | [] => []
  | s :: r => .int .i64 s.peer :: .int .i64 s.log :: .int .i64 s.start :: .int .i64 s.count :: sendCells r

theorem own_form {w : World} {base e size n : Nat} {v : Value} {xs : List Value} (h : w.ownsRow base e size v n xs) : ∃ a c, v = .slice a n c := by
  rcases h.2 with ⟨rfl, rfl⟩ | ⟨g, cap, cur, rfl, _⟩
  · exact ⟨_, _, rfl⟩
  · exact ⟨_, _, rfl⟩
theorem sendCells_snoc (l : List Send) (x : Send) : sendCells (l ++ [x]) = sendCells l ++ [.int .i64 x.peer, .int .i64 x.log, .int .i64 x.start, .int .i64 x.count] := by
  induction l with
  | nil => rfl
  | cons s r ih => simp [sendCells, ih]
theorem own_base {w : World} {base e size n : Nat} {v : Value} {xs : List Value} (h : w.ownsRow base e size v n xs) : ∀ k, v.ownBlock = some k → base ≤ k := by
  rcases h.2 with ⟨rfl, rfl⟩ | ⟨g, cap, cur, rfl, hg, _⟩
  · intro k hk; simp [Value.ownBlock] at hk
  · intro k hk; simp [Value.ownBlock] at hk; omega
theorem planGo_skip {X : BoxM} {peer : Nat} {now : Int} {ends : List (List Int)} {k i L : Nat} {st : Int × List Send} (hk : i < k) (hL : (now % (X.l.length : Int) + i) % (X.l.length : Int) = L) (h : L = peer ∨ ends.length ≤ L) :
    X.planGo peer now ends (k - i) i st = X.planGo peer now ends (k - (i + 1)) (i + 1) st := by
  rw [show k - i = (k - (i + 1)) + 1 by omega, BoxM.planGo]
  simp only [hL, Int.toNat_natCast]
  rw [if_pos h]
theorem planGo_full {X : BoxM} {peer : Nat} {now : Int} {ends : List (List Int)} {k i L : Nat} {st : Int × List Send} (hk : i < k) (hL : (now % (X.l.length : Int) + i) % (X.l.length : Int) = L) (h : ¬ (L = peer ∨ ends.length ≤ L)) (h8 : 8 ≤ st.2.length) :
    X.planGo peer now ends (k - i) i st = st.2 := by
  rw [show k - i = (k - (i + 1)) + 1 by omega, BoxM.planGo]
  simp only [hL, Int.toNat_natCast]
  rw [if_neg h, if_pos h8]
theorem planGo_step {X : BoxM} {peer : Nat} {now : Int} {ends : List (List Int)} {k i L : Nat} {st : Int × List Send} (hk : i < k) (hL : (now % (X.l.length : Int) + i) % (X.l.length : Int) = L) (h : ¬ (L = peer ∨ ends.length ≤ L)) (h8 : ¬ 8 ≤ st.2.length) :
    X.planGo peer now ends (k - i) i st = X.planGo peer now ends (k - (i + 1)) (i + 1)
      (if 0 < cnt (X.m peer L) st.1 (ends.getD L []) then (st.1 - cnt (X.m peer L) st.1 (ends.getD L []), st.2 ++ [⟨peer, L, X.m peer L, cnt (X.m peer L) st.1 (ends.getD L [])⟩]) else st) := by
  rw [show k - i = (k - (i + 1)) + 1 by omega, BoxM.planGo]
  simp only [hL, Int.toNat_natCast]
  rw [if_neg h, if_neg h8, BoxM.planStep]
  simp only [hL, Int.toNat_natCast]
  rw [if_neg h]
theorem cnt_snoc (start left : Int) (l : List Int) (e : Int) : cnt start left (l ++ [e]) = if start < e ∧ e - start ≤ min 64 left then max (cnt start left l) (e - start) else cnt start left l := by
  unfold cnt; rw [List.foldl_append]; rfl
theorem cnt_take (start left : Int) (l : List Int) (q : Nat) (h : q < l.length) : cnt start left (l.take (q + 1)) = if start < l[q] ∧ l[q] - start ≤ min 64 left then max (cnt start left (l.take q)) (l[q] - start) else cnt start left (l.take q) := by
  rw [List.take_succ_eq_append_getElem h]; exact cnt_snoc _ _ _ _
theorem cnt_fold (start left : Int) : ∀ (l : List Int) (c : Int), 0 ≤ c → c ≤ min 64 left → 0 ≤ l.foldl (fun c e => if start < e ∧ e - start ≤ min 64 left then max c (e - start) else c) c ∧ l.foldl (fun c e => if start < e ∧ e - start ≤ min 64 left then max c (e - start) else c) c ≤ min 64 left
  | [], c, h0, h1 => ⟨h0, h1⟩
  | e :: r, c, h0, h1 => by
    rw [List.foldl_cons]
    apply cnt_fold start left r
    · split <;> omega
    · split <;> omega
theorem cnt_bd (start left : Int) (h0 : 0 ≤ left) (l : List Int) : 0 ≤ cnt start left l ∧ cnt start left l ≤ min 64 left := cnt_fold start left l 0 (by omega) (by omega)
theorem info34 : (Try.prog.info? 34).map (fun i => (i.zero, i.size, i.bytes)) = some (some (.agg #[.int .i64 0, .int .i64 0, .int .i64 0, .int .i64 0]), 4, 32) := by kernel_rfl
set_option maxRecDepth 100000 in
set_option maxHeartbeats 1000000 in
theorem planFor_any {bB bP bM n : Nat} {X : BoxM} (peer : Nat) (now : Int) (ends : List (List Int)) (A : Option Addr) (C : Nat) (ok : Nat → Prop) (w : World) (h : BoxAt w bB bP bM n X) (hb : 64 ≤ X.budget) (hb2 : X.budget ≤ 9223372036854775807)
    (hn0 : 0 ≤ now) (hn1 : now ≤ 1099511627776) (hpe : peer < X.l.length) (he : RowsAt w ok A ends) (hel : ends.length ≤ 9223372036854775807) (hel2 : ∀ l, l ∈ ends → l.length ≤ 9223372036854775807 ∧ ∀ x, x ∈ l → wf64 x) :
    Calls Try.prog 19 #[.pointer (some ⟨bB, 0, none⟩), .int .i64 peer, .int .i64 now, .slice A ends.length C] w fun e w' => ∃ v, e = .returned v ∧
      w'.ownsRow w.heap.size 34 4 v (X.planFor peer now ends).length (sendCells (X.planFor peer now ends)) ∧ Below w.heap.size w w' := by
  have h1 := h.c1
  have h2 := h.c2
  have h3 := h.c3
  have hfew := h.few
  obtain ⟨i0, hi, hz0, hz1, hz2⟩ := info_parts info34
  go_enter Try.func19, Try.ntmps19
  go_wp2
  go_loopw [9, 10, 28] (fun v lf i wr => ∃ (k : Nat) (left : Int) (l : List Send), i = .int .i64 k ∧ k ≤ X.l.length ∧ lf = .int .i64 left ∧ 0 ≤ left ∧ left ≤ X.budget ∧
      wr.ownsRow w.heap.size 34 4 v l.length (sendCells l) ∧ l.length ≤ 8 ∧ Below w.heap.size w wr ∧ X.planGo peer now ends (X.l.length - k) k (left, l) = X.planFor peer now ends)
    (fun _ _ i _ => X.l.length - (intOf i).toNat)
  case atStart => exact ⟨0, X.budget, [], rfl, by omega, rfl, by omega, by omega, ⟨by simp [sendCells], .inl ⟨rfl, rfl⟩⟩, by simp, Below.refl _ _, rfl⟩
  case round =>
    obtain ⟨k, left, l, rfl, hk, rfl, hl0, hl1, hown, hl8, hbel, hgo⟩ := hrel
    have hbr : BoxAt wr bB bP bM n X := h.keep (Chg.of_below hbel []) (by simp) (by simp) (by simp)
    have her : RowsAt wr ok A ends := he.keep (Chg.of_below hbel []) (by simp)
    by_cases hlt : k < X.l.length
    · obtain ⟨L, hL⟩ : ∃ L : Nat, (now % (X.l.length : Int) + k) % (X.l.length : Int) = L :=
        ⟨_, (Int.toNat_of_nonneg (Int.emod_nonneg _ (by omega))).symm⟩
      have hLn : L < X.l.length := by
        have := Int.emod_lt_of_pos (now % (X.l.length : Int) + k) (b := X.l.length) (by omega)
        omega
      have hm := hbr.sizes
      have hmod1 : 0 ≤ now % (X.l.length : Int) := Int.emod_nonneg _ (by omega)
      have hmod2 : now % (X.l.length : Int) < (X.l.length : Int) := Int.emod_lt_of_pos _ (by omega)
      by_cases hA : L = peer ∨ ends.length ≤ L
      · have HG : Hid (X.planGo peer now ends (X.l.length - (k + 1)) (k + 1) (left, l) = X.planFor peer now ends) := by rw [← planGo_skip hlt hL hA]; exact hgo
        clear hgo
        by_cases hA1 : L = peer
        · have hq : ((L : Int) == (peer : Int)) = true := by simp; omega
          clear hA hm hA1
          go_wp2
          go_roundw
          case rel => exact ⟨k + 1, left, l, by go_num, by omega, rfl, hl0, hl1, hown, hl8, hbel, HG.out⟩
          case measure => simp [intOf]; omega
        · have hq : ((L : Int) == (peer : Int)) = false := by simp; omega
          have hA2 : ends.length ≤ L := by omega
          clear hA hm hA1
          go_wp2
          go_roundw
          case rel => exact ⟨k + 1, left, l, by go_num, by omega, rfl, hl0, hl1, hown, hl8, hbel, HG.out⟩
          case measure => simp [intOf]; omega
      · have hq : ((L : Int) == (peer : Int)) = false := by simp; omega
        have hA2 : L < ends.length := by omega
        obtain ⟨sa, sc, rfl⟩ := own_form hown
        by_cases h8 : 8 ≤ l.length
        · rw [planGo_full hlt hL hA h8] at hgo
          have HG : Hid (l = X.planFor peer now ends) := hgo
          clear hgo hA hm
          go_wp2
          go_ret
          rw [← HG.out]
          exact ⟨_, rfl, hown, hbel⟩
        · rw [planGo_step hlt hL hA h8] at hgo
          simp only at hgo
          obtain ⟨hlook, hwm⟩ := hm.look (p := peer) (l := L) (by unfold wf64; omega) (by unfold wf64; omega)
          have hm0 := hbr.pos peer L
          have hd1 := hbr.c1
          have hd2 := hbr.c2
          have hd3 := hbr.c3
          obtain ⟨eb, eo, rfl, _, hrow⟩ := her (by omega)
          obtain ⟨rv, hrc, ra, rc, rfl, hints⟩ := hrow L (ends.getD L []) (by simp [List.getD, List.getElem?_eq_getElem hA2])
          have HG := Lib.hid hgo
          clear hgo hA hrow
          have hlen : (ends.getD L []).length ≤ 9223372036854775807 := (hel2 _ (by simp [List.getD, List.getElem?_eq_getElem hA2])).1
          have hwfs : ∀ x, x ∈ ends.getD L [] → wf64 x := (hel2 _ (by simp [List.getD, List.getElem?_eq_getElem hA2])).2
          obtain ⟨es, hes⟩ : ∃ es, es = ends.getD L [] := ⟨_, rfl⟩
          rw [← hes] at hrc hints hlen hwfs HG
          clear hes
          have hmw : X.m peer L ≤ 9223372036854775807 := hwm.2
          clear hwm hel2 hm
          go_wp2
          go_loop [15, 17, 63] (fun c _ i => ∃ (q : Nat), i = .int .i64 q ∧ q ≤ es.length ∧ c = .int .i64 (cnt (X.m peer L) left (es.take q))) (fun _ _ i => es.length - (intOf i).toNat)
          case atStart => exact ⟨0, rfl, by omega, rfl⟩
          case round =>
            obtain ⟨q, rfl, hq1, rfl⟩ := hrel
            obtain ⟨hc0, hc1⟩ := cnt_bd (X.m peer L) left hl0 (es.take q)
            by_cases hql : q < es.length
            · obtain ⟨ib, io, rfl, _, hx⟩ := hints (by omega)
              have hcell := hx q es[q] (List.getElem?_eq_getElem hql)
              have hsn := cnt_take (X.m peer L) left es q hql
              have hwe := hwfs es[q] (List.getElem_mem hql)
              unfold wf64 at hwe
              obtain ⟨hwe1, hwe2⟩ := hwe
              obtain ⟨ev, hev⟩ : ∃ ev, ev = es[q] := ⟨_, rfl⟩
              rw [← hev] at hcell hsn hwe1 hwe2
              have HS := Lib.hid hsn
              clear hsn hev hx hints hwfs HG hown
              by_cases t1 : X.m peer L < ev
              · by_cases t2 : ev - X.m peer L ≤ min 64 left
                · have HS2 := Lib.hid (HS.out.trans (if_pos (And.intro t1 t2)))
                  clear HS
                  go_wp2
                  go_round
                  case rel => exact ⟨q + 1, by go_num, by omega, by rw [HS2.out]; congr 1; split <;> omega⟩
                  case measure => simp [intOf]; omega
                · have HS2 := Lib.hid (HS.out.trans (if_neg (fun h => t2 h.2)))
                  clear HS
                  go_wp2
                  go_round
                  case rel => exact ⟨q + 1, by go_num, by omega, by rw [HS2.out]⟩
                  case measure => simp [intOf]; omega
              · have HS2 := Lib.hid (HS.out.trans (if_neg (fun h => t1 h.1)))
                clear HS
                go_wp2
                go_round
                case rel => exact ⟨q + 1, by go_num, by omega, by rw [HS2.out]⟩
                case measure => simp [intOf]; omega
            · have hqe : es.take q = es := List.take_of_length_le (by omega)
              rw [hqe] at hc0 hc1 ⊢
              clear hqe hints hwfs
              obtain ⟨c, hc⟩ : ∃ c, c = cnt (X.m peer L) left es := ⟨_, rfl⟩
              rw [← hc] at hc0 hc1 HG ⊢
              clear hc
              by_cases t1 : 0 < c
              · rw [if_pos t1] at HG
                go_wp2_with (at_builtin; refine wpList_append_own _ rfl _ _ 31 rfl w.heap.size 34 i0 (.agg #[.int .i64 0, .int .i64 0, .int .i64 0, .int .i64 0]) 4 32 Try.underlying31 hi hz0 hz1 hz2 rfl (by decide) _ _ _ rfl (hown.alloc _) ⟨wr.heap.size, 0, none⟩ 1 1 [.int .i64 peer, .int .i64 L, .int .i64 (X.m peer L), .int .i64 c] rfl rfl ?c1 ?c2 ?c3 ?c4 ?c5 ?_)
                case c2 => exact ⟨rfl, rfl, rfl, rfl⟩
                case c3 => unfold maxLen; omega
                case c4 => omega
                case c5 => have := hbel.size; omega
                intro v1 w1 hown1 hgrow1 _
                have hbel1 : Below w.heap.size w w1 := (hbel.alloc hbel.size _).grown hgrow1 (by have := hbel.size; simp; omega) (own_base hown)
                have hsn : sendCells l ++ [.int .i64 peer, .int .i64 L, .int .i64 (X.m peer L), .int .i64 c] = sendCells (l ++ [⟨peer, L, X.m peer L, c⟩]) := (sendCells_snoc l ⟨peer, L, X.m peer L, c⟩).symm
                have hln : l.length + 1 = (l ++ [(⟨peer, L, X.m peer L, c⟩ : Send)]).length := by simp
                rw [hsn, hln] at hown1
                clear hsn hln hgrow1
                go_wp2
                go_roundw
                case rel => exact ⟨k + 1, left - c, _, by go_num, by omega, rfl, by omega, by omega, hown1, by simp; omega, hbel1, HG.out⟩
                case measure => simp [intOf]; omega
              · rw [if_neg t1] at HG
                go_wp2
                go_roundw
                case rel => exact ⟨k + 1, left, l, by go_num, by omega, rfl, hl0, hl1, hown, hl8, hbel, HG.out⟩
                case measure => simp [intOf]; omega
    · have e0 : X.l.length - k = 0 := by omega
      rw [e0] at hgo
      have HG : Hid (l = X.planFor peer now ends) := hgo
      clear hgo e0
      go_wp2
      go_ret
      rw [← HG.out]
      exact ⟨_, rfl, hown, hbel⟩
end Go.Proofs.Ytipklnakihinkaa
