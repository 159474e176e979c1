/- has: whether a list has a card; append of a list of cards. -/
import Derived.Test.YtemdecaiadkchaaPgCPure
import Derived.Test.YtemdecaiadkchaaPgParts
namespace Go.Proofs.Ytemdecaiadkchaa
open Go.ChangeShapes Go.WideShapes Go.ChangeAt Go.RowKit Go.Lib
set_option linter.unusedVariables false
set_option linter.unusedSimpArgs false

theorem nin_take {c : Card} {L : List Card} {k : Nat} {x : Card} (h : c ∉ L.take k) (hx : L[k]? = some x) (hn : x ≠ c) : c ∉ L.take (k + 1) := by
  rw [List.take_add_one, hx]
  intro hm
  rcases List.mem_append.1 hm with hm | hm
  · exact h hm
  · simp at hm; exact hn hm.symm
def HasI (L : List Card) (c : Card) (k : Nat) : Prop := c ∉ L.take k
theorem has_any (L : List Card) (n : Nat) (A : Option Addr) (C : Nat) (c : Card) (w : World) (hn : L.length = n) (hb : n ≤ 1000000) (h1 : CRow w A L) : Calls Try.prog 16 #[.slice A n C, .agg (cellsC c)] w (BoolPost w (decide (c ∈ L))) := by
  obtain ⟨b, hbb⟩ : ∃ b, decide (c ∈ L) = b := ⟨_, rfl⟩
  obtain ⟨ci, cb, cs, ct, ca, cr⟩ := c
  have HM := Lib.hid hn
  have HB := Lib.hid hbb
  have g3 := heap_alloc_new w (.cells (cellsC ⟨ci, cb, cs, ct, ca, cr⟩) 39)
  have hB0 := (Below.refl w.heap.size w).alloc (Nat.le_refl _) (.cells (cellsC ⟨ci, cb, cs, ct, ca, cr⟩) 39)
  have H1 := Lib.hid (h1.below hB0)
  have HX := Lib.hid g3
  have HB0 := Lib.hid hB0
  rw [hbb]
  clear hn hbb h1 g3 hB0
  unfold cellsC at HX H1 HB0 ⊢
  simp only at HX H1 HB0 ⊢
  go_enter Try.func16, Try.ntmps16
  go_wp2
  generalize hwb : World.alloc w _ = wb at *
  clear hwb
  go_loopw [5] (fun v5 wr => ∃ k : Nat, v5 = .int .i64 k ∧ k ≤ n ∧ Hid (HasI L ⟨ci, cb, cs, ct, ca, cr⟩ k) ∧ Below wb.heap.size wb wr) (fun v _ => n - (intOf v).toNat)
  case atStart => exact ⟨0, rfl, Nat.zero_le _, by unfold Hid HasI; simp, Below.refl _ _⟩
  case round =>
    obtain ⟨k, rfl, hk, hkn, hbk⟩ := hrel
    by_cases hkm : k < n
    · have dk : decide ((k : Int) < (n : Int)) = true := decide_eq_true (by omega)
      have dkN : decide (k < n) = true := decide_eq_true hkm
      have bk : (k : Int) < (n : Int) := by omega
      have wk : IntKind.i64.wrap ((k : Int) + 1) = (k : Int) + 1 := IntWalk.i64_in _ (by omega)
      obtain ⟨⟨xi, xb, xs, xt, xa, xr⟩, hxk⟩ : ∃ c, L[k]? = some c := ⟨_, List.getElem?_eq_getElem (by have := HM.out; omega)⟩
      obtain ⟨b6, o6, rfl, _⟩ := H1.out (by have := HM.out; omega)
      have hrow := H1.out.below hbk
      obtain ⟨q0, q1, q2, q3, q4, q5⟩ := sixC (c := ⟨ci, cb, cs, ct, ca, cr⟩) (keep_blkP hbk HX.out)
      simp only at q0 q1 q2 q3 q4 q5
      by_cases hx : (⟨xi, xb, xs, xt, xa, xr⟩ : Card) = ⟨ci, cb, cs, ct, ca, cr⟩
      · rw [hx] at hxk
        obtain ⟨p0, p1, p2, p3, p4, p5⟩ := hrow.cells hxk
        have hne : ∀ W, (binOp .eql 39 (.agg #[.string (bs ci), .string (bs cb), .int .i64 cs, .int .i64 ct, .int .i64 ca, .string (bs cr)]) (.agg #[.string (bs ci), .string (bs cb), .int .i64 cs, .int .i64 ct, .int .i64 ca, .string (bs cr)])).run Try.prog W = .ok (.bool true) W := fun W => by
          have := eql_cards ⟨ci, cb, cs, ct, ca, cr⟩ ⟨ci, cb, cs, ct, ca, cr⟩ W
          rw [decide_eq_true rfl] at this
          exact this
        have hb1 : b = true := by rw [← HB.out]; exact decide_eq_true (List.mem_of_getElem? hxk)
        have HBK := Lib.hid (HB0.out.trans (hbk.mono HB0.out.size))
        subst hb1
        clear hxk hx H1 HM hbk hkn hrow HX HB
        go_wp2
        go_quiet (fail)
        go_wp2
        go_ret
        exact ⟨rfl, below_drewN HBK.out _⟩
      · obtain ⟨p0, p1, p2, p3, p4, p5⟩ := hrow.cells hxk
        have hne : ∀ W, (binOp .eql 39 (.agg #[.string (bs xi), .string (bs xb), .int .i64 xs, .int .i64 xt, .int .i64 xa, .string (bs xr)]) (.agg #[.string (bs ci), .string (bs cb), .int .i64 cs, .int .i64 ct, .int .i64 ca, .string (bs cr)])).run Try.prog W = .ok (.bool false) W := fun W => by
          have := eql_cards ⟨xi, xb, xs, xt, xa, xr⟩ ⟨ci, cb, cs, ct, ca, cr⟩ W
          rw [decide_eq_false hx] at this
          exact this
        have HKN := Lib.hid (nin_take hkn.out hxk hx)
        have HBK := Lib.hid hbk
        clear hxk hx H1 HM hbk hkn hrow HX HB
        go_wp2
        go_quiet (fail)
        go_wp2
        go_roundw
        case rel => exact ⟨k + 1, by go_num, hkm, HKN, below_drewN HBK.out _⟩
        case measure => simp [intOf]; omega
    · have dk : decide ((k : Int) < (n : Int)) = false := decide_eq_false (by omega)
      have dkN : decide (k < n) = false := decide_eq_false hkm
      have hb1 : b = false := by
        rw [← HB.out]
        refine decide_eq_false fun hm => hkn.out ?_
        rw [List.take_of_length_le (by have := HM.out; omega)]
        exact hm
      subst hb1
      have HBK := Lib.hid (HB0.out.trans (hbk.mono HB0.out.size))
      clear hbk hkn HB
      go_wp2
      go_ret
      exact ⟨rfl, HBK.out⟩
/-- a list of cards as an argument of append -/
def SIn (w : World) (A : Option Addr) (C : Nat) (l : List Card) : Prop := (A = none ∧ C = 0 ∧ l = []) ∨ ∃ ad, A = some ad ∧ ∀ j u, (cardCells l)[j]? = some u → w.cell? (ad.add j) = some u
theorem SIn.of {w : World} {A : Option Addr} {C : Nat} {l : List Card} (h : CRow w A l) (hC : A = none → C = 0) : SIn w A C l := by
  cases A with
  | none =>
    refine .inl ⟨rfl, hC rfl, ?_⟩
    cases l with
    | nil => rfl
    | cons x r => obtain ⟨b, o, e, _⟩ := h (by simp); simp at e
  | some ad =>
    refine .inr ⟨ad, rfl, ?_⟩
    cases l with
    | nil => intro j u hu; simp [cardCells] at hu
    | cons x r =>
      obtain ⟨b, o, e, _⟩ := h (by simp)
      obtain rfl := Option.some.inj e
      exact crow_cells h
theorem grow_below {w w' : World} {base n : Nat} {v : Value} {xs : List Value} (hown : w.ownsRow base 39 6 v n xs) (hg : w.grownBy w' v.ownBlock) (hb : base ≤ w.heap.size) : Below base w w' :=
  (Below.refl base w).grown hg hb fun k hk => (own_lt hown hk).2
/-- append of a list of cards to an own one -/
theorem wpList_append_cards {w : World} {ops : Array Oper} {rest : List Oper} {o : Oper} {a : Act} {Q : Exit → Act → World → Prop} (hgd : Region.wanted o (yielded ops a.tmps) = true) (s x : Operand)
    (ho : o.op = .call { callee := .builtin .append, args := #[s, x], argTypes := #[30, 30] })
    (base : Nat) (v : Value) (n : Nat) (xs : List Value) (hs : a.eval s = v) (hown : w.ownsRow base 39 6 v n xs)
    (A : Option Addr) (C m : Nat) (l : List Card) (hm : l.length = m) (hA : SIn w A C l) (hx : a.eval x = .slice A m C) (h63 : n + m ≤ 1000000) (hbase : base ≤ w.heap.size)
    (h : ∀ v' w', w'.ownsRow base 39 6 v' (n + m) (xs ++ cardCells l) → Below base w w' → wpList Try.prog ops Q rest (a.put o.dst v') w') : wpList Try.prog ops Q (o :: rest) a w := by
  obtain ⟨i0, hi0, hz0, hz1, hz2⟩ := info_parts info39
  refine wpList_step fun K hK => ?_
  rw [if_pos hgd]
  rcases hA with ⟨rfl, rfl, rfl⟩ | ⟨ad, rfl, hc⟩
  · obtain rfl : m = 0 := hm.symm
    have hrun := run_append_owned_none (P := Try.prog) (w := w) base 30 o.type 39 i0 6 Try.underlying30 hi0 v n xs hown
    unfold Oper.wp
    simp [execOp, ho, resolve, invoke, builtin, hs, hx, hrun, Result.andThen]
    exact hK _ _ (h v w (by simpa [cardCells] using hown) (Below.refl _ _))
  · refine wp_append_own w s x 30 ho base 39 i0 (.agg (cellsC noC)) 6 72 Try.underlying30 hi0 hz0 hz1 hz2 rfl (by decide) v n xs hs hown ad m C (cardCells l) hx (by rw [cardCells_length, hm]) hc (cards_one' l) (by unfold maxLen; omega) (by omega) hbase ?_
    intro v' w' g1 g2 _
    exact hK _ _ (h v' w' g1 (grow_below hown g2 hbase))
end Go.Proofs.Ytemdecaiadkchaa
