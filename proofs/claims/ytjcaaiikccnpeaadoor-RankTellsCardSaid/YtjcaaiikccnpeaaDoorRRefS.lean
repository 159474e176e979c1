/- The reference's Sort, walked. -/
import Derived.Test.YtjcaaiikccnpeaaDoorRRefA
import Derived.Maps.AppendAt
import Derived.Deep.DeepCutAuto
import Derived.Deep.RegionHeld3
namespace Go.Proofs.YtjcaaiikccnpeaaDoor
open Go.ChangeShapes Go.WideShapes Go.ChangeAt Go.RowKit Go.Lib
set_option linter.unusedVariables false
set_option linter.unusedSimpArgs false

theorem own_formR {w : World} {base e size n : Nat} {v : Value} {xs : List Value} (h : w.ownsRow base e size v n xs) : ∃ a c, v = .slice a n c := by
  rcases h.2 with ⟨rfl, rfl⟩ | ⟨g, cap, cur, rfl, _⟩
  · exact ⟨none, 0, rfl⟩
  · exact ⟨_, _, rfl⟩
theorem own_belowR {w w' : World} {base e size n : Nat} {v : Value} {xs : List Value} (h : w.ownsRow base e size v n xs) (hb : Below w.heap.size w w') : w'.ownsRow base e size v n xs := by
  refine ⟨h.1, ?_⟩
  rcases h.2 with h2 | ⟨g, cap, cur, hv, hbg, hg, h3⟩
  · exact .inl h2
  · exact .inr ⟨g, cap, cur, hv, hbg, (hb.block g (Array.getElem?_eq_some_iff.1 hg).1).trans hg, h3⟩
theorem own_ltR {w : World} {base e size n : Nat} {v : Value} {xs : List Value} (h : w.ownsRow base e size v n xs) {g : Nat} (hg : v.ownBlock = some g) : g < w.heap.size ∧ base ≤ g := by
  rcases h.2 with ⟨rfl, _⟩ | ⟨g', cap, cur, rfl, hb, hg', _⟩
  · cases hg
  · simp only [Value.ownBlock, Option.some.injEq] at hg
    subst hg
    exact ⟨(Array.getElem?_eq_some_iff.1 hg').1, hb⟩
theorem own_monoR {w : World} {base b' e size n : Nat} {v : Value} {xs : List Value} (h : w.ownsRow base e size v n xs) (hb : b' ≤ base) : w.ownsRow b' e size v n xs := by
  refine ⟨h.1, ?_⟩
  rcases h.2 with h2 | ⟨g, cap, cur, hv, hbg, h3⟩
  · exact .inl h2
  · exact .inr ⟨g, cap, cur, hv, Nat.le_trans hb hbg, h3⟩
theorem own_newR (w : World) : (w.alloc (.cells #[] 38)).ownsRow w.heap.size 38 6 (.slice (some ⟨w.heap.size, 0, none⟩) 0 0) 0 [] :=
  ⟨by simp, .inr ⟨w.heap.size, 0, #[], rfl, Nat.le_refl _, heap_alloc_new w _, by simp, by unfold maxLen; omega, by simp, by simp⟩⟩
theorem cardCells_appR (a b : List Card) : cardCells (a ++ b) = cardCells a ++ cardCells b := by unfold cardCells; simp
/-- a list of cards as an argument of append -/
def SIn (w : World) (A : Option Addr) (C : Nat) (l : List Card) : Prop := (A = none ∧ C = 0 ∧ l = []) ∨ ∃ ad, A = some ad ∧ ∀ j u, (cardCells l)[j]? = some u → w.cell? (ad.add j) = some u
theorem SIn.belowR {w w' : World} {A : Option Addr} {C : Nat} {l : List Card} (h : SIn w A C l) (hb : Below w.heap.size w w') : SIn w' A C l := by
  rcases h with h | ⟨ad, h1, h2⟩
  · exact .inl h
  · exact .inr ⟨ad, h1, fun j u hu => (hb.cell (World.block_lt_of_cell? w _ (h2 j u hu))).trans (h2 j u hu)⟩
theorem sin_box {w : World} {b : Nat} {x : Card} (h : w.heap[b]? = some (.cells (cellsC x) 38 (0, 0))) : SIn w (some ⟨b, 0, none⟩) 1 [x] :=
  .inr ⟨_, rfl, fun j u hu => by
    have hu' : (cellsC x).toList[j]? = some u := by simpa [cardCells] using hu
    rw [show (⟨b, 0, none⟩ : Addr).add j = ⟨b, j, none⟩ by unfold Addr.add; split <;> simp_all]
    unfold World.cell?
    simp only [h]
    simpa using hu'⟩
theorem wp_append_cardsR {w : World} {o : Oper} {a : Act} {K : Act → World → Prop} {Q : Exit → Act → World → Prop} (s x : Operand)
    (ho : o.op = .call { callee := .builtin .append, args := #[s, x], argTypes := #[35, 35] })
    (base : Nat) (v : Value) (n : Nat) (xs : List Value) (hs : a.eval s = v) (hown : w.ownsRow base 38 6 v n xs)
    (A : Option Addr) (C m : Nat) (l : List Card) (hm : l.length = m) (hA : SIn w A C l) (hx : a.eval x = .slice A m C) (h63 : n + m ≤ 1000000) (hbase : base ≤ w.heap.size)
    (h : ∀ v' w', w'.ownsRow base 38 6 v' (n + m) (xs ++ cardCells l) → Below base w w' → w.grownBy w' v.ownBlock → K (a.put o.dst v') w') : o.wp Tryd.prog a w K Q := by
  obtain ⟨i0, hi0, hz0, hz1, hz2⟩ := info_parts infoCard2
  rcases hA with ⟨rfl, rfl, rfl⟩ | ⟨ad, rfl, hc⟩
  · obtain rfl : m = 0 := hm.symm
    have hrun := run_append_owned_none (P := Tryd.prog) (w := w) base 35 o.type 38 i0 6 Tryd.underlying35 hi0 v n xs hown
    unfold Oper.wp
    simp [execOp, ho, resolve, invoke, builtin, hs, hx, hrun, Result.andThen]
    exact h v w (by simpa [cardCells] using hown) (Below.refl _ _) ⟨rfl, rfl, rfl, Nat.le_refl _, fun _ _ _ => rfl⟩
  · refine wp_append_own w s x 35 ho base 38 i0 (.agg (cellsC noC)) 6 72 Tryd.underlying35 hi0 hz0 hz1 hz2 rfl (by decide) v n xs hs hown ad m C (cardCells l) hx (by rw [cardCells_length, hm]) hc (cards_one l) (by unfold maxLen; omega) (by omega) hbase ?_
    intro v' w' g1 g2 _
    exact h v' w' g1 ((Below.refl base w).grown g2 hbase fun k hk => (own_ltR hown hk).2) g2
theorem wpList_append_cardsR {w : World} {ops : Array Oper} {rest : List Oper} {o : Oper} {a : Act} {Q : Exit → Act → World → Prop} (hgd : Region.wanted o (yielded ops a.tmps) = true) (s x : Operand)
    (ho : o.op = .call { callee := .builtin .append, args := #[s, x], argTypes := #[35, 35] })
    (base : Nat) (v : Value) (n : Nat) (xs : List Value) (hs : a.eval s = v) (hown : w.ownsRow base 38 6 v n xs)
    (A : Option Addr) (C m : Nat) (l : List Card) (hm : l.length = m) (hA : SIn w A C l) (hx : a.eval x = .slice A m C) (h63 : n + m ≤ 1000000) (hbase : base ≤ w.heap.size)
    (h : ∀ v' w', w'.ownsRow base 38 6 v' (n + m) (xs ++ cardCells l) → Below base w w' → wpList Tryd.prog ops Q rest (a.put o.dst v') w') : wpList Tryd.prog ops Q (o :: rest) a w := by
  refine wpList_step fun K hK => ?_
  rw [if_pos hgd]
  exact wp_append_cardsR s x ho base v n xs hs hown A C m l hm hA hx h63 hbase fun v' w' h1 h2 _ => hK _ _ (h v' w' h1 h2)
theorem sort_take {l : List Card} {i : Nat} {x : Card} (h : l[i]? = some x) : sortS (l.take (i + 1)) = mergeS (sortS (l.take i)) [x] := by
  unfold sortS
  rw [List.take_add_one, h, List.foldl_append]
  rfl
/-- where a card is put -/
theorem put_at {R : List Card} (hR : Srt R) {x : Card} {p : Nat} (hp : p ≤ R.length) (h1 : ∀ a ∈ R.drop p, lessC x a = true) (h2 : p = 0 ∨ ∃ c, R[p - 1]? = some c ∧ lessC x c = false) : mergeS R [x] = R.take p ++ (x :: R.drop p) := by
  have h3 : ∀ a ∈ R.take p, lessC x a = false := by
    intro a ha
    rcases h2 with rfl | ⟨c, hc, hlt⟩
    · simp at ha
    · obtain ⟨j, hj, rfl⟩ := List.getElem_of_mem ha
      rw [List.length_take] at hj
      rw [List.getElem_take]
      have := srt_get hR (List.getElem?_eq_getElem (show j < R.length by omega)) hc (by omega)
      exact le_trans' this hlt
  conv => lhs; rw [← List.take_append_drop p R]
  exact merge_right h3 h1
/-- the list so far -/
def SB (w : World) (l : List Card) (i : Nat) (v : Value) (wr : World) : Prop := wr.ownsRow w.heap.size 38 6 v i (cardCells (sortS (l.take i))) ∧ Below w.heap.size w wr
theorem own_rowR {w : World} {base n c : Nat} {A : Option Addr} {l : List Card} (hn : l.length = n) (h : w.ownsRow base 38 6 (.slice A n c) n (cardCells l)) :
    (A = none ∧ c = 0 ∧ n = 0) ∨ ∃ g, A = some ⟨g, 0, none⟩ ∧ n ≤ c ∧ CRow w (some ⟨g, 0, none⟩) l ∧ ∀ j u, (cardCells l)[j]? = some u → w.cell? ⟨g, j, none⟩ = some u := by
  subst hn
  rcases h.2 with ⟨h1, h0⟩ | ⟨g, cap, cur, hv, hb, hg, hc, hm, hs, ht⟩
  · simp only [Value.slice.injEq] at h1
    exact .inl ⟨h1.1, h1.2.2, h0⟩
  · simp only [Value.slice.injEq] at hv
    obtain ⟨rfl, _, rfl⟩ := hv
    have hC := crow_of_cat (cat_of_own h).1
    refine .inr ⟨g, rfl, hc, hC, fun j u hu => ?_⟩
    unfold World.cell?
    simp only [hg]
    rw [← ht] at hu
    have := (List.getElem?_eq_some_iff.1 hu).1
    rw [List.length_take] at this
    rw [List.getElem?_take] at hu
    split at hu
    · simpa using hu
    · cases hu
theorem size_card (W : World) : (sizeOf 38).run Tryd.prog W = .ok 6 W := by
  obtain ⟨i0, hi0, hz0, hz1, hz2⟩ := info_parts infoCard2
  unfold sizeOf typeInfo
  simp [hi0, hz1]
theorem elem_cards : Tryd.prog.underlying 35 = some (.slice (Tryd.prog.elem 35)) := by kernel_rfl
theorem elem_card : Tryd.prog.elem 35 = 38 := by kernel_rfl
/-- both parts of an own list -/
theorem parts_of {w : World} {va : Option Addr} {vc i p : Nat} {R : List Card} (hp : p ≤ i) (hR : R.length = i) (h : (va = none ∧ vc = 0 ∧ i = 0) ∨ ∃ g, va = some ⟨g, 0, none⟩ ∧ i ≤ vc ∧ CRow w (some ⟨g, 0, none⟩) R ∧ ∀ j u, (cardCells R)[j]? = some u → w.cell? ⟨g, j, none⟩ = some u) :
    ∃ A1 C1 A2 C2, (∀ W : World, (Instr.slice 35 (.slice va i vc) none (some (.int .i64 (p : Int))) none).run Tryd.prog W = .ok (.slice A1 p C1) W) ∧
      (∀ W : World, (Instr.slice 35 (.slice va i vc) (some (.int .i64 (p : Int))) none none).run Tryd.prog W = .ok (.slice A2 (i - p) C2) W) ∧ SIn w A1 C1 (R.take p) ∧ SIn w A2 C2 (R.drop p) := by
  have e1 : p ≤ vc → ∀ W : World, (Instr.slice 35 (.slice va i vc) none (some (.int .i64 (p : Int))) none).run Tryd.prog W = .ok (sliced va 0 p vc 6) W := fun hv W => by
    rw [run_slice_h W 35 va i vc elem_cards .i64 (p : Int) (by omega) (by omega), elem_card, size_card]
    rfl
  have e2 : ∀ W : World, (Instr.slice 35 (.slice va i vc) (some (.int .i64 (p : Int))) none none).run Tryd.prog W = .ok (sliced va p i vc 6) W := fun W => by
    rw [run_slice_l W 35 va i vc elem_cards .i64 (p : Int) (by omega) (by omega), elem_card, size_card]
    rfl
  rcases h with ⟨rfl, rfl, rfl⟩ | ⟨g, rfl, hc, _, hcell⟩
  · obtain rfl : p = 0 := by omega
    have hn : R = [] := List.eq_nil_of_length_eq_zero hR
    subst hn
    exact ⟨none, 0, none, 0, fun W => e1 (Nat.le_refl _) W, fun W => e2 W, .inl ⟨rfl, rfl, rfl⟩, .inl ⟨rfl, rfl, rfl⟩⟩
  · have hadd : ∀ j, (⟨g, 0, none⟩ : Addr).add j = ⟨g, j, none⟩ := fun j => by unfold Addr.add; split <;> simp_all
    refine ⟨some ⟨g, 0, none⟩, vc, if vc = p then some ⟨g, 0, none⟩ else some ⟨g, p * 6, none⟩, vc - p, fun W => ?_, fun W => ?_, .inr ⟨_, rfl, fun j u hu => ?_⟩, ?_⟩
    · rw [e1 (by omega) W]
      unfold sliced
      by_cases h0 : vc = 0
      · rw [if_pos h0]; simp
      · rw [if_neg h0]; simp [hadd]
    · rw [e2 W]
      unfold sliced
      by_cases h0 : vc = p
      · rw [if_pos h0, if_pos h0]
      · rw [if_neg h0, if_neg h0]; simp [hadd]
    · rw [hadd]
      refine hcell j u ?_
      have h1 : cardCells R = cardCells (R.take p) ++ cardCells (R.drop p) := by rw [← cardCells_appR, List.take_append_drop]
      rw [h1]
      have := (List.getElem?_eq_some_iff.1 hu).1
      rw [List.getElem?_append_left this]
      exact hu
    · by_cases h0 : vc = p
      · rw [if_pos h0]
        have : R.drop p = [] := List.drop_of_length_le (by omega)
        rw [this]
        exact .inr ⟨_, rfl, fun j u hu => by simp [cardCells] at hu⟩
      · rw [if_neg h0]
        refine .inr ⟨_, rfl, fun j u hu => ?_⟩
        rw [show (⟨g, p * 6, none⟩ : Addr).add j = ⟨g, p * 6 + j, none⟩ by unfold Addr.add; split <;> simp_all]
        refine hcell _ u ?_
        have h1 : cardCells R = cardCells (R.take p) ++ cardCells (R.drop p) := by rw [← cardCells_appR, List.take_append_drop]
        have h2 : (cardCells (R.take p)).length = p * 6 := by rw [cardCells_length, List.length_take, Nat.min_eq_left (by omega)]
        rw [h1, List.getElem?_append_right (by omega), h2, Nat.add_sub_cancel_left]
        exact hu
set_option maxRecDepth 100000 in
set_option maxHeartbeats 40000000 in
theorem rsort_any (l : List Card) (A0 : Option Addr) (C0 : Nat) (w : World) (h60 : l.length ≤ 60) (hl : CRow w A0 l) : Calls Tryd.prog 22 #[.slice A0 l.length C0] w (SortedP w (sortS l)) := by
  obtain ⟨n, hn⟩ : ∃ n, l.length = n := ⟨_, rfl⟩
  have HN := Lib.hid hn
  have HN60 : Hid (n ≤ 60) := by rw [Hid, ← hn]; exact h60
  have HL := Lib.hid hl
  rw [hn]
  clear hn h60 hl
  go_enter Tryd.func22, Tryd.ntmps22
  go_wp2
  go_loopw [3, 4] (fun v3 v4 wr => ∃ i : Nat, v4 = .int .i64 i ∧ i ≤ n ∧ Hid (SB w l i v3 wr)) (fun _ v _ => n - (intOf v).toNat)
  case atStart => exact ⟨0, rfl, Nat.zero_le _, ⟨by simp [cardCells, sortS], .inl ⟨rfl, rfl⟩⟩, Below.refl _ _⟩
  case round =>
  obtain ⟨i, rfl, hi, hz⟩ := hrel
  obtain ⟨wo, rfl⟩ : ∃ wo : World, wo = wr := ⟨_, rfl⟩
  obtain ⟨R, hR⟩ : ∃ R, sortS (l.take i) = R := ⟨_, rfl⟩
  have hRl : R.length = i := by rw [← hR, sortS_length, List.length_take]; have := HN.out; omega
  have hRs : Srt R := by rw [← hR]; exact (sort_SS _).1
  have hzz := hz.out
  unfold SB at hzz
  rw [hR] at hzz
  obtain ⟨va, vc, hva⟩ := own_formR hzz.1
  rw [hva] at hzz
  subst hva
  by_cases hin : i < n
  · have di : decide ((i : Int) < (n : Int)) = true := decide_eq_true (by omega)
    have diN : decide (i < n) = true := decide_eq_true hin
    have bi : (i : Int) < (n : Int) := by omega
    have wi : IntKind.i64.wrap ((i : Int) + 1) = (i : Int) + 1 := IntWalk.i64_in _ (by have := HN60.out; omega)
    obtain ⟨⟨xi, xb, xs, xt, xa, xr⟩, hx⟩ : ∃ c, l[i]? = some c := ⟨_, List.getElem?_eq_getElem (by have := HN.out; omega)⟩
    obtain ⟨bx, ox, rfl, _⟩ := HL.out (by have := HN.out; omega)
    have HX6 : Hid (∀ W, Below w.heap.size w W → (W.cell? ⟨bx, ox + i * 6, none⟩ = some (.string (bs xi)) ∧ W.cell? ⟨bx, ox + i * 6 + 1, none⟩ = some (.string (bs xb)) ∧ W.cell? ⟨bx, ox + i * 6 + 2, none⟩ = some (.int .i64 xs) ∧ W.cell? ⟨bx, ox + i * 6 + 3, none⟩ = some (.int .i64 xt) ∧ W.cell? ⟨bx, ox + i * 6 + 4, none⟩ = some (.int .i64 xa) ∧ W.cell? ⟨bx, ox + i * 6 + 5, none⟩ = some (.string (bs xr)))) := fun W hb => (HL.out.below hb).sixA hx
    have HROW := Lib.hid (own_rowR hRl hzz.1)
    have HBO := Lib.hid hzz.2
    have HZ := Lib.hid hzz.1
    have HRS := Lib.hid hRs
    have HRL := Lib.hid hRl
    have HST : Hid (sortS (l.take (i + 1)) = mergeS R [⟨xi, xb, xs, xt, xa, xr⟩]) := by rw [Hid, sort_take hx, hR]
    have HI : Hid (i ≤ 60) := by have := HN60.out; unfold Hid; omega
    clear hx hz hzz hRs hRl hR
    go_wp2
    go_loopw [5] (fun v5 wq => ∃ p : Nat, v5 = .int .i64 p ∧ p ≤ i ∧ Hid ((∀ a ∈ R.drop p, lessC ⟨xi, xb, xs, xt, xa, xr⟩ a = true) ∧ Below wo.heap.size wo wq)) (fun v _ => (intOf v).toNat)
    case atStart => exact ⟨i, rfl, Nat.le_refl _, by rw [List.drop_of_length_le (by have := HRL.out; omega)]; simp, Below.refl _ _⟩
    obtain ⟨at', rfl, hat, hz⟩ := hrel
    obtain ⟨wq, rfl⟩ : ∃ wq : World, wq = wr := ⟨_, rfl⟩
    have HBQ := Lib.hid (HBO.out.trans (hz.out.2.mono HBO.out.size))
    have HDR := Lib.hid hz.out.1
    have HBWQ := Lib.hid hz.out.2
    clear hz
    obtain ⟨q, hq⟩ : ∃ q : Bool, (at' = 0 → q = false) ∧ (∀ c, R[at' - 1]? = some c → at' ≠ 0 → q = lessC ⟨xi, xb, xs, xt, xa, xr⟩ c) := by
      by_cases h0 : at' = 0
      · exact ⟨false, fun _ => rfl, fun _ _ h => absurd h0 h⟩
      · obtain ⟨c, hc⟩ : ∃ c, R[at' - 1]? = some c := ⟨_, List.getElem?_eq_getElem (by have := HRL.out; omega)⟩
        exact ⟨lessC ⟨xi, xb, xs, xt, xa, xr⟩ c, fun h => absurd h h0, fun c' hc' _ => by rw [hc] at hc'; rw [Option.some.inj hc']⟩
    have HQ := Lib.hid hq
    clear hq
    go_upto_region 6 with fail
    go_cut [28] (fun v wx => v = .bool q ∧ Below wq.heap.size wq wx)
    case first =>
      by_cases h0 : at' = 0
      · have hq0 := HQ.out.1 h0
        subst h0
        subst hq0
        go_quiet (fail)
        go_wp2
        go_meet
        exact ⟨rfl, below_drewN (Below.refl _ _) _⟩
      · obtain ⟨s1, hs1⟩ : ∃ s1, at' - 1 = s1 := ⟨_, rfl⟩
        have dp : decide (0 < (at' : Int)) = true := decide_eq_true (by omega)
        have dpN : decide (0 < at') = true := decide_eq_true (by omega)
        have ws : IntKind.i64.wrap ((at' : Int) - 1) = (s1 : Int) := by rw [IntWalk.i64_in _ (by have := HI.out; omega)]; omega
        have bs1 : (s1 : Int) < (i : Int) := by omega
        obtain ⟨⟨yi, yb, ys, yt, ya, yr⟩, hy⟩ : ∃ c, R[s1]? = some c := ⟨_, List.getElem?_eq_getElem (by have := HRL.out; omega)⟩
        have hqq := HQ.out.2 _ (by rw [hs1]; exact hy) h0
        have hrow := HROW.out
        rcases hrow with ⟨_, _, h⟩ | ⟨bo, rfl, hcap, hcr, _⟩
        · omega
        have cL := fun W => rless_any ⟨xi, xb, xs, xt, xa, xr⟩ ⟨yi, yb, ys, yt, ya, yr⟩ W
        rw [← hqq] at cL
        unfold cellsC at cL
        simp only at cL
        have FF : Hid (∀ W, Below wq.heap.size wq W → (W.cell? ⟨bx, ox + i * 6, none⟩ = some (.string (bs xi)) ∧ W.cell? ⟨bx, ox + i * 6 + 1, none⟩ = some (.string (bs xb)) ∧ W.cell? ⟨bx, ox + i * 6 + 2, none⟩ = some (.int .i64 xs) ∧ W.cell? ⟨bx, ox + i * 6 + 3, none⟩ = some (.int .i64 xt) ∧ W.cell? ⟨bx, ox + i * 6 + 4, none⟩ = some (.int .i64 xa) ∧ W.cell? ⟨bx, ox + i * 6 + 5, none⟩ = some (.string (bs xr))) ∧ (W.cell? ⟨bo, s1 * 6, none⟩ = some (.string (bs yi)) ∧ W.cell? ⟨bo, s1 * 6 + 1, none⟩ = some (.string (bs yb)) ∧ W.cell? ⟨bo, s1 * 6 + 2, none⟩ = some (.int .i64 ys) ∧ W.cell? ⟨bo, s1 * 6 + 3, none⟩ = some (.int .i64 yt) ∧ W.cell? ⟨bo, s1 * 6 + 4, none⟩ = some (.int .i64 ya) ∧ W.cell? ⟨bo, s1 * 6 + 5, none⟩ = some (.string (bs yr)))) := fun W hb => by
          have hb2 := HBWQ.out.trans (hb.mono HBWQ.out.size)
          refine ⟨HX6.out W (HBQ.out.trans (hb.mono HBQ.out.size)), ?_⟩
          have := (hcr.below hb2).sixA hy
          simpa using this
        clear hy hqq HQ HROW HX6 hcr HST HRS HZ HDR
        refine wp_region_held_drew (S := (fun W => Below wq.heap.size wq W ∧ (W.cell? ⟨bx, ox + i * 6, none⟩ = some (.string (bs xi)) ∧ W.cell? ⟨bx, ox + i * 6 + 1, none⟩ = some (.string (bs xb)) ∧ W.cell? ⟨bx, ox + i * 6 + 2, none⟩ = some (.int .i64 xs) ∧ W.cell? ⟨bx, ox + i * 6 + 3, none⟩ = some (.int .i64 xt) ∧ W.cell? ⟨bx, ox + i * 6 + 4, none⟩ = some (.int .i64 xa) ∧ W.cell? ⟨bx, ox + i * 6 + 5, none⟩ = some (.string (bs xr))) ∧ (W.cell? ⟨bo, s1 * 6, none⟩ = some (.string (bs yi)) ∧ W.cell? ⟨bo, s1 * 6 + 1, none⟩ = some (.string (bs yb)) ∧ W.cell? ⟨bo, s1 * 6 + 2, none⟩ = some (.int .i64 ys) ∧ W.cell? ⟨bo, s1 * 6 + 3, none⟩ = some (.int .i64 yt) ∧ W.cell? ⟨bo, s1 * 6 + 4, none⟩ = some (.int .i64 ya) ∧ W.cell? ⟨bo, s1 * 6 + 5, none⟩ = some (.string (bs yr))))) (by kernel_rfl) (⟨(Below.refl wq.heap.size wq).drew, FF.out _ (Below.refl wq.heap.size wq).drew⟩) (fun hHeld => ?_)
        refine wpAnyH_take (i := 0) (oi := { dst := some 15, op := Go.Op.move (Go.Operand.tmp 5), type := 3, pos := "ref.go:83", after := #[], guard := none }) (v := ?vA0) rfl (by kernel_rfl) (by kernel_rfl) (by kernel_rfl) (fun _ _ _ h => h) (Or.inl ⟨by rfl, ?yA0⟩) (by assumption) ?_
        case yA0 => (intro wX hSw; (try dsimp only at hSw); go_simp <;> with_reducible rfl)
        try simp only [Act.put, List.setIfInBounds_toArray, List.set_cons_zero, List.set_cons_succ]
        refine wpAnyH_take (i := 1) (oi := { dst := some 16, op := Go.Op.binOp Go.BinOp.gtr 3 (Go.Operand.tmp 15) (Go.Operand.const (Go.Value.int Go.IntKind.i64 0)) 3, type := 4, pos := "ref.go:83", after := #[{ on := 0, ground := Go.Ground.data }], guard := none }) (v := ?vA1) rfl (by kernel_rfl) (by kernel_rfl) (by kernel_rfl) (fun _ _ _ h => h) (Or.inl ⟨by rfl, ?yA1⟩) (by assumption) ?_
        case yA1 => (intro wX hSw; (try dsimp only at hSw); go_simp <;> with_reducible rfl)
        try simp only [Act.put, List.setIfInBounds_toArray, List.set_cons_zero, List.set_cons_succ]
        refine wpAnyH_take (i := 2) (oi := { dst := some 17, op := Go.Op.move (Go.Operand.tmp 16), type := 4, pos := "ref.go:83", after := #[{ on := 1, ground := Go.Ground.data }], guard := none }) (v := ?vA2) rfl (by kernel_rfl) (by kernel_rfl) (by kernel_rfl) (fun _ _ _ h => h) (Or.inl ⟨by rfl, ?yA2⟩) (by assumption) ?_
        case yA2 => (intro wX hSw; (try dsimp only at hSw); go_simp <;> with_reducible rfl)
        try simp only [Act.put, List.setIfInBounds_toArray, List.set_cons_zero, List.set_cons_succ]
        refine wpAnyH_take (i := 3) (oi := { dst := some 18, op := Go.Op.move (Go.Operand.tmp 0), type := 35, pos := "ref.go:83", after := #[{ on := 2, ground := Go.Ground.guard }], guard := some (2, true) }) (v := ?vA3) rfl (by kernel_rfl) (by kernel_rfl) (by kernel_rfl) (fun _ _ _ h => h) (Or.inl ⟨by rfl, ?yA3⟩) (by assumption) ?_
        case yA3 => (intro wX hSw; (try dsimp only at hSw); go_simp <;> with_reducible rfl)
        try simp only [Act.put, List.setIfInBounds_toArray, List.set_cons_zero, List.set_cons_succ]
        refine wpAnyH_take (i := 4) (oi := { dst := some 19, op := Go.Op.move (Go.Operand.tmp 4), type := 3, pos := "ref.go:83", after := #[{ on := 2, ground := Go.Ground.guard }], guard := some (2, true) }) (v := ?vA4) rfl (by kernel_rfl) (by kernel_rfl) (by kernel_rfl) (fun _ _ _ h => h) (Or.inl ⟨by rfl, ?yA4⟩) (by assumption) ?_
        case yA4 => (intro wX hSw; (try dsimp only at hSw); go_simp <;> with_reducible rfl)
        try simp only [Act.put, List.setIfInBounds_toArray, List.set_cons_zero, List.set_cons_succ]
        refine wpAnyH_take (i := 5) (oi := { dst := some 20, op := Go.Op.indexAddr 35 (Go.Operand.tmp 18) (Go.Operand.tmp 19), type := 0, pos := "ref.go:83", after := #[{ on := 3, ground := Go.Ground.data }, { on := 4, ground := Go.Ground.data }, { on := 2, ground := Go.Ground.guard }], guard := some (2, true) }) (v := ?vA5) rfl (by kernel_rfl) (by kernel_rfl) (by kernel_rfl) (fun _ _ _ h => h) (Or.inl ⟨by rfl, ?yA5⟩) (by assumption) ?_
        case yA5 => (intro wX hSw; (try dsimp only at hSw); go_simp <;> with_reducible rfl)
        try simp only [Act.put, List.setIfInBounds_toArray, List.set_cons_zero, List.set_cons_succ]
        refine wpAnyH_take (i := 6) (oi := { dst := some 21, op := Go.Op.load 38 (Go.Operand.tmp 20), type := 38, pos := "ref.go:83", after := #[{ on := 5, ground := Go.Ground.data }, { on := 2, ground := Go.Ground.guard }], guard := some (2, true) }) (v := ?vA6) rfl (by kernel_rfl) (by kernel_rfl) (by kernel_rfl) (fun _ _ _ h => h) (Or.inl ⟨by rfl, ?yA6⟩) (by assumption) ?_
        case yA6 => (intro wX hSw; (try dsimp only at hSw); go_simp <;> with_reducible rfl)
        try simp only [Act.put, List.setIfInBounds_toArray, List.set_cons_zero, List.set_cons_succ]
        refine wpAnyH_take (i := 7) (oi := { dst := some 22, op := Go.Op.move (Go.Operand.tmp 3), type := 35, pos := "ref.go:83", after := #[{ on := 2, ground := Go.Ground.guard }], guard := some (2, true) }) (v := ?vA7) rfl (by kernel_rfl) (by kernel_rfl) (by kernel_rfl) (fun _ _ _ h => h) (Or.inl ⟨by rfl, ?yA7⟩) (by assumption) ?_
        case yA7 => (intro wX hSw; (try dsimp only at hSw); go_simp <;> with_reducible rfl)
        try simp only [Act.put, List.setIfInBounds_toArray, List.set_cons_zero, List.set_cons_succ]
        refine wpAnyH_take (i := 8) (oi := { dst := some 23, op := Go.Op.move (Go.Operand.tmp 5), type := 3, pos := "ref.go:83", after := #[{ on := 2, ground := Go.Ground.guard }], guard := some (2, true) }) (v := ?vA8) rfl (by kernel_rfl) (by kernel_rfl) (by kernel_rfl) (fun _ _ _ h => h) (Or.inl ⟨by rfl, ?yA8⟩) (by assumption) ?_
        case yA8 => (intro wX hSw; (try dsimp only at hSw); go_simp <;> with_reducible rfl)
        try simp only [Act.put, List.setIfInBounds_toArray, List.set_cons_zero, List.set_cons_succ]
        refine wpAnyH_take (i := 9) (oi := { dst := some 24, op := Go.Op.binOp Go.BinOp.sub 3 (Go.Operand.tmp 23) (Go.Operand.const (Go.Value.int Go.IntKind.i64 1)) 3, type := 3, pos := "ref.go:83", after := #[{ on := 8, ground := Go.Ground.data }, { on := 2, ground := Go.Ground.guard }], guard := some (2, true) }) (v := ?vA9) rfl (by kernel_rfl) (by kernel_rfl) (by kernel_rfl) (fun _ _ _ h => h) (Or.inl ⟨by rfl, ?yA9⟩) (by assumption) ?_
        case yA9 => (intro wX hSw; (try dsimp only at hSw); go_simp <;> with_reducible rfl)
        try simp only [Act.put, List.setIfInBounds_toArray, List.set_cons_zero, List.set_cons_succ]
        refine wpAnyH_take (i := 10) (oi := { dst := some 25, op := Go.Op.indexAddr 35 (Go.Operand.tmp 22) (Go.Operand.tmp 24), type := 0, pos := "ref.go:83", after := #[{ on := 7, ground := Go.Ground.data }, { on := 9, ground := Go.Ground.data }, { on := 2, ground := Go.Ground.guard }], guard := some (2, true) }) (v := ?vA10) rfl (by kernel_rfl) (by kernel_rfl) (by kernel_rfl) (fun _ _ _ h => h) (Or.inl ⟨by rfl, ?yA10⟩) (by assumption) ?_
        case yA10 => (intro wX hSw; (try dsimp only at hSw); go_simp <;> with_reducible rfl)
        try simp only [Act.put, List.setIfInBounds_toArray, List.set_cons_zero, List.set_cons_succ]
        refine wpAnyH_take (i := 11) (oi := { dst := some 26, op := Go.Op.load 38 (Go.Operand.tmp 25), type := 38, pos := "ref.go:83", after := #[{ on := 10, ground := Go.Ground.data }, { on := 2, ground := Go.Ground.guard }], guard := some (2, true) }) (v := ?vA11) rfl (by kernel_rfl) (by kernel_rfl) (by kernel_rfl) (fun _ _ _ h => h) (Or.inl ⟨by rfl, ?yA11⟩) (by assumption) ?_
        case yA11 => (intro wX hSw; (try dsimp only at hSw); go_simp <;> with_reducible rfl)
        try simp only [Act.put, List.setIfInBounds_toArray, List.set_cons_zero, List.set_cons_succ]
        refine wpAnyH_ready (rs := [12]) (by kernel_rfl) (by simp) (AllReadyH.cons (o := { dst := some 27, op := Go.Op.call { callee := Go.Callee.value (Go.Operand.func 17), args := #[Go.Operand.tmp 21, Go.Operand.tmp 26], argTypes := #[38, 38] }, type := 4, pos := "ref.go:83", after := #[{ on := 6, ground := Go.Ground.data }, { on := 11, ground := Go.Ground.data }, { on := 2, ground := Go.Ground.chain }, { on := 2, ground := Go.Ground.guard }], guard := some (2, true) }) rfl (fun K hK => ?_) AllReadyH.nil)
        (go_simp; go_at_call 17; refine (cL _).mono ?_; rintro e wc0 ⟨rfl, hbc0⟩)
        refine hK.out _ _ (⟨((Below.refl wq.heap.size wq).drew).trans (hbc0.mono ((Below.refl wq.heap.size wq).drew).size), FF.out _ (((Below.refl wq.heap.size wq).drew).trans (hbc0.mono ((Below.refl wq.heap.size wq).drew).size))⟩) (fun hHeld => ?_)
        clear hK K
        try simp only [Act.put, List.setIfInBounds_toArray, List.set_cons_zero, List.set_cons_succ]
        refine wpAnyH_take (i := 13) (oi := { dst := some 28, op := Go.Op.pick (Go.Operand.tmp 17) (Go.Operand.tmp 27) (Go.Operand.const (Go.Value.bool false)), type := 4, pos := "ref.go:83", after := #[{ on := 2, ground := Go.Ground.data }, { on := 12, ground := Go.Ground.data }], guard := none }) (v := ?vA13) rfl (by kernel_rfl) (by kernel_rfl) (by kernel_rfl) (fun _ _ _ h => h) (Or.inl ⟨by rfl, ?yA13⟩) (by assumption) ?_
        case yA13 => (intro wX hSw; (try dsimp only at hSw); go_simp <;> with_reducible rfl)
        try simp only [Act.put, List.setIfInBounds_toArray, List.set_cons_zero, List.set_cons_succ]
        refine wpAnyH_done (by kernel_rfl) ?_ _
        go_wp2
        go_meet
        exact ⟨rfl, hHeld.1⟩
    case rest =>
    obtain ⟨rfl, hb6⟩ := hcut
    cases q with
    | true =>
      have h0 : at' ≠ 0 := by intro e; have := HQ.out.1 e; cases this
      have wa : IntKind.i64.wrap ((at' : Int) - 1) = ((at' - 1 : Nat) : Int) := by rw [IntWalk.i64_in _ (by have := HI.out; omega)]; omega
      have HN2 : Hid ((∀ a ∈ R.drop (at' - 1), lessC ⟨xi, xb, xs, xt, xa, xr⟩ a = true) ∧ Below wo.heap.size wo wc) := by
        refine ⟨fun a ha => ?_, HBWQ.out.trans (hb6.mono HBWQ.out.size)⟩
        obtain ⟨c, hc⟩ : ∃ c, R[at' - 1]? = some c := ⟨_, List.getElem?_eq_getElem (by have := HRL.out; omega)⟩
        have hlt := HQ.out.2 c hc h0
        obtain ⟨hj, hce⟩ := List.getElem?_eq_some_iff.1 hc
        rw [List.drop_eq_getElem_cons hj, hce, show at' - 1 + 1 = at' by omega] at ha
        rcases List.mem_cons.1 ha with rfl | ha
        · exact hlt.symm
        · exact HDR.out a ha
      generalize hm1 : at' - 1 = p1 at *
      clear hb6
      go_wp2
      go_roundw
      case rel => exact ⟨p1, rfl, by omega, HN2⟩
      case measure => simp [intOf]; omega
    | false =>
    have HPUT : Hid (mergeS R [⟨xi, xb, xs, xt, xa, xr⟩] = R.take at' ++ (⟨xi, xb, xs, xt, xa, xr⟩ :: R.drop at')) := put_at HRS.out (by have := HRL.out; omega) HDR.out (by
      by_cases h0 : at' = 0
      · exact .inl h0
      · obtain ⟨c, hc⟩ : ∃ c, R[at' - 1]? = some c := ⟨_, List.getElem?_eq_getElem (by have := HRL.out; omega)⟩
        exact .inr ⟨c, hc, (HQ.out.2 c hc h0).symm⟩)
    have HBC := Lib.hid (HBQ.out.trans (hb6.mono HBQ.out.size))
    have HBWC := Lib.hid (HBWQ.out.trans (hb6.mono HBWQ.out.size))
    clear hb6 HBQ HBWQ HQ HDR HRS
    generalize wc = wq at *
    obtain ⟨A1, C1, A2, C2, hs1, hs2, hi1, hi2⟩ := parts_of hat HRL.out HROW.out
    obtain ⟨m2, hm2⟩ : ∃ m, i - at' = m := ⟨_, rfl⟩
    rw [hm2] at hs2
    have HM2 : Hid (at' + m2 = i) := by unfold Hid; omega
    have HL1 : Hid ((R.take at').length = at') := by rw [Hid, List.length_take]; have := HRL.out; omega
    have HL2 : Hid ((R.drop at').length = m2) := by rw [Hid, List.length_drop]; have := HRL.out; omega
    generalize R.take at' = T1 at *
    generalize R.drop at' = T2 at *
    have HS1 : Hid (∀ W, Below wo.heap.size wo W → SIn W A1 C1 T1) := fun W hb => hi1.belowR hb
    have HS2 : Hid (∀ W, Below wo.heap.size wo W → SIn W A2 C2 T2) := fun W hb => hi2.belowR hb
    have HWQ := Lib.hid HBWC.out.size
    have HOW := Lib.hid (own_newR wq)
    clear hi1 hi2 hm2 HROW HZ
    have HBR := Lib.hid (HBWC.out.alloc HBWC.out.size (.cells #[] 38))
    go_wp2_with (at_builtin; go_loud (refine wpList_append_cardsR rfl _ _ rfl wq.heap.size _ 0 [] rfl HOW.out A2 C2 m2 T2 HL2.out (HS2.out _ HBR.out) rfl ?f1 ?f2 ?_))
    case f1 => have := HM2.out; have := HI.out; omega
    case f2 => simp
    intro v6 w6 hown6 hb6
    (try simp only [Nat.zero_add, List.nil_append] at hown6)
    obtain ⟨A6, C6, hv6⟩ := own_formR hown6
    subst hv6
    have hbq6 : Below wq.heap.size wq w6 := ((Below.refl _ wq).alloc (Nat.le_refl _) _).trans hb6
    have HR6 : Hid (SIn w6 A6 C6 T2) := by
      rcases own_rowR HL2.out hown6 with ⟨h1, h2, h3⟩ | ⟨g, h1, _, _, h4⟩
      · exact .inl ⟨h1, h2, List.eq_nil_of_length_eq_zero (by rw [HL2.out]; exact h3)⟩
      · exact .inr ⟨_, h1, fun j u hu => by
          rw [show (⟨g, 0, none⟩ : Addr).add j = ⟨g, j, none⟩ by unfold Addr.add; split <;> simp_all]
          exact h4 j u hu⟩
    have HBC6 := Lib.hid (HBC.out.trans (hbq6.mono HBC.out.size))
    have HBW6 := Lib.hid (HBWC.out.trans (hbq6.mono HBWC.out.size))
    clear hown6 hb6 hbq6 HOW HBR HBC HBWC HWQ
    obtain ⟨wq, hwq⟩ : ∃ wq, w6 = wq := ⟨_, rfl⟩
    subst hwq
    have HS1' : Hid (∀ W, Below w6.heap.size w6 W → SIn W A1 C1 T1) := fun W hb => HS1.out W (HBW6.out.trans (hb.mono HBW6.out.size))
    have FF : Hid (∀ W, Below w6.heap.size w6 W → (W.cell? ⟨bx, ox + i * 6, none⟩ = some (.string (bs xi)) ∧ W.cell? ⟨bx, ox + i * 6 + 1, none⟩ = some (.string (bs xb)) ∧ W.cell? ⟨bx, ox + i * 6 + 2, none⟩ = some (.int .i64 xs) ∧ W.cell? ⟨bx, ox + i * 6 + 3, none⟩ = some (.int .i64 xt) ∧ W.cell? ⟨bx, ox + i * 6 + 4, none⟩ = some (.int .i64 xa) ∧ W.cell? ⟨bx, ox + i * 6 + 5, none⟩ = some (.string (bs xr)))) := fun W hb => HX6.out W (HBC6.out.trans (hb.mono HBC6.out.size))
    clear HS1 HS2
    have HS1 := HS1'
    clear HS1'
    go_upto_region 9 with fail
    have HB := Lib.hid (Below.refl w6.heap.size w6).drew
    refine wp_region_held_drew (S := (fun W => Below w6.heap.size w6 W ∧ (W.cell? ⟨bx, ox + i * 6, none⟩ = some (.string (bs xi)) ∧ W.cell? ⟨bx, ox + i * 6 + 1, none⟩ = some (.string (bs xb)) ∧ W.cell? ⟨bx, ox + i * 6 + 2, none⟩ = some (.int .i64 xs) ∧ W.cell? ⟨bx, ox + i * 6 + 3, none⟩ = some (.int .i64 xt) ∧ W.cell? ⟨bx, ox + i * 6 + 4, none⟩ = some (.int .i64 xa) ∧ W.cell? ⟨bx, ox + i * 6 + 5, none⟩ = some (.string (bs xr))))) (by kernel_rfl) (⟨(Below.refl w6.heap.size w6).drew, FF.out _ (Below.refl w6.heap.size w6).drew⟩) (fun hHeld => ?_)
    refine wpAnyH_take (i := 1) (oi := { dst := some 37, op := Go.Op.move (Go.Operand.tmp 3), type := 35, pos := "ref.go:87", after := #[], guard := none }) (v := ?vT1_1) rfl (by kernel_rfl) (by kernel_rfl) (by kernel_rfl) (fun _ _ _ h => h) (Or.inl ⟨by rfl, ?yT1_1⟩) (by assumption) ?_
    case yT1_1 => (intro wX hSw; (try dsimp only at hSw); go_simp <;> with_reducible rfl)
    try simp only [Act.put, List.setIfInBounds_toArray, List.set_cons_zero, List.set_cons_succ]
    refine wpAnyH_take (i := 2) (oi := { dst := some 38, op := Go.Op.move (Go.Operand.tmp 5), type := 3, pos := "ref.go:87", after := #[], guard := none }) (v := ?vT1_2) rfl (by kernel_rfl) (by kernel_rfl) (by kernel_rfl) (fun _ _ _ h => h) (Or.inl ⟨by rfl, ?yT1_2⟩) (by assumption) ?_
    case yT1_2 => (intro wX hSw; (try dsimp only at hSw); go_simp <;> with_reducible rfl)
    try simp only [Act.put, List.setIfInBounds_toArray, List.set_cons_zero, List.set_cons_succ]
    refine wpAnyH_take (i := 3) (oi := { dst := some 39, op := Go.Op.slice 35 (Go.Operand.tmp 37) none (some (Go.Operand.tmp 38)) none, type := 35, pos := "ref.go:87", after := #[{ on := 1, ground := Go.Ground.data }, { on := 2, ground := Go.Ground.data }], guard := none }) (v := ?vT1_3) rfl (by kernel_rfl) (by kernel_rfl) (by kernel_rfl) (fun _ _ _ h => h) (Or.inl ⟨by rfl, ?yT1_3⟩) (by assumption) ?_
    case yT1_3 => (intro wX hSw; (try dsimp only at hSw); go_simp <;> with_reducible rfl)
    try simp only [Act.put, List.setIfInBounds_toArray, List.set_cons_zero, List.set_cons_succ]
    refine wpAnyH_take (i := 5) (oi := { dst := some 41, op := Go.Op.move (Go.Operand.tmp 0), type := 35, pos := "ref.go:87", after := #[], guard := none }) (v := ?vT1_5) rfl (by kernel_rfl) (by kernel_rfl) (by kernel_rfl) (fun _ _ _ h => h) (Or.inl ⟨by rfl, ?yT1_5⟩) (by assumption) ?_
    case yT1_5 => (intro wX hSw; (try dsimp only at hSw); go_simp <;> with_reducible rfl)
    try simp only [Act.put, List.setIfInBounds_toArray, List.set_cons_zero, List.set_cons_succ]
    refine wpAnyH_take (i := 6) (oi := { dst := some 42, op := Go.Op.move (Go.Operand.tmp 4), type := 3, pos := "ref.go:87", after := #[], guard := none }) (v := ?vT1_6) rfl (by kernel_rfl) (by kernel_rfl) (by kernel_rfl) (fun _ _ _ h => h) (Or.inl ⟨by rfl, ?yT1_6⟩) (by assumption) ?_
    case yT1_6 => (intro wX hSw; (try dsimp only at hSw); go_simp <;> with_reducible rfl)
    try simp only [Act.put, List.setIfInBounds_toArray, List.set_cons_zero, List.set_cons_succ]
    refine wpAnyH_take (i := 7) (oi := { dst := some 43, op := Go.Op.indexAddr 35 (Go.Operand.tmp 41) (Go.Operand.tmp 42), type := 0, pos := "ref.go:87", after := #[{ on := 5, ground := Go.Ground.data }, { on := 6, ground := Go.Ground.data }], guard := none }) (v := ?vT1_7) rfl (by kernel_rfl) (by kernel_rfl) (by kernel_rfl) (fun _ _ _ h => h) (Or.inl ⟨by rfl, ?yT1_7⟩) (by assumption) ?_
    case yT1_7 => (intro wX hSw; (try dsimp only at hSw); go_simp <;> with_reducible rfl)
    try simp only [Act.put, List.setIfInBounds_toArray, List.set_cons_zero, List.set_cons_succ]
    refine wpAnyH_take (i := 8) (oi := { dst := some 44, op := Go.Op.load 38 (Go.Operand.tmp 43), type := 38, pos := "ref.go:87", after := #[{ on := 7, ground := Go.Ground.data }], guard := none }) (v := ?vT1_8) rfl (by kernel_rfl) (by kernel_rfl) (by kernel_rfl) (fun _ _ _ h => h) (Or.inl ⟨by rfl, ?yT1_8⟩) (by assumption) ?_
    case yT1_8 => (intro wX hSw; (try dsimp only at hSw); go_simp <;> with_reducible rfl)
    try simp only [Act.put, List.setIfInBounds_toArray, List.set_cons_zero, List.set_cons_succ]
    refine wpAnyH_take (i := 11) (oi := { dst := some 47, op := Go.Op.move (Go.Operand.tmp 6), type := 35, pos := "ref.go:87", after := #[], guard := none }) (v := ?vT1_11) rfl (by kernel_rfl) (by kernel_rfl) (by kernel_rfl) (fun _ _ _ h => h) (Or.inl ⟨by rfl, ?yT1_11⟩) (by assumption) ?_
    case yT1_11 => (intro wX hSw; (try dsimp only at hSw); go_simp <;> with_reducible rfl)
    try simp only [Act.put, List.setIfInBounds_toArray, List.set_cons_zero, List.set_cons_succ]
    refine wpAnyH_ready (rs := [0, 9]) (by kernel_rfl) (by simp) (AllReadyH.cons (o := { dst := some 36, op := Go.Op.buildSlice 35 0 #[], type := 35, pos := "ref.go:87", after := #[], guard := none }) rfl (fun K hK => ?_) (AllReadyH.cons (o := { dst := some 45, op := Go.Op.buildSlice 35 1 #[(0, Go.Operand.tmp 44)], type := 35, pos := "ref.go:87", after := #[{ on := 8, ground := Go.Ground.data }], guard := none }) rfl (fun K hK => ?_) AllReadyH.nil))
    · go_simp
      have HA := Lib.hid (own_monoR (own_newR w6.drew) HB.out.size)
      skip
      replace HB := Lib.hid (HB.out.alloc HB.out.size (.cells #[] 38))
      refine hK.out _ _ (⟨HB.out, FF.out _ HB.out⟩) (fun hHeld => ?_)
      clear hK K
      try simp only [Act.put, List.setIfInBounds_toArray, List.set_cons_zero, List.set_cons_succ]
      refine wpAnyH_ready (rs := [4, 9]) (by kernel_rfl) (by simp) (AllReadyH.cons (o := { dst := some 40, op := Go.Op.call { callee := Go.Callee.builtin Go.Builtin.append, args := #[Go.Operand.tmp 36, Go.Operand.tmp 39], argTypes := #[35, 35] }, type := 35, pos := "ref.go:87", after := #[{ on := 0, ground := Go.Ground.data }, { on := 3, ground := Go.Ground.data }], guard := none }) rfl (fun K hK => ?_) (AllReadyH.cons (o := { dst := some 45, op := Go.Op.buildSlice 35 1 #[(0, Go.Operand.tmp 44)], type := 35, pos := "ref.go:87", after := #[{ on := 8, ground := Go.Ground.data }], guard := none }) rfl (fun K hK => ?_) AllReadyH.nil))
      · rw [if_pos (by rfl)]
        refine wp_append_cardsR _ _ rfl w6.heap.size (.slice (some ⟨w6.heap.size, 0, none⟩) 0 0) 0 [] rfl HA.out _ _ at' T1 HL1.out (HS1.out _ HB.out) rfl (by have := HI.out; omega) HB.out.size ?_
        intro v4 w4 hown4 hb4 hg4
        (try simp only [Nat.zero_add, List.nil_append] at hown4)
        replace HB := Lib.hid (HB.out.trans hb4)
        replace HA := Lib.hid hown4
        clear hown4 hb4 hg4
        obtain ⟨a4, c4, hv4⟩ := own_formR HA.out
        subst hv4
        refine hK.out _ _ (⟨HB.out, FF.out _ HB.out⟩) (fun hHeld => ?_)
        clear hK K
        try simp only [Act.put, List.setIfInBounds_toArray, List.set_cons_zero, List.set_cons_succ]
        refine wpAnyH_ready (rs := [9]) (by kernel_rfl) (by simp) (AllReadyH.cons (o := { dst := some 45, op := Go.Op.buildSlice 35 1 #[(0, Go.Operand.tmp 44)], type := 35, pos := "ref.go:87", after := #[{ on := 8, ground := Go.Ground.data }], guard := none }) rfl (fun K hK => ?_) AllReadyH.nil)
        go_simp
        have HX := Lib.hid (heap_alloc_new w4 (.cells #[.string (bs xi), .string (bs xb), .int .i64 xs, .int .i64 xt, .int .i64 xa, .string (bs xr)] 38))
        replace HA := Lib.hid (HA.out.alloc (.cells #[.string (bs xi), .string (bs xb), .int .i64 xs, .int .i64 xt, .int .i64 xa, .string (bs xr)] 38))
        replace HB := Lib.hid (HB.out.alloc HB.out.size (.cells #[.string (bs xi), .string (bs xb), .int .i64 xs, .int .i64 xt, .int .i64 xa, .string (bs xr)] 38))
        refine hK.out _ _ (⟨HB.out, FF.out _ HB.out⟩) (fun hHeld => ?_)
        clear hK K
        try simp only [Act.put, List.setIfInBounds_toArray, List.set_cons_zero, List.set_cons_succ]
        refine wpAnyH_ready (rs := [10]) (by kernel_rfl) (by simp) (AllReadyH.cons (o := { dst := some 46, op := Go.Op.call { callee := Go.Callee.builtin Go.Builtin.append, args := #[Go.Operand.tmp 40, Go.Operand.tmp 45], argTypes := #[35, 35] }, type := 35, pos := "ref.go:87", after := #[{ on := 4, ground := Go.Ground.data }, { on := 9, ground := Go.Ground.data }, { on := 4, ground := Go.Ground.chain }], guard := none }) rfl (fun K hK => ?_) AllReadyH.nil)
        rw [if_pos (by rfl)]
        refine wp_append_cardsR _ _ rfl w6.heap.size _ at' (cardCells T1) rfl HA.out _ 1 1 [⟨xi, xb, xs, xt, xa, xr⟩] rfl (sin_box HX.out) rfl (by have := HI.out; omega) HB.out.size ?_
        intro v5 w5 hown5 hb5 hg5
        replace HB := Lib.hid (HB.out.trans hb5)
        replace HA := Lib.hid hown5
        clear hown5 hb5 hg5 HX
        obtain ⟨a5, c5, hv5⟩ := own_formR HA.out
        subst hv5
        refine hK.out _ _ (⟨HB.out, FF.out _ HB.out⟩) (fun hHeld => ?_)
        clear hK K
        try simp only [Act.put, List.setIfInBounds_toArray, List.set_cons_zero, List.set_cons_succ]
        refine wpAnyH_ready (rs := [12]) (by kernel_rfl) (by simp) (AllReadyH.cons (o := { dst := some 48, op := Go.Op.call { callee := Go.Callee.builtin Go.Builtin.append, args := #[Go.Operand.tmp 46, Go.Operand.tmp 47], argTypes := #[35, 35] }, type := 35, pos := "ref.go:87", after := #[{ on := 10, ground := Go.Ground.data }, { on := 11, ground := Go.Ground.data }, { on := 10, ground := Go.Ground.chain }], guard := none }) rfl (fun K hK => ?_) AllReadyH.nil)
        rw [if_pos (by rfl)]
        refine wp_append_cardsR _ _ rfl w6.heap.size _ (at' + 1) _ rfl HA.out A6 C6 m2 T2 HL2.out (SIn.belowR HR6.out HB.out) rfl (by have := HI.out; have := HM2.out; omega) HB.out.size ?_
        intro v7 w7 hown7 hb7 hg7
        replace HB := Lib.hid (HB.out.trans hb7)
        replace HA := Lib.hid hown7
        clear hown7 hb7 hg7
        refine hK.out _ _ (⟨HB.out, FF.out _ HB.out⟩) (fun hHeld => ?_)
        clear hK K
        try simp only [Act.put, List.setIfInBounds_toArray, List.set_cons_zero, List.set_cons_succ]
        refine wpAnyH_take (i := 13) (oi := { dst := some 3, op := Go.Op.assign (Go.Operand.tmp 48), type := 35, pos := "ref.go:87", after := #[{ on := 12, ground := Go.Ground.data }, { on := 12, ground := Go.Ground.chain }, { on := 0, ground := Go.Ground.phase }, { on := 1, ground := Go.Ground.phase }, { on := 2, ground := Go.Ground.phase }, { on := 3, ground := Go.Ground.phase }, { on := 4, ground := Go.Ground.phase }, { on := 5, ground := Go.Ground.phase }, { on := 6, ground := Go.Ground.phase }, { on := 7, ground := Go.Ground.phase }, { on := 8, ground := Go.Ground.phase }, { on := 9, ground := Go.Ground.phase }, { on := 10, ground := Go.Ground.phase }, { on := 11, ground := Go.Ground.phase }, { on := 12, ground := Go.Ground.phase }], guard := none }) (v := ?vT6_13) rfl (by kernel_rfl) (by kernel_rfl) (by kernel_rfl) (fun _ _ _ h => h) (Or.inl ⟨by rfl, ?yT6_13⟩) (by assumption) ?_
        case yT6_13 => (intro wX hSw; (try dsimp only at hSw); go_simp <;> with_reducible rfl)
        try simp only [Act.put, List.setIfInBounds_toArray, List.set_cons_zero, List.set_cons_succ]
        refine wpAnyH_done (by kernel_rfl) ?_ _
        obtain ⟨a7, c7, hv7⟩ := own_formR HA.out
        have HN3 : Hid (SB w l (i + 1) v7 w7) := by
          refine ⟨?_, HBC6.out.trans (HB.out.mono HBC6.out.size)⟩
          rw [HST.out, HPUT.out]
          have e1 : cardCells T1 ++ cardCells [⟨xi, xb, xs, xt, xa, xr⟩] ++ cardCells T2 = cardCells (T1 ++ (⟨xi, xb, xs, xt, xa, xr⟩ :: T2)) := by rw [← cardCells_appR, ← cardCells_appR]; simp
          have e2 : at' + 1 + m2 = i + 1 := by have := HM2.out; omega
          have := HA.out
          rw [e1, e2] at this
          exact own_monoR this (HBC6.out.size)
        clear HA HB HPUT HST hHeld hv7
        go_wp2
        go_roundw
        case rel => exact ⟨i + 1, by go_num, hin, HN3⟩
        case measure => simp [intOf]; omega
      · go_simp
        have HX : Hid (((w6.drew.alloc (.cells #[] 38)).alloc (.cells #[.string (bs xi), .string (bs xb), .int .i64 xs, .int .i64 xt, .int .i64 xa, .string (bs xr)] 38)).heap[w6.heap.size + 1]? = some (.cells #[.string (bs xi), .string (bs xb), .int .i64 xs, .int .i64 xt, .int .i64 xa, .string (bs xr)] 38 (0, 0))) := by have h9 := heap_alloc_new (w6.drew.alloc (.cells #[] 38)) (.cells #[.string (bs xi), .string (bs xb), .int .i64 xs, .int .i64 xt, .int .i64 xa, .string (bs xr)] 38); rw [World.size_alloc] at h9; exact h9
        replace HA := Lib.hid (HA.out.alloc (.cells #[.string (bs xi), .string (bs xb), .int .i64 xs, .int .i64 xt, .int .i64 xa, .string (bs xr)] 38))
        replace HB := Lib.hid (HB.out.alloc HB.out.size (.cells #[.string (bs xi), .string (bs xb), .int .i64 xs, .int .i64 xt, .int .i64 xa, .string (bs xr)] 38))
        refine hK.out _ _ (⟨HB.out, FF.out _ HB.out⟩) (fun hHeld => ?_)
        clear hK K
        try simp only [Act.put, List.setIfInBounds_toArray, List.set_cons_zero, List.set_cons_succ]
        refine wpAnyH_ready (rs := [4]) (by kernel_rfl) (by simp) (AllReadyH.cons (o := { dst := some 40, op := Go.Op.call { callee := Go.Callee.builtin Go.Builtin.append, args := #[Go.Operand.tmp 36, Go.Operand.tmp 39], argTypes := #[35, 35] }, type := 35, pos := "ref.go:87", after := #[{ on := 0, ground := Go.Ground.data }, { on := 3, ground := Go.Ground.data }], guard := none }) rfl (fun K hK => ?_) AllReadyH.nil)
        rw [if_pos (by rfl)]
        refine wp_append_cardsR _ _ rfl w6.heap.size (.slice (some ⟨w6.heap.size, 0, none⟩) 0 0) 0 [] rfl HA.out _ _ at' T1 HL1.out (HS1.out _ HB.out) rfl (by have := HI.out; omega) HB.out.size ?_
        intro v4 w4 hown4 hb4 hg4
        (try simp only [Nat.zero_add, List.nil_append] at hown4)
        replace HX := Lib.hid ((hg4.block _ (Array.getElem?_eq_some_iff.1 HX.out).1 (by simp [Value.ownBlock])).trans HX.out)
        replace HB := Lib.hid (HB.out.trans hb4)
        replace HA := Lib.hid hown4
        clear hown4 hb4 hg4
        obtain ⟨a4, c4, hv4⟩ := own_formR HA.out
        subst hv4
        refine hK.out _ _ (⟨HB.out, FF.out _ HB.out⟩) (fun hHeld => ?_)
        clear hK K
        try simp only [Act.put, List.setIfInBounds_toArray, List.set_cons_zero, List.set_cons_succ]
        refine wpAnyH_ready (rs := [10]) (by kernel_rfl) (by simp) (AllReadyH.cons (o := { dst := some 46, op := Go.Op.call { callee := Go.Callee.builtin Go.Builtin.append, args := #[Go.Operand.tmp 40, Go.Operand.tmp 45], argTypes := #[35, 35] }, type := 35, pos := "ref.go:87", after := #[{ on := 4, ground := Go.Ground.data }, { on := 9, ground := Go.Ground.data }, { on := 4, ground := Go.Ground.chain }], guard := none }) rfl (fun K hK => ?_) AllReadyH.nil)
        rw [if_pos (by rfl)]
        refine wp_append_cardsR _ _ rfl w6.heap.size _ at' (cardCells T1) rfl HA.out _ 1 1 [⟨xi, xb, xs, xt, xa, xr⟩] rfl (sin_box HX.out) rfl (by have := HI.out; omega) HB.out.size ?_
        intro v5 w5 hown5 hb5 hg5
        replace HB := Lib.hid (HB.out.trans hb5)
        replace HA := Lib.hid hown5
        clear hown5 hb5 hg5 HX
        obtain ⟨a5, c5, hv5⟩ := own_formR HA.out
        subst hv5
        refine hK.out _ _ (⟨HB.out, FF.out _ HB.out⟩) (fun hHeld => ?_)
        clear hK K
        try simp only [Act.put, List.setIfInBounds_toArray, List.set_cons_zero, List.set_cons_succ]
        refine wpAnyH_ready (rs := [12]) (by kernel_rfl) (by simp) (AllReadyH.cons (o := { dst := some 48, op := Go.Op.call { callee := Go.Callee.builtin Go.Builtin.append, args := #[Go.Operand.tmp 46, Go.Operand.tmp 47], argTypes := #[35, 35] }, type := 35, pos := "ref.go:87", after := #[{ on := 10, ground := Go.Ground.data }, { on := 11, ground := Go.Ground.data }, { on := 10, ground := Go.Ground.chain }], guard := none }) rfl (fun K hK => ?_) AllReadyH.nil)
        rw [if_pos (by rfl)]
        refine wp_append_cardsR _ _ rfl w6.heap.size _ (at' + 1) _ rfl HA.out A6 C6 m2 T2 HL2.out (SIn.belowR HR6.out HB.out) rfl (by have := HI.out; have := HM2.out; omega) HB.out.size ?_
        intro v7 w7 hown7 hb7 hg7
        replace HB := Lib.hid (HB.out.trans hb7)
        replace HA := Lib.hid hown7
        clear hown7 hb7 hg7
        refine hK.out _ _ (⟨HB.out, FF.out _ HB.out⟩) (fun hHeld => ?_)
        clear hK K
        try simp only [Act.put, List.setIfInBounds_toArray, List.set_cons_zero, List.set_cons_succ]
        refine wpAnyH_take (i := 13) (oi := { dst := some 3, op := Go.Op.assign (Go.Operand.tmp 48), type := 35, pos := "ref.go:87", after := #[{ on := 12, ground := Go.Ground.data }, { on := 12, ground := Go.Ground.chain }, { on := 0, ground := Go.Ground.phase }, { on := 1, ground := Go.Ground.phase }, { on := 2, ground := Go.Ground.phase }, { on := 3, ground := Go.Ground.phase }, { on := 4, ground := Go.Ground.phase }, { on := 5, ground := Go.Ground.phase }, { on := 6, ground := Go.Ground.phase }, { on := 7, ground := Go.Ground.phase }, { on := 8, ground := Go.Ground.phase }, { on := 9, ground := Go.Ground.phase }, { on := 10, ground := Go.Ground.phase }, { on := 11, ground := Go.Ground.phase }, { on := 12, ground := Go.Ground.phase }], guard := none }) (v := ?vT10_13) rfl (by kernel_rfl) (by kernel_rfl) (by kernel_rfl) (fun _ _ _ h => h) (Or.inl ⟨by rfl, ?yT10_13⟩) (by assumption) ?_
        case yT10_13 => (intro wX hSw; (try dsimp only at hSw); go_simp <;> with_reducible rfl)
        try simp only [Act.put, List.setIfInBounds_toArray, List.set_cons_zero, List.set_cons_succ]
        refine wpAnyH_done (by kernel_rfl) ?_ _
        obtain ⟨a7, c7, hv7⟩ := own_formR HA.out
        have HN3 : Hid (SB w l (i + 1) v7 w7) := by
          refine ⟨?_, HBC6.out.trans (HB.out.mono HBC6.out.size)⟩
          rw [HST.out, HPUT.out]
          have e1 : cardCells T1 ++ cardCells [⟨xi, xb, xs, xt, xa, xr⟩] ++ cardCells T2 = cardCells (T1 ++ (⟨xi, xb, xs, xt, xa, xr⟩ :: T2)) := by rw [← cardCells_appR, ← cardCells_appR]; simp
          have e2 : at' + 1 + m2 = i + 1 := by have := HM2.out; omega
          have := HA.out
          rw [e1, e2] at this
          exact own_monoR this (HBC6.out.size)
        clear HA HB HPUT HST hHeld hv7
        go_wp2
        go_roundw
        case rel => exact ⟨i + 1, by go_num, hin, HN3⟩
        case measure => simp [intOf]; omega
    · go_simp
      have HX : Hid ((w6.drew.alloc (.cells #[.string (bs xi), .string (bs xb), .int .i64 xs, .int .i64 xt, .int .i64 xa, .string (bs xr)] 38)).heap[w6.heap.size]? = some (.cells #[.string (bs xi), .string (bs xb), .int .i64 xs, .int .i64 xt, .int .i64 xa, .string (bs xr)] 38 (0, 0))) := heap_alloc_new w6.drew _
      replace HB := Lib.hid (HB.out.alloc HB.out.size (.cells #[.string (bs xi), .string (bs xb), .int .i64 xs, .int .i64 xt, .int .i64 xa, .string (bs xr)] 38))
      refine hK.out _ _ (⟨HB.out, FF.out _ HB.out⟩) (fun hHeld => ?_)
      clear hK K
      try simp only [Act.put, List.setIfInBounds_toArray, List.set_cons_zero, List.set_cons_succ]
      refine wpAnyH_ready (rs := [0]) (by kernel_rfl) (by simp) (AllReadyH.cons (o := { dst := some 36, op := Go.Op.buildSlice 35 0 #[], type := 35, pos := "ref.go:87", after := #[], guard := none }) rfl (fun K hK => ?_) AllReadyH.nil)
      go_simp
      have HA : Hid (((w6.drew.alloc (.cells #[.string (bs xi), .string (bs xb), .int .i64 xs, .int .i64 xt, .int .i64 xa, .string (bs xr)] 38)).alloc (.cells #[] 38)).ownsRow w6.heap.size 38 6 (.slice (some ⟨w6.heap.size + 1, 0, none⟩) 0 0) 0 []) := by have h9 := own_monoR (own_newR (w6.drew.alloc (.cells #[.string (bs xi), .string (bs xb), .int .i64 xs, .int .i64 xt, .int .i64 xa, .string (bs xr)] 38))) HB.out.size; rw [World.size_alloc] at h9; exact h9
      skip
      replace HX := Lib.hid ((Below.heap_alloc _ (.cells #[] 38) _ (Array.getElem?_eq_some_iff.1 HX.out).1).trans HX.out)
      replace HB := Lib.hid (HB.out.alloc HB.out.size (.cells #[] 38))
      refine hK.out _ _ (⟨HB.out, FF.out _ HB.out⟩) (fun hHeld => ?_)
      clear hK K
      try simp only [Act.put, List.setIfInBounds_toArray, List.set_cons_zero, List.set_cons_succ]
      refine wpAnyH_ready (rs := [4]) (by kernel_rfl) (by simp) (AllReadyH.cons (o := { dst := some 40, op := Go.Op.call { callee := Go.Callee.builtin Go.Builtin.append, args := #[Go.Operand.tmp 36, Go.Operand.tmp 39], argTypes := #[35, 35] }, type := 35, pos := "ref.go:87", after := #[{ on := 0, ground := Go.Ground.data }, { on := 3, ground := Go.Ground.data }], guard := none }) rfl (fun K hK => ?_) AllReadyH.nil)
      rw [if_pos (by rfl)]
      refine wp_append_cardsR _ _ rfl w6.heap.size (.slice (some ⟨w6.heap.size + 1, 0, none⟩) 0 0) 0 [] rfl HA.out _ _ at' T1 HL1.out (HS1.out _ HB.out) rfl (by have := HI.out; omega) HB.out.size ?_
      intro v4 w4 hown4 hb4 hg4
      (try simp only [Nat.zero_add, List.nil_append] at hown4)
      replace HX := Lib.hid ((hg4.block _ (Array.getElem?_eq_some_iff.1 HX.out).1 (by simp [Value.ownBlock])).trans HX.out)
      replace HB := Lib.hid (HB.out.trans hb4)
      replace HA := Lib.hid hown4
      clear hown4 hb4 hg4
      obtain ⟨a4, c4, hv4⟩ := own_formR HA.out
      subst hv4
      refine hK.out _ _ (⟨HB.out, FF.out _ HB.out⟩) (fun hHeld => ?_)
      clear hK K
      try simp only [Act.put, List.setIfInBounds_toArray, List.set_cons_zero, List.set_cons_succ]
      refine wpAnyH_ready (rs := [10]) (by kernel_rfl) (by simp) (AllReadyH.cons (o := { dst := some 46, op := Go.Op.call { callee := Go.Callee.builtin Go.Builtin.append, args := #[Go.Operand.tmp 40, Go.Operand.tmp 45], argTypes := #[35, 35] }, type := 35, pos := "ref.go:87", after := #[{ on := 4, ground := Go.Ground.data }, { on := 9, ground := Go.Ground.data }, { on := 4, ground := Go.Ground.chain }], guard := none }) rfl (fun K hK => ?_) AllReadyH.nil)
      rw [if_pos (by rfl)]
      refine wp_append_cardsR _ _ rfl w6.heap.size _ at' (cardCells T1) rfl HA.out _ 1 1 [⟨xi, xb, xs, xt, xa, xr⟩] rfl (sin_box HX.out) rfl (by have := HI.out; omega) HB.out.size ?_
      intro v5 w5 hown5 hb5 hg5
      replace HB := Lib.hid (HB.out.trans hb5)
      replace HA := Lib.hid hown5
      clear hown5 hb5 hg5 HX
      obtain ⟨a5, c5, hv5⟩ := own_formR HA.out
      subst hv5
      refine hK.out _ _ (⟨HB.out, FF.out _ HB.out⟩) (fun hHeld => ?_)
      clear hK K
      try simp only [Act.put, List.setIfInBounds_toArray, List.set_cons_zero, List.set_cons_succ]
      refine wpAnyH_ready (rs := [12]) (by kernel_rfl) (by simp) (AllReadyH.cons (o := { dst := some 48, op := Go.Op.call { callee := Go.Callee.builtin Go.Builtin.append, args := #[Go.Operand.tmp 46, Go.Operand.tmp 47], argTypes := #[35, 35] }, type := 35, pos := "ref.go:87", after := #[{ on := 10, ground := Go.Ground.data }, { on := 11, ground := Go.Ground.data }, { on := 10, ground := Go.Ground.chain }], guard := none }) rfl (fun K hK => ?_) AllReadyH.nil)
      rw [if_pos (by rfl)]
      refine wp_append_cardsR _ _ rfl w6.heap.size _ (at' + 1) _ rfl HA.out A6 C6 m2 T2 HL2.out (SIn.belowR HR6.out HB.out) rfl (by have := HI.out; have := HM2.out; omega) HB.out.size ?_
      intro v7 w7 hown7 hb7 hg7
      replace HB := Lib.hid (HB.out.trans hb7)
      replace HA := Lib.hid hown7
      clear hown7 hb7 hg7
      refine hK.out _ _ (⟨HB.out, FF.out _ HB.out⟩) (fun hHeld => ?_)
      clear hK K
      try simp only [Act.put, List.setIfInBounds_toArray, List.set_cons_zero, List.set_cons_succ]
      refine wpAnyH_take (i := 13) (oi := { dst := some 3, op := Go.Op.assign (Go.Operand.tmp 48), type := 35, pos := "ref.go:87", after := #[{ on := 12, ground := Go.Ground.data }, { on := 12, ground := Go.Ground.chain }, { on := 0, ground := Go.Ground.phase }, { on := 1, ground := Go.Ground.phase }, { on := 2, ground := Go.Ground.phase }, { on := 3, ground := Go.Ground.phase }, { on := 4, ground := Go.Ground.phase }, { on := 5, ground := Go.Ground.phase }, { on := 6, ground := Go.Ground.phase }, { on := 7, ground := Go.Ground.phase }, { on := 8, ground := Go.Ground.phase }, { on := 9, ground := Go.Ground.phase }, { on := 10, ground := Go.Ground.phase }, { on := 11, ground := Go.Ground.phase }, { on := 12, ground := Go.Ground.phase }], guard := none }) (v := ?vT15_13) rfl (by kernel_rfl) (by kernel_rfl) (by kernel_rfl) (fun _ _ _ h => h) (Or.inl ⟨by rfl, ?yT15_13⟩) (by assumption) ?_
      case yT15_13 => (intro wX hSw; (try dsimp only at hSw); go_simp <;> with_reducible rfl)
      try simp only [Act.put, List.setIfInBounds_toArray, List.set_cons_zero, List.set_cons_succ]
      refine wpAnyH_done (by kernel_rfl) ?_ _
      obtain ⟨a7, c7, hv7⟩ := own_formR HA.out
      have HN3 : Hid (SB w l (i + 1) v7 w7) := by
        refine ⟨?_, HBC6.out.trans (HB.out.mono HBC6.out.size)⟩
        rw [HST.out, HPUT.out]
        have e1 : cardCells T1 ++ cardCells [⟨xi, xb, xs, xt, xa, xr⟩] ++ cardCells T2 = cardCells (T1 ++ (⟨xi, xb, xs, xt, xa, xr⟩ :: T2)) := by rw [← cardCells_appR, ← cardCells_appR]; simp
        have e2 : at' + 1 + m2 = i + 1 := by have := HM2.out; omega
        have := HA.out
        rw [e1, e2] at this
        exact own_monoR this (HBC6.out.size)
      clear HA HB HPUT HST hHeld hv7
      go_wp2
      go_roundw
      case rel => exact ⟨i + 1, by go_num, hin, HN3⟩
      case measure => simp [intOf]; omega
  · have di : decide ((i : Int) < (n : Int)) = false := decide_eq_false (by omega)
    have diN : decide (i < n) = false := decide_eq_false hin
    obtain rfl : i = n := by omega
    have hRR : R = sortS l := by rw [← hR, List.take_of_length_le (by have := HN.out; omega)]
    have hfin : SortedP w (sortS l) (.returned (.slice va i vc)) wo := by
      refine ⟨va, vc, by rw [sortS_length, HN.out], ?_, hzz.2⟩
      rw [← hRR]
      rcases own_rowR hRl hzz.1 with ⟨h1, h2, h3⟩ | ⟨g, h1, _, h3, _⟩
      · intro h0; rw [hRl] at h0; omega
      · rw [h1]; exact h3
    have HFIN := Lib.hid hfin
    clear hfin hzz hz hRs hR hRl hRR
    go_wp2
    go_ret
    exact HFIN.out
end Go.Proofs.YtjcaaiikccnpeaaDoor
