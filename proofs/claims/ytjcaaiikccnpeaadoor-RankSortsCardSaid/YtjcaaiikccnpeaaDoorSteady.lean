/- steady, walked: it answers true where both lists hold the same cards, equals in their order. -/
import Derived.Test.YtjcaaiikccnpeaaDoorDifCount
import Derived.Maps.AppendAt
import Derived.Deep.DeepCutAuto
import Derived.Deep.RegionHeld3
namespace Go.Proofs.YtjcaaiikccnpeaaDoor
open Go.ChangeShapes Go.WideShapes Go.ChangeAt Go.RowKit Go.Lib
set_option linter.unusedVariables false

theorem own_below {w w' : World} {base e size n : Nat} {v : Value} {xs : List Value} (h : w.ownsRow base e size v n xs) (hb : Below w.heap.size w w') : w'.ownsRow base e size v n xs := by
  refine ⟨h.1, ?_⟩
  rcases h.2 with h2 | ⟨g, cap, cur, hv, hbg, hg, h3⟩
  · exact .inl h2
  · exact .inr ⟨g, cap, cur, hv, hbg, (hb.block g (Array.getElem?_eq_some_iff.1 hg).1).trans hg, h3⟩
theorem own_lt {w : World} {base e size n : Nat} {v : Value} {xs : List Value} (h : w.ownsRow base e size v n xs) {g : Nat} (hg : v.ownBlock = some g) : g < w.heap.size ∧ base ≤ g := by
  rcases h.2 with ⟨rfl, _⟩ | ⟨g', cap, cur, rfl, hbg, hg', _⟩
  · cases hg
  · simp only [Value.ownBlock, Option.some.injEq] at hg
    subst hg
    exact ⟨(Array.getElem?_eq_some_iff.1 hg').1, hbg⟩
theorem filter_take {p : Card → Bool} {l : List Card} {j : Nat} {y : Card} (h : l[j]? = some y) : (l.take (j + 1)).filter p = (l.take j).filter p ++ if p y = true then [y] else [] := by
  obtain ⟨hj, rfl⟩ := List.getElem?_eq_some_iff.1 h
  rw [List.take_succ_eq_append_getElem hj, List.filter_append]
  by_cases e : p l[j] = true
  · simp [e]
  · simp [e]
theorem cardCells_snoc (l : List Card) (y : Card) : cardCells (l ++ [y]) = cardCells l ++ (cellsC y).toList := by unfold cardCells; simp
theorem eqk_of {c y : Card} {a b : Bool} (h1 : lessC c y = a) (h2 : lessC y c = b) : eqk c y = (!a && !b) := by unfold eqk; rw [h1, h2]
theorem own_form {w : World} {base e size n : Nat} {v : Value} {xs : List Value} (h : w.ownsRow base e size v n xs) : ∃ A c, v = .slice A n c := by
  rcases h.2 with ⟨h1, h0⟩ | ⟨g, cap, cur, hv, _⟩
  · exact ⟨none, 0, by rw [h1, h0]⟩
  · exact ⟨_, _, hv⟩
theorem new_cells (w : World) (y : Card) : ∀ (j : Nat) u, (cellsC y).toList[j]? = some u → (w.alloc (.cells (cellsC y) 38)).cell? ((⟨w.heap.size, 0, none⟩ : Addr).add j) = some u := fun j u h => by
  rw [show (⟨w.heap.size, 0, none⟩ : Addr).add j = ⟨w.heap.size, j, none⟩ by unfold Addr.add; split <;> simp_all, cell_of_row _ _ j _ _ _ (heap_alloc_new w _)]
  simpa using h
theorem cells_one (y : Card) : ∀ u ∈ (cellsC y).toList, u.oneCell' = true := by
  intro u hu
  simp only [cellsC, List.mem_cons, List.not_mem_nil, or_false] at hu
  rcases hu with rfl | rfl | rfl | rfl | rfl | rfl <;> rfl
def twoRows (w wr : World) (va vb : Value) (a b : List Card) : Prop :=
  wr.ownsRow w.heap.size 38 6 va a.length (cardCells a) ∧ wr.ownsRow w.heap.size 38 6 vb b.length (cardCells b) ∧ (va.ownBlock = none ∨ va.ownBlock ≠ vb.ownBlock) ∧ (vb.ownBlock = none ∨ vb.ownBlock ≠ va.ownBlock) ∧ Below w.heap.size w wr
theorem two_below {w wr w' : World} {va vb : Value} {a b : List Card} (h : twoRows w wr va vb a b) (hb : Below wr.heap.size wr w') : twoRows w w' va vb a b :=
  ⟨own_below h.1 hb, own_below h.2.1 hb, h.2.2.1, h.2.2.2.1, h.2.2.2.2.trans (hb.mono h.2.2.2.2.size)⟩
theorem two_swap {w wr : World} {va vb : Value} {a b : List Card} (h : twoRows w wr va vb a b) : twoRows w wr vb va b a := ⟨h.2.1, h.1, h.2.2.2.1, h.2.2.1, h.2.2.2.2⟩
/-- behind an append to the first row: a new block for the cards appended, then the row -/
theorem two_app {w wr w' : World} {va vb v' : Value} {a b : List Card} {y : Card} {X : Obj} (h : twoRows w wr va vb a b) (h1 : w'.ownsRow w.heap.size 38 6 v' (a.length + 1) (cardCells a ++ (cellsC y).toList)) (hg : (wr.alloc X).grownBy w' va.ownBlock)
    (hat : v'.ownBlock = va.ownBlock ∨ v'.ownBlock = some (wr.heap.size + 1)) : twoRows w w' v' vb (a ++ [y]) b := by
  obtain ⟨g1, g2, g3, g4, g5⟩ := h
  have gA : Below wr.heap.size wr (wr.alloc X) := (Below.refl _ _).alloc (Nat.le_refl _) _
  have g2' := own_below g2 gA
  have hne : v'.ownBlock = none ∨ v'.ownBlock ≠ vb.ownBlock := by
    rcases hat with e | e
    · rw [e]; exact g3
    · right
      rw [e]
      intro e2
      have := (own_lt g2' e2.symm).1
      rw [World.size_alloc] at this
      omega
  refine ⟨?_, g2'.kept hg g4, hne, ?_, ?_⟩
  · rw [List.length_append, cardCells_snoc]; exact h1
  · cases hb : vb.ownBlock with
    | none => exact .inl rfl
    | some k =>
      right
      intro e
      rcases hne with e2 | e2
      · rw [e2] at e; cases e
      · exact e2 (by rw [hb, ← e])
  · refine (g5.trans (gA.mono g5.size)).grown hg (by have := g5.size; simp; omega) (fun k hk => ?_)
    exact (own_lt g1 hk).2
theorem cin_own {w : World} {base n : Nat} {v : Value} {l : List Card} (hn : l.length = n) (h : w.ownsRow base 38 6 v l.length (cardCells l)) : ∃ A c, v = .slice A n c ∧ CIn w A l := by
  subst hn
  rcases h.2 with ⟨h1, h0⟩ | ⟨g, cap, cur, hv, _⟩
  · exact ⟨none, 0, by rw [h1, h0], .inl ⟨rfl, List.eq_nil_of_length_eq_zero h0⟩⟩
  · subst hv
    exact ⟨some ⟨g, 0, none⟩, cap, rfl, .inr ⟨g, 0, rfl, crow_of_cat (cat_of_own h).1⟩⟩
set_option maxRecDepth 100000 in
set_option maxHeartbeats 60000000 in
theorem steady_some (l x : List Card) (b o C b2 o2 C2 : Nat) (w : World) (hx : x.length = l.length) (hf : ∀ c, x.filter (eqk c) = l.filter (eqk c)) (hn : l.length ≤ 1000) (hl : CRow w (some ⟨b, o, none⟩) l) (hl2 : CRow w (some ⟨b2, o2, none⟩) x) :
    Calls Tryd.prog 25 #[.slice (some ⟨b, o, none⟩) l.length C, .slice (some ⟨b2, o2, none⟩) l.length C2] w (BoolPost w true) := by
  have HL := Lib.hid hl
  have HL2 := Lib.hid hl2
  have HF := Lib.hid hf
  have HX := Lib.hid hx
  clear hl hl2 hf
  obtain ⟨n, hn0⟩ : ∃ n, l.length = n := ⟨_, rfl⟩
  rw [hn0] at hn ⊢
  go_enter Tryd.func25, Tryd.ntmps25
  go_wp2
  go_loopw [5] (fun v5 wr => ∃ i : Nat, v5 = .int .i64 i ∧ i ≤ n ∧ Below w.heap.size w wr) (fun v _ => n - (intOf v).toNat)
  case atStart => exact ⟨0, rfl, Nat.zero_le _, Below.refl _ _⟩
  case round =>
    obtain ⟨i, rfl, hi, hb⟩ := hrel
    by_cases hlt : i < n
    · have dlt : decide ((i : Int) < (n : Int)) = true := decide_eq_true (by omega)
      have dltN : decide (i < n) = true := decide_eq_true hlt
      have bi : (i : Int) < (n : Int) := by omega
      have wi : IntKind.i64.wrap ((i : Int) + 1) = (i : Int) + 1 := IntWalk.i64_in _ (by omega)
      obtain ⟨⟨ci, cb, cs, ct, ca, cr⟩, hci⟩ : ∃ c, l[i]? = some c := ⟨_, List.getElem?_eq_getElem (by omega)⟩
      have HB := Lib.hid hb
      have HCI := Lib.hid hci
      clear hb hci
      go_wp2
      obtain ⟨wo, hwo⟩ : ∃ wo : World, wo = wr := ⟨_, rfl⟩
      go_loopw [6, 7, 8] (fun v6 v7 v8 wr => ∃ j : Nat, v8 = .int .i64 j ∧ j ≤ n ∧ Hid (twoRows w wr v6 v7 ((l.take j).filter (eqk ⟨ci, cb, cs, ct, ca, cr⟩)) ((x.take j).filter (eqk ⟨ci, cb, cs, ct, ca, cr⟩)))) (fun _ _ v _ => n - (intOf v).toNat)
      case atStart => exact ⟨0, rfl, Nat.zero_le _, ⟨⟨by simp [cardCells], .inl ⟨rfl, rfl⟩⟩, ⟨by simp [cardCells], .inl ⟨rfl, rfl⟩⟩, .inl rfl, .inl rfl, HB.out⟩⟩
      case round =>
        clear hwo HB
        obtain ⟨j, rfl, hj, hz⟩ := hrel
        by_cases hjn : j < n
        · have dj : decide ((j : Int) < (n : Int)) = true := decide_eq_true (by omega)
          have djN : decide (j < n) = true := decide_eq_true hjn
          have bj : (j : Int) < (n : Int) := by omega
          have wj : IntKind.i64.wrap ((j : Int) + 1) = (j : Int) + 1 := IntWalk.i64_in _ (by omega)
          obtain ⟨⟨yi, yb, ys, yt, ya, yr⟩, hyj⟩ : ∃ c, l[j]? = some c := ⟨_, List.getElem?_eq_getElem (by omega)⟩
          have hft := filter_take (p := eqk ⟨ci, cb, cs, ct, ca, cr⟩) hyj
          obtain ⟨e1, he1⟩ : ∃ e1, lessC ⟨ci, cb, cs, ct, ca, cr⟩ ⟨yi, yb, ys, yt, ya, yr⟩ = e1 := ⟨_, rfl⟩
          obtain ⟨e2, he2⟩ : ∃ e2, lessC ⟨yi, yb, ys, yt, ya, yr⟩ ⟨ci, cb, cs, ct, ca, cr⟩ = e2 := ⟨_, rfl⟩
          obtain ⟨q, hq⟩ : ∃ q, eqk ⟨ci, cb, cs, ct, ca, cr⟩ ⟨yi, yb, ys, yt, ya, yr⟩ = q := ⟨_, rfl⟩
          have cA := fun W => less_any ⟨ci, cb, cs, ct, ca, cr⟩ ⟨yi, yb, ys, yt, ya, yr⟩ W
          have cB := fun W => less_any ⟨yi, yb, ys, yt, ya, yr⟩ ⟨ci, cb, cs, ct, ca, cr⟩ W
          rw [he1] at cA
          rw [he2] at cB
          have hqe := eqk_of he1 he2
          rw [hq] at hqe hft
          unfold cellsC at cA cB
          simp only at cA cB
          have FF : Hid (∀ W, Below wr.heap.size wr W → (W.cell? ⟨b, o + i * 6, none⟩ = some (.string (bs ci)) ∧ W.cell? ⟨b, o + i * 6 + 1, none⟩ = some (.string (bs cb)) ∧ W.cell? ⟨b, o + i * 6 + 2, none⟩ = some (.int .i64 cs) ∧ W.cell? ⟨b, o + i * 6 + 3, none⟩ = some (.int .i64 ct) ∧ W.cell? ⟨b, o + i * 6 + 4, none⟩ = some (.int .i64 ca) ∧ W.cell? ⟨b, o + i * 6 + 5, none⟩ = some (.string (bs cr))) ∧ (W.cell? ⟨b, o + j * 6, none⟩ = some (.string (bs yi)) ∧ W.cell? ⟨b, o + j * 6 + 1, none⟩ = some (.string (bs yb)) ∧ W.cell? ⟨b, o + j * 6 + 2, none⟩ = some (.int .i64 ys) ∧ W.cell? ⟨b, o + j * 6 + 3, none⟩ = some (.int .i64 yt) ∧ W.cell? ⟨b, o + j * 6 + 4, none⟩ = some (.int .i64 ya) ∧ W.cell? ⟨b, o + j * 6 + 5, none⟩ = some (.string (bs yr)))) := fun W hW => by
            have hbw := hz.out.2.2.2.2.trans (hW.mono hz.out.2.2.2.2.size)
            exact ⟨(HL.out.below hbw).cells HCI.out, (HL.out.below hbw).cells hyj⟩
          have HFT := Lib.hid hft
          have HQE := Lib.hid hqe
          clear hyj hft he1 he2 hq hqe
          go_upto_region 9 with fail
          go_cut [43] (fun s43 wx => s43 = .bool q ∧ Below wr.heap.size wr wx)
          case first =>
              have gx := (FF.out _ (Below.refl _ _).drew)
              clear hz HFT
              cases e1 with
              | true =>
                as_aux_lemma =>
                  refine wp_region_held_drew (S := (fun W => Below wr.heap.size wr W ∧ (W.cell? ⟨b, o + i * 6, none⟩ = some (.string (bs ci)) ∧ W.cell? ⟨b, o + i * 6 + 1, none⟩ = some (.string (bs cb)) ∧ W.cell? ⟨b, o + i * 6 + 2, none⟩ = some (.int .i64 cs) ∧ W.cell? ⟨b, o + i * 6 + 3, none⟩ = some (.int .i64 ct) ∧ W.cell? ⟨b, o + i * 6 + 4, none⟩ = some (.int .i64 ca) ∧ W.cell? ⟨b, o + i * 6 + 5, none⟩ = some (.string (bs cr))) ∧ (W.cell? ⟨b, o + j * 6, none⟩ = some (.string (bs yi)) ∧ W.cell? ⟨b, o + j * 6 + 1, none⟩ = some (.string (bs yb)) ∧ W.cell? ⟨b, o + j * 6 + 2, none⟩ = some (.int .i64 ys) ∧ W.cell? ⟨b, o + j * 6 + 3, none⟩ = some (.int .i64 yt) ∧ W.cell? ⟨b, o + j * 6 + 4, none⟩ = some (.int .i64 ya) ∧ W.cell? ⟨b, o + j * 6 + 5, none⟩ = some (.string (bs yr))))) (by kernel_rfl) (⟨(Below.refl _ _).drew, FF.out _ (Below.refl _ _).drew⟩) (fun hHeld => ?_)
                  refine wpAnyH_take (i := 0) (oi := { dst := some 22, op := Go.Op.move (Go.Operand.tmp 0), type := 35, pos := "law.go:138", after := #[], guard := none }) (v := ?vay0) rfl (by kernel_rfl) (by kernel_rfl) (by kernel_rfl) (fun _ _ _ h => h) (Or.inl ⟨by rfl, ?yay0⟩) (by assumption) ?_
                  case yay0 => (intro wX hSw; (try dsimp only at hSw); go_simp <;> with_reducible rfl)
                  try simp only [Act.put, List.setIfInBounds_toArray, List.set_cons_zero, List.set_cons_succ]
                  refine wpAnyH_take (i := 1) (oi := { dst := some 23, op := Go.Op.move (Go.Operand.tmp 5), type := 3, pos := "law.go:138", after := #[], guard := none }) (v := ?vay1) rfl (by kernel_rfl) (by kernel_rfl) (by kernel_rfl) (fun _ _ _ h => h) (Or.inl ⟨by rfl, ?yay1⟩) (by assumption) ?_
                  case yay1 => (intro wX hSw; (try dsimp only at hSw); go_simp <;> with_reducible rfl)
                  try simp only [Act.put, List.setIfInBounds_toArray, List.set_cons_zero, List.set_cons_succ]
                  refine wpAnyH_take (i := 2) (oi := { dst := some 24, op := Go.Op.indexAddr 35 (Go.Operand.tmp 22) (Go.Operand.tmp 23), type := 0, pos := "law.go:138", after := #[{ on := 0, ground := Go.Ground.data }, { on := 1, ground := Go.Ground.data }], guard := none }) (v := ?vay2) rfl (by kernel_rfl) (by kernel_rfl) (by kernel_rfl) (fun _ _ _ h => h) (Or.inl ⟨by rfl, ?yay2⟩) (by assumption) ?_
                  case yay2 => (intro wX hSw; (try dsimp only at hSw); go_simp <;> with_reducible rfl)
                  try simp only [Act.put, List.setIfInBounds_toArray, List.set_cons_zero, List.set_cons_succ]
                  refine wpAnyH_take (i := 3) (oi := { dst := some 25, op := Go.Op.load 38 (Go.Operand.tmp 24), type := 38, pos := "law.go:138", after := #[{ on := 2, ground := Go.Ground.data }], guard := none }) (v := ?vay3) rfl (by kernel_rfl) (by kernel_rfl) (by kernel_rfl) (fun _ _ _ h => h) (Or.inl ⟨by rfl, ?yay3⟩) (by assumption) ?_
                  case yay3 => (intro wX hSw; (try dsimp only at hSw); go_simp <;> with_reducible rfl)
                  try simp only [Act.put, List.setIfInBounds_toArray, List.set_cons_zero, List.set_cons_succ]
                  refine wpAnyH_take (i := 4) (oi := { dst := some 26, op := Go.Op.move (Go.Operand.tmp 0), type := 35, pos := "law.go:138", after := #[], guard := none }) (v := ?vay4) rfl (by kernel_rfl) (by kernel_rfl) (by kernel_rfl) (fun _ _ _ h => h) (Or.inl ⟨by rfl, ?yay4⟩) (by assumption) ?_
                  case yay4 => (intro wX hSw; (try dsimp only at hSw); go_simp <;> with_reducible rfl)
                  try simp only [Act.put, List.setIfInBounds_toArray, List.set_cons_zero, List.set_cons_succ]
                  refine wpAnyH_take (i := 5) (oi := { dst := some 27, op := Go.Op.move (Go.Operand.tmp 8), type := 3, pos := "law.go:138", after := #[], guard := none }) (v := ?vay5) rfl (by kernel_rfl) (by kernel_rfl) (by kernel_rfl) (fun _ _ _ h => h) (Or.inl ⟨by rfl, ?yay5⟩) (by assumption) ?_
                  case yay5 => (intro wX hSw; (try dsimp only at hSw); go_simp <;> with_reducible rfl)
                  try simp only [Act.put, List.setIfInBounds_toArray, List.set_cons_zero, List.set_cons_succ]
                  refine wpAnyH_take (i := 6) (oi := { dst := some 28, op := Go.Op.indexAddr 35 (Go.Operand.tmp 26) (Go.Operand.tmp 27), type := 0, pos := "law.go:138", after := #[{ on := 4, ground := Go.Ground.data }, { on := 5, ground := Go.Ground.data }], guard := none }) (v := ?vay6) rfl (by kernel_rfl) (by kernel_rfl) (by kernel_rfl) (fun _ _ _ h => h) (Or.inl ⟨by rfl, ?yay6⟩) (by assumption) ?_
                  case yay6 => (intro wX hSw; (try dsimp only at hSw); go_simp <;> with_reducible rfl)
                  try simp only [Act.put, List.setIfInBounds_toArray, List.set_cons_zero, List.set_cons_succ]
                  refine wpAnyH_take (i := 7) (oi := { dst := some 29, op := Go.Op.load 38 (Go.Operand.tmp 28), type := 38, pos := "law.go:138", after := #[{ on := 6, ground := Go.Ground.data }], guard := none }) (v := ?vay7) rfl (by kernel_rfl) (by kernel_rfl) (by kernel_rfl) (fun _ _ _ h => h) (Or.inl ⟨by rfl, ?yay7⟩) (by assumption) ?_
                  case yay7 => (intro wX hSw; (try dsimp only at hSw); go_simp <;> with_reducible rfl)
                  try simp only [Act.put, List.setIfInBounds_toArray, List.set_cons_zero, List.set_cons_succ]
                  refine wpAnyH_ready (rs := [8]) (by kernel_rfl) (by simp) (AllReadyH.cons (o := { dst := some 30, op := Go.Op.call { callee := Go.Callee.value (Go.Operand.func 16), args := #[Go.Operand.tmp 25, Go.Operand.tmp 29], argTypes := #[38, 38] }, type := 4, pos := "law.go:138", after := #[{ on := 3, ground := Go.Ground.data }, { on := 7, ground := Go.Ground.data }], guard := none }) rfl (fun K hK => ?_) AllReadyH.nil)
                  (go_simp; go_at_call 16; refine (cA _).mono ?_; rintro e w7 ⟨rfl, hb7⟩)
                  refine hK.out _ _ (⟨(Below.refl _ _).drew.trans hb7, FF.out _ ((Below.refl _ _).drew.trans hb7)⟩) (fun hHeld => ?_)
                  clear hK K
                  try simp only [Act.put, List.setIfInBounds_toArray, List.set_cons_zero, List.set_cons_succ]
                  refine wpAnyH_take (i := 9) (oi := { dst := some 31, op := Go.Op.unOp Go.UnOp.not 4 (Go.Operand.tmp 30), type := 4, pos := "law.go:138", after := #[{ on := 8, ground := Go.Ground.data }], guard := none }) (v := ?vay9) rfl (by kernel_rfl) (by kernel_rfl) (by kernel_rfl) (fun _ _ _ h => h) (Or.inl ⟨by rfl, ?yay9⟩) (by assumption) ?_
                  case yay9 => (intro wX hSw; (try dsimp only at hSw); go_simp <;> with_reducible rfl)
                  try simp only [Act.put, List.setIfInBounds_toArray, List.set_cons_zero, List.set_cons_succ]
                  refine wpAnyH_take (i := 10) (oi := { dst := some 32, op := Go.Op.move (Go.Operand.tmp 31), type := 4, pos := "law.go:138", after := #[{ on := 9, ground := Go.Ground.data }, { on := 8, ground := Go.Ground.chain }], guard := none }) (v := ?vay10) rfl (by kernel_rfl) (by kernel_rfl) (by kernel_rfl) (fun _ _ _ h => h) (Or.inl ⟨by rfl, ?yay10⟩) (by assumption) ?_
                  case yay10 => (intro wX hSw; (try dsimp only at hSw); go_simp <;> with_reducible rfl)
                  try simp only [Act.put, List.setIfInBounds_toArray, List.set_cons_zero, List.set_cons_succ]
                  refine wpAnyH_take (i := 11) (oi := { dst := some 33, op := Go.Op.move (Go.Operand.tmp 0), type := 35, pos := "law.go:138", after := #[{ on := 10, ground := Go.Ground.guard }], guard := some (10, true) }) (v := undef) rfl (by kernel_rfl) (by kernel_rfl) (by kernel_rfl) (fun _ _ _ h => h) (Or.inr ⟨by rfl, rfl⟩) (by assumption) ?_
                  try simp only [Act.put, List.setIfInBounds_toArray, List.set_cons_zero, List.set_cons_succ]
                  refine wpAnyH_take (i := 12) (oi := { dst := some 34, op := Go.Op.move (Go.Operand.tmp 8), type := 3, pos := "law.go:138", after := #[{ on := 10, ground := Go.Ground.guard }], guard := some (10, true) }) (v := undef) rfl (by kernel_rfl) (by kernel_rfl) (by kernel_rfl) (fun _ _ _ h => h) (Or.inr ⟨by rfl, rfl⟩) (by assumption) ?_
                  try simp only [Act.put, List.setIfInBounds_toArray, List.set_cons_zero, List.set_cons_succ]
                  refine wpAnyH_take (i := 13) (oi := { dst := some 35, op := Go.Op.indexAddr 35 (Go.Operand.tmp 33) (Go.Operand.tmp 34), type := 0, pos := "law.go:138", after := #[{ on := 11, ground := Go.Ground.data }, { on := 12, ground := Go.Ground.data }, { on := 10, ground := Go.Ground.guard }], guard := some (10, true) }) (v := undef) rfl (by kernel_rfl) (by kernel_rfl) (by kernel_rfl) (fun _ _ _ h => h) (Or.inr ⟨by rfl, rfl⟩) (by assumption) ?_
                  try simp only [Act.put, List.setIfInBounds_toArray, List.set_cons_zero, List.set_cons_succ]
                  refine wpAnyH_take (i := 14) (oi := { dst := some 36, op := Go.Op.load 38 (Go.Operand.tmp 35), type := 38, pos := "law.go:138", after := #[{ on := 13, ground := Go.Ground.data }, { on := 10, ground := Go.Ground.guard }], guard := some (10, true) }) (v := undef) rfl (by kernel_rfl) (by kernel_rfl) (by kernel_rfl) (fun _ _ _ h => h) (Or.inr ⟨by rfl, rfl⟩) (by assumption) ?_
                  try simp only [Act.put, List.setIfInBounds_toArray, List.set_cons_zero, List.set_cons_succ]
                  refine wpAnyH_take (i := 15) (oi := { dst := some 37, op := Go.Op.move (Go.Operand.tmp 0), type := 35, pos := "law.go:138", after := #[{ on := 10, ground := Go.Ground.guard }], guard := some (10, true) }) (v := undef) rfl (by kernel_rfl) (by kernel_rfl) (by kernel_rfl) (fun _ _ _ h => h) (Or.inr ⟨by rfl, rfl⟩) (by assumption) ?_
                  try simp only [Act.put, List.setIfInBounds_toArray, List.set_cons_zero, List.set_cons_succ]
                  refine wpAnyH_take (i := 16) (oi := { dst := some 38, op := Go.Op.move (Go.Operand.tmp 5), type := 3, pos := "law.go:138", after := #[{ on := 10, ground := Go.Ground.guard }], guard := some (10, true) }) (v := undef) rfl (by kernel_rfl) (by kernel_rfl) (by kernel_rfl) (fun _ _ _ h => h) (Or.inr ⟨by rfl, rfl⟩) (by assumption) ?_
                  try simp only [Act.put, List.setIfInBounds_toArray, List.set_cons_zero, List.set_cons_succ]
                  refine wpAnyH_take (i := 17) (oi := { dst := some 39, op := Go.Op.indexAddr 35 (Go.Operand.tmp 37) (Go.Operand.tmp 38), type := 0, pos := "law.go:138", after := #[{ on := 15, ground := Go.Ground.data }, { on := 16, ground := Go.Ground.data }, { on := 10, ground := Go.Ground.guard }], guard := some (10, true) }) (v := undef) rfl (by kernel_rfl) (by kernel_rfl) (by kernel_rfl) (fun _ _ _ h => h) (Or.inr ⟨by rfl, rfl⟩) (by assumption) ?_
                  try simp only [Act.put, List.setIfInBounds_toArray, List.set_cons_zero, List.set_cons_succ]
                  refine wpAnyH_take (i := 18) (oi := { dst := some 40, op := Go.Op.load 38 (Go.Operand.tmp 39), type := 38, pos := "law.go:138", after := #[{ on := 17, ground := Go.Ground.data }, { on := 10, ground := Go.Ground.guard }], guard := some (10, true) }) (v := undef) rfl (by kernel_rfl) (by kernel_rfl) (by kernel_rfl) (fun _ _ _ h => h) (Or.inr ⟨by rfl, rfl⟩) (by assumption) ?_
                  try simp only [Act.put, List.setIfInBounds_toArray, List.set_cons_zero, List.set_cons_succ]
                  refine wpAnyH_take (i := 19) (oi := { dst := some 41, op := Go.Op.call { callee := Go.Callee.value (Go.Operand.func 16), args := #[Go.Operand.tmp 36, Go.Operand.tmp 40], argTypes := #[38, 38] }, type := 4, pos := "law.go:138", after := #[{ on := 14, ground := Go.Ground.data }, { on := 18, ground := Go.Ground.data }, { on := 10, ground := Go.Ground.chain }, { on := 10, ground := Go.Ground.guard }], guard := some (10, true) }) (v := undef) rfl (by kernel_rfl) (by kernel_rfl) (by kernel_rfl) (fun _ _ _ h => h) (Or.inr ⟨by rfl, rfl⟩) (by assumption) ?_
                  try simp only [Act.put, List.setIfInBounds_toArray, List.set_cons_zero, List.set_cons_succ]
                  refine wpAnyH_take (i := 20) (oi := { dst := some 42, op := Go.Op.unOp Go.UnOp.not 4 (Go.Operand.tmp 41), type := 4, pos := "law.go:138", after := #[{ on := 19, ground := Go.Ground.data }, { on := 10, ground := Go.Ground.guard }], guard := some (10, true) }) (v := undef) rfl (by kernel_rfl) (by kernel_rfl) (by kernel_rfl) (fun _ _ _ h => h) (Or.inr ⟨by rfl, rfl⟩) (by assumption) ?_
                  try simp only [Act.put, List.setIfInBounds_toArray, List.set_cons_zero, List.set_cons_succ]
                  refine wpAnyH_take (i := 21) (oi := { dst := some 43, op := Go.Op.pick (Go.Operand.tmp 32) (Go.Operand.tmp 42) (Go.Operand.const (Go.Value.bool false)), type := 4, pos := "law.go:138", after := #[{ on := 10, ground := Go.Ground.data }, { on := 20, ground := Go.Ground.data }], guard := none }) (v := ?vay21) rfl (by kernel_rfl) (by kernel_rfl) (by kernel_rfl) (fun _ _ _ h => h) (Or.inl ⟨by rfl, ?yay21⟩) (by assumption) ?_
                  case yay21 => (intro wX hSw; (try dsimp only at hSw); go_simp <;> with_reducible rfl)
                  try simp only [Act.put, List.setIfInBounds_toArray, List.set_cons_zero, List.set_cons_succ]
                  refine wpAnyH_done (by kernel_rfl) ?_ _
                  go_wp2
                  go_meet
                  exact ⟨by rw [HQE.out]; first | done | rfl, hHeld.1⟩
              | false =>
                as_aux_lemma =>
                  refine wp_region_held_drew (S := (fun W => Below wr.heap.size wr W ∧ (W.cell? ⟨b, o + i * 6, none⟩ = some (.string (bs ci)) ∧ W.cell? ⟨b, o + i * 6 + 1, none⟩ = some (.string (bs cb)) ∧ W.cell? ⟨b, o + i * 6 + 2, none⟩ = some (.int .i64 cs) ∧ W.cell? ⟨b, o + i * 6 + 3, none⟩ = some (.int .i64 ct) ∧ W.cell? ⟨b, o + i * 6 + 4, none⟩ = some (.int .i64 ca) ∧ W.cell? ⟨b, o + i * 6 + 5, none⟩ = some (.string (bs cr))) ∧ (W.cell? ⟨b, o + j * 6, none⟩ = some (.string (bs yi)) ∧ W.cell? ⟨b, o + j * 6 + 1, none⟩ = some (.string (bs yb)) ∧ W.cell? ⟨b, o + j * 6 + 2, none⟩ = some (.int .i64 ys) ∧ W.cell? ⟨b, o + j * 6 + 3, none⟩ = some (.int .i64 yt) ∧ W.cell? ⟨b, o + j * 6 + 4, none⟩ = some (.int .i64 ya) ∧ W.cell? ⟨b, o + j * 6 + 5, none⟩ = some (.string (bs yr))))) (by kernel_rfl) (⟨(Below.refl _ _).drew, FF.out _ (Below.refl _ _).drew⟩) (fun hHeld => ?_)
                  refine wpAnyH_take (i := 0) (oi := { dst := some 22, op := Go.Op.move (Go.Operand.tmp 0), type := 35, pos := "law.go:138", after := #[], guard := none }) (v := ?vby0) rfl (by kernel_rfl) (by kernel_rfl) (by kernel_rfl) (fun _ _ _ h => h) (Or.inl ⟨by rfl, ?yby0⟩) (by assumption) ?_
                  case yby0 => (intro wX hSw; (try dsimp only at hSw); go_simp <;> with_reducible rfl)
                  try simp only [Act.put, List.setIfInBounds_toArray, List.set_cons_zero, List.set_cons_succ]
                  refine wpAnyH_take (i := 1) (oi := { dst := some 23, op := Go.Op.move (Go.Operand.tmp 5), type := 3, pos := "law.go:138", after := #[], guard := none }) (v := ?vby1) rfl (by kernel_rfl) (by kernel_rfl) (by kernel_rfl) (fun _ _ _ h => h) (Or.inl ⟨by rfl, ?yby1⟩) (by assumption) ?_
                  case yby1 => (intro wX hSw; (try dsimp only at hSw); go_simp <;> with_reducible rfl)
                  try simp only [Act.put, List.setIfInBounds_toArray, List.set_cons_zero, List.set_cons_succ]
                  refine wpAnyH_take (i := 2) (oi := { dst := some 24, op := Go.Op.indexAddr 35 (Go.Operand.tmp 22) (Go.Operand.tmp 23), type := 0, pos := "law.go:138", after := #[{ on := 0, ground := Go.Ground.data }, { on := 1, ground := Go.Ground.data }], guard := none }) (v := ?vby2) rfl (by kernel_rfl) (by kernel_rfl) (by kernel_rfl) (fun _ _ _ h => h) (Or.inl ⟨by rfl, ?yby2⟩) (by assumption) ?_
                  case yby2 => (intro wX hSw; (try dsimp only at hSw); go_simp <;> with_reducible rfl)
                  try simp only [Act.put, List.setIfInBounds_toArray, List.set_cons_zero, List.set_cons_succ]
                  refine wpAnyH_take (i := 3) (oi := { dst := some 25, op := Go.Op.load 38 (Go.Operand.tmp 24), type := 38, pos := "law.go:138", after := #[{ on := 2, ground := Go.Ground.data }], guard := none }) (v := ?vby3) rfl (by kernel_rfl) (by kernel_rfl) (by kernel_rfl) (fun _ _ _ h => h) (Or.inl ⟨by rfl, ?yby3⟩) (by assumption) ?_
                  case yby3 => (intro wX hSw; (try dsimp only at hSw); go_simp <;> with_reducible rfl)
                  try simp only [Act.put, List.setIfInBounds_toArray, List.set_cons_zero, List.set_cons_succ]
                  refine wpAnyH_take (i := 4) (oi := { dst := some 26, op := Go.Op.move (Go.Operand.tmp 0), type := 35, pos := "law.go:138", after := #[], guard := none }) (v := ?vby4) rfl (by kernel_rfl) (by kernel_rfl) (by kernel_rfl) (fun _ _ _ h => h) (Or.inl ⟨by rfl, ?yby4⟩) (by assumption) ?_
                  case yby4 => (intro wX hSw; (try dsimp only at hSw); go_simp <;> with_reducible rfl)
                  try simp only [Act.put, List.setIfInBounds_toArray, List.set_cons_zero, List.set_cons_succ]
                  refine wpAnyH_take (i := 5) (oi := { dst := some 27, op := Go.Op.move (Go.Operand.tmp 8), type := 3, pos := "law.go:138", after := #[], guard := none }) (v := ?vby5) rfl (by kernel_rfl) (by kernel_rfl) (by kernel_rfl) (fun _ _ _ h => h) (Or.inl ⟨by rfl, ?yby5⟩) (by assumption) ?_
                  case yby5 => (intro wX hSw; (try dsimp only at hSw); go_simp <;> with_reducible rfl)
                  try simp only [Act.put, List.setIfInBounds_toArray, List.set_cons_zero, List.set_cons_succ]
                  refine wpAnyH_take (i := 6) (oi := { dst := some 28, op := Go.Op.indexAddr 35 (Go.Operand.tmp 26) (Go.Operand.tmp 27), type := 0, pos := "law.go:138", after := #[{ on := 4, ground := Go.Ground.data }, { on := 5, ground := Go.Ground.data }], guard := none }) (v := ?vby6) rfl (by kernel_rfl) (by kernel_rfl) (by kernel_rfl) (fun _ _ _ h => h) (Or.inl ⟨by rfl, ?yby6⟩) (by assumption) ?_
                  case yby6 => (intro wX hSw; (try dsimp only at hSw); go_simp <;> with_reducible rfl)
                  try simp only [Act.put, List.setIfInBounds_toArray, List.set_cons_zero, List.set_cons_succ]
                  refine wpAnyH_take (i := 7) (oi := { dst := some 29, op := Go.Op.load 38 (Go.Operand.tmp 28), type := 38, pos := "law.go:138", after := #[{ on := 6, ground := Go.Ground.data }], guard := none }) (v := ?vby7) rfl (by kernel_rfl) (by kernel_rfl) (by kernel_rfl) (fun _ _ _ h => h) (Or.inl ⟨by rfl, ?yby7⟩) (by assumption) ?_
                  case yby7 => (intro wX hSw; (try dsimp only at hSw); go_simp <;> with_reducible rfl)
                  try simp only [Act.put, List.setIfInBounds_toArray, List.set_cons_zero, List.set_cons_succ]
                  refine wpAnyH_ready (rs := [8]) (by kernel_rfl) (by simp) (AllReadyH.cons (o := { dst := some 30, op := Go.Op.call { callee := Go.Callee.value (Go.Operand.func 16), args := #[Go.Operand.tmp 25, Go.Operand.tmp 29], argTypes := #[38, 38] }, type := 4, pos := "law.go:138", after := #[{ on := 3, ground := Go.Ground.data }, { on := 7, ground := Go.Ground.data }], guard := none }) rfl (fun K hK => ?_) AllReadyH.nil)
                  (go_simp; go_at_call 16; refine (cA _).mono ?_; rintro e w7 ⟨rfl, hb7⟩)
                  refine hK.out _ _ (⟨(Below.refl _ _).drew.trans hb7, FF.out _ ((Below.refl _ _).drew.trans hb7)⟩) (fun hHeld => ?_)
                  clear hK K
                  try simp only [Act.put, List.setIfInBounds_toArray, List.set_cons_zero, List.set_cons_succ]
                  refine wpAnyH_take (i := 9) (oi := { dst := some 31, op := Go.Op.unOp Go.UnOp.not 4 (Go.Operand.tmp 30), type := 4, pos := "law.go:138", after := #[{ on := 8, ground := Go.Ground.data }], guard := none }) (v := ?vby9) rfl (by kernel_rfl) (by kernel_rfl) (by kernel_rfl) (fun _ _ _ h => h) (Or.inl ⟨by rfl, ?yby9⟩) (by assumption) ?_
                  case yby9 => (intro wX hSw; (try dsimp only at hSw); go_simp <;> with_reducible rfl)
                  try simp only [Act.put, List.setIfInBounds_toArray, List.set_cons_zero, List.set_cons_succ]
                  refine wpAnyH_take (i := 10) (oi := { dst := some 32, op := Go.Op.move (Go.Operand.tmp 31), type := 4, pos := "law.go:138", after := #[{ on := 9, ground := Go.Ground.data }, { on := 8, ground := Go.Ground.chain }], guard := none }) (v := ?vby10) rfl (by kernel_rfl) (by kernel_rfl) (by kernel_rfl) (fun _ _ _ h => h) (Or.inl ⟨by rfl, ?yby10⟩) (by assumption) ?_
                  case yby10 => (intro wX hSw; (try dsimp only at hSw); go_simp <;> with_reducible rfl)
                  try simp only [Act.put, List.setIfInBounds_toArray, List.set_cons_zero, List.set_cons_succ]
                  refine wpAnyH_take (i := 11) (oi := { dst := some 33, op := Go.Op.move (Go.Operand.tmp 0), type := 35, pos := "law.go:138", after := #[{ on := 10, ground := Go.Ground.guard }], guard := some (10, true) }) (v := ?vby11) rfl (by kernel_rfl) (by kernel_rfl) (by kernel_rfl) (fun _ _ _ h => h) (Or.inl ⟨by rfl, ?yby11⟩) (by assumption) ?_
                  case yby11 => (intro wX hSw; (try dsimp only at hSw); go_simp <;> with_reducible rfl)
                  try simp only [Act.put, List.setIfInBounds_toArray, List.set_cons_zero, List.set_cons_succ]
                  refine wpAnyH_take (i := 12) (oi := { dst := some 34, op := Go.Op.move (Go.Operand.tmp 8), type := 3, pos := "law.go:138", after := #[{ on := 10, ground := Go.Ground.guard }], guard := some (10, true) }) (v := ?vby12) rfl (by kernel_rfl) (by kernel_rfl) (by kernel_rfl) (fun _ _ _ h => h) (Or.inl ⟨by rfl, ?yby12⟩) (by assumption) ?_
                  case yby12 => (intro wX hSw; (try dsimp only at hSw); go_simp <;> with_reducible rfl)
                  try simp only [Act.put, List.setIfInBounds_toArray, List.set_cons_zero, List.set_cons_succ]
                  refine wpAnyH_take (i := 13) (oi := { dst := some 35, op := Go.Op.indexAddr 35 (Go.Operand.tmp 33) (Go.Operand.tmp 34), type := 0, pos := "law.go:138", after := #[{ on := 11, ground := Go.Ground.data }, { on := 12, ground := Go.Ground.data }, { on := 10, ground := Go.Ground.guard }], guard := some (10, true) }) (v := ?vby13) rfl (by kernel_rfl) (by kernel_rfl) (by kernel_rfl) (fun _ _ _ h => h) (Or.inl ⟨by rfl, ?yby13⟩) (by assumption) ?_
                  case yby13 => (intro wX hSw; (try dsimp only at hSw); go_simp <;> with_reducible rfl)
                  try simp only [Act.put, List.setIfInBounds_toArray, List.set_cons_zero, List.set_cons_succ]
                  refine wpAnyH_take (i := 14) (oi := { dst := some 36, op := Go.Op.load 38 (Go.Operand.tmp 35), type := 38, pos := "law.go:138", after := #[{ on := 13, ground := Go.Ground.data }, { on := 10, ground := Go.Ground.guard }], guard := some (10, true) }) (v := ?vby14) rfl (by kernel_rfl) (by kernel_rfl) (by kernel_rfl) (fun _ _ _ h => h) (Or.inl ⟨by rfl, ?yby14⟩) (by assumption) ?_
                  case yby14 => (intro wX hSw; (try dsimp only at hSw); go_simp <;> with_reducible rfl)
                  try simp only [Act.put, List.setIfInBounds_toArray, List.set_cons_zero, List.set_cons_succ]
                  refine wpAnyH_take (i := 15) (oi := { dst := some 37, op := Go.Op.move (Go.Operand.tmp 0), type := 35, pos := "law.go:138", after := #[{ on := 10, ground := Go.Ground.guard }], guard := some (10, true) }) (v := ?vby15) rfl (by kernel_rfl) (by kernel_rfl) (by kernel_rfl) (fun _ _ _ h => h) (Or.inl ⟨by rfl, ?yby15⟩) (by assumption) ?_
                  case yby15 => (intro wX hSw; (try dsimp only at hSw); go_simp <;> with_reducible rfl)
                  try simp only [Act.put, List.setIfInBounds_toArray, List.set_cons_zero, List.set_cons_succ]
                  refine wpAnyH_take (i := 16) (oi := { dst := some 38, op := Go.Op.move (Go.Operand.tmp 5), type := 3, pos := "law.go:138", after := #[{ on := 10, ground := Go.Ground.guard }], guard := some (10, true) }) (v := ?vby16) rfl (by kernel_rfl) (by kernel_rfl) (by kernel_rfl) (fun _ _ _ h => h) (Or.inl ⟨by rfl, ?yby16⟩) (by assumption) ?_
                  case yby16 => (intro wX hSw; (try dsimp only at hSw); go_simp <;> with_reducible rfl)
                  try simp only [Act.put, List.setIfInBounds_toArray, List.set_cons_zero, List.set_cons_succ]
                  refine wpAnyH_take (i := 17) (oi := { dst := some 39, op := Go.Op.indexAddr 35 (Go.Operand.tmp 37) (Go.Operand.tmp 38), type := 0, pos := "law.go:138", after := #[{ on := 15, ground := Go.Ground.data }, { on := 16, ground := Go.Ground.data }, { on := 10, ground := Go.Ground.guard }], guard := some (10, true) }) (v := ?vby17) rfl (by kernel_rfl) (by kernel_rfl) (by kernel_rfl) (fun _ _ _ h => h) (Or.inl ⟨by rfl, ?yby17⟩) (by assumption) ?_
                  case yby17 => (intro wX hSw; (try dsimp only at hSw); go_simp <;> with_reducible rfl)
                  try simp only [Act.put, List.setIfInBounds_toArray, List.set_cons_zero, List.set_cons_succ]
                  refine wpAnyH_take (i := 18) (oi := { dst := some 40, op := Go.Op.load 38 (Go.Operand.tmp 39), type := 38, pos := "law.go:138", after := #[{ on := 17, ground := Go.Ground.data }, { on := 10, ground := Go.Ground.guard }], guard := some (10, true) }) (v := ?vby18) rfl (by kernel_rfl) (by kernel_rfl) (by kernel_rfl) (fun _ _ _ h => h) (Or.inl ⟨by rfl, ?yby18⟩) (by assumption) ?_
                  case yby18 => (intro wX hSw; (try dsimp only at hSw); go_simp <;> with_reducible rfl)
                  try simp only [Act.put, List.setIfInBounds_toArray, List.set_cons_zero, List.set_cons_succ]
                  refine wpAnyH_ready (rs := [19]) (by kernel_rfl) (by simp) (AllReadyH.cons (o := { dst := some 41, op := Go.Op.call { callee := Go.Callee.value (Go.Operand.func 16), args := #[Go.Operand.tmp 36, Go.Operand.tmp 40], argTypes := #[38, 38] }, type := 4, pos := "law.go:138", after := #[{ on := 14, ground := Go.Ground.data }, { on := 18, ground := Go.Ground.data }, { on := 10, ground := Go.Ground.chain }, { on := 10, ground := Go.Ground.guard }], guard := some (10, true) }) rfl (fun K hK => ?_) AllReadyH.nil)
                  (go_simp; go_at_call 16; refine (cB _).mono ?_; rintro e w8 ⟨rfl, hb8⟩)
                  refine hK.out _ _ (⟨hHeld.1.trans (hb8.mono hHeld.1.size), FF.out _ (hHeld.1.trans (hb8.mono hHeld.1.size))⟩) (fun hHeld => ?_)
                  clear hK K
                  try simp only [Act.put, List.setIfInBounds_toArray, List.set_cons_zero, List.set_cons_succ]
                  refine wpAnyH_take (i := 20) (oi := { dst := some 42, op := Go.Op.unOp Go.UnOp.not 4 (Go.Operand.tmp 41), type := 4, pos := "law.go:138", after := #[{ on := 19, ground := Go.Ground.data }, { on := 10, ground := Go.Ground.guard }], guard := some (10, true) }) (v := ?vby20) rfl (by kernel_rfl) (by kernel_rfl) (by kernel_rfl) (fun _ _ _ h => h) (Or.inl ⟨by rfl, ?yby20⟩) (by assumption) ?_
                  case yby20 => (intro wX hSw; (try dsimp only at hSw); go_simp <;> with_reducible rfl)
                  try simp only [Act.put, List.setIfInBounds_toArray, List.set_cons_zero, List.set_cons_succ]
                  refine wpAnyH_take (i := 21) (oi := { dst := some 43, op := Go.Op.pick (Go.Operand.tmp 32) (Go.Operand.tmp 42) (Go.Operand.const (Go.Value.bool false)), type := 4, pos := "law.go:138", after := #[{ on := 10, ground := Go.Ground.data }, { on := 20, ground := Go.Ground.data }], guard := none }) (v := ?vby21) rfl (by kernel_rfl) (by kernel_rfl) (by kernel_rfl) (fun _ _ _ h => h) (Or.inl ⟨by rfl, ?yby21⟩) (by assumption) ?_
                  case yby21 => (intro wX hSw; (try dsimp only at hSw); go_simp <;> with_reducible rfl)
                  try simp only [Act.put, List.setIfInBounds_toArray, List.set_cons_zero, List.set_cons_succ]
                  refine wpAnyH_done (by kernel_rfl) ?_ _
                  go_wp2
                  go_meet
                  exact ⟨by rw [HQE.out]; first | done | rfl | simp, hHeld.1⟩
          case rest =>
              obtain ⟨rfl, hb9⟩ := hcut
              have hz9 := Lib.hid (two_below hz.out hb9)
              obtain ⟨p0, p1, p2, p3, p4, p5⟩ := (FF.out _ hb9).2
              clear FF cA cB hb9 HQE hz
              obtain ⟨i0, hi0, hz0, hz1, hz2'⟩ := info_parts infoCard2
              go_upto_if 43 with fail
              go_cut [6] (fun s6 wx => Hid (twoRows w wx s6 u7 ((l.take (j + 1)).filter (eqk ⟨ci, cb, cs, ct, ca, cr⟩)) ((x.take j).filter (eqk ⟨ci, cb, cs, ct, ca, cr⟩))))
              case first =>
                  cases q with
                  | true =>
                      have hz3 := hz9.out
                      have hlen : (((l.take j).filter (eqk ⟨ci, cb, cs, ct, ca, cr⟩))).length ≤ 1000 := by
                        have h1 := List.length_filter_le (eqk ⟨ci, cb, cs, ct, ca, cr⟩) (l.take j)
                        rw [List.length_take] at h1
                        omega
                      obtain ⟨va, vc, hva⟩ := own_form hz3.1
                      rw [hva] at hz3
                      have hown := Lib.hid (own_below hz3.1 ((Below.refl _ _).alloc (Nat.le_refl _) (.cells (cellsC ⟨yi, yb, ys, yt, ya, yr⟩) 38)))
                      have hbs := Lib.hid hz3.2.2.2.2.size
                      have GZ3 := Lib.hid hz3
                      subst hva
                      clear hz9 hz3
                      have hnc := Lib.hid (fun W => new_cells W ⟨yi, yb, ys, yt, ya, yr⟩)
                      have hco := Lib.hid (cells_one ⟨yi, yb, ys, yt, ya, yr⟩)
                      unfold cellsC at hown hnc hco
                      simp only at hown hnc hco
                      go_wp2_with (at_builtin; refine wpList_append_own_at _ rfl _ _ 35 rfl w.heap.size 38 i0 (.agg (cellsC noC)) 6 72 Tryd.underlying35 hi0 hz0 hz1 hz2' rfl (by decide) _ _ _ rfl hown.out ⟨_, 0, none⟩ 1 1 _ rfl rfl (hnc.out _) hco.out ?c3 ?c4 ?c5 ?_)
                      case c3 => unfold maxLen; omega
                      case c4 => omega
                      case c5 => have := hbs.out; simp; omega
                      intro v' w' hown' hgr' hne' hat'
                      have hz4 := two_app (y := ⟨yi, yb, ys, yt, ya, yr⟩) (X := .cells (cellsC ⟨yi, yb, ys, yt, ya, yr⟩) 38) GZ3.out hown' hgr' hat'
                      have hfin : Hid (twoRows w w' v' u7 ((l.take (j + 1)).filter (eqk ⟨ci, cb, cs, ct, ca, cr⟩)) ((x.take j).filter (eqk ⟨ci, cb, cs, ct, ca, cr⟩))) := by
                        have := HFT.out
                        first | rw [if_pos rfl] at this | rw [if_pos trivial] at this
                        rw [Hid, this]
                        exact hz4
                      clear hz4 hown' hgr' hne' hat' GZ3 hown HFT
                      go_wp2
                      go_meet
                      exact hfin
                  | false =>
                      have hfin : Hid (twoRows w wc u6 u7 ((l.take (j + 1)).filter (eqk ⟨ci, cb, cs, ct, ca, cr⟩)) ((x.take j).filter (eqk ⟨ci, cb, cs, ct, ca, cr⟩))) := by
                        have := HFT.out
                        rw [if_neg (by simp), List.append_nil] at this
                        rw [Hid, this]
                        exact hz9.out
                      clear hz9 HFT
                      go_wp2
                      go_meet
                      exact hfin
              case rest =>
                  clear HFT hz9 p0 p1 p2 p3 p4 p5 hi0 hz0 hz1 hz2'
                  have hzB := hcut
                  clear hcut
                  obtain ⟨⟨zi, zb, zs, zt, za, zr⟩, hzj⟩ : ∃ c, x[j]? = some c := ⟨_, List.getElem?_eq_getElem (by have := HX.out; omega)⟩
                  have hft := filter_take (p := eqk ⟨ci, cb, cs, ct, ca, cr⟩) hzj
                  obtain ⟨e1, he1⟩ : ∃ e1, lessC ⟨ci, cb, cs, ct, ca, cr⟩ ⟨zi, zb, zs, zt, za, zr⟩ = e1 := ⟨_, rfl⟩
                  obtain ⟨e2, he2⟩ : ∃ e2, lessC ⟨zi, zb, zs, zt, za, zr⟩ ⟨ci, cb, cs, ct, ca, cr⟩ = e2 := ⟨_, rfl⟩
                  obtain ⟨q, hq⟩ : ∃ q, eqk ⟨ci, cb, cs, ct, ca, cr⟩ ⟨zi, zb, zs, zt, za, zr⟩ = q := ⟨_, rfl⟩
                  have cA := fun W => less_any ⟨ci, cb, cs, ct, ca, cr⟩ ⟨zi, zb, zs, zt, za, zr⟩ W
                  have cB := fun W => less_any ⟨zi, zb, zs, zt, za, zr⟩ ⟨ci, cb, cs, ct, ca, cr⟩ W
                  rw [he1] at cA
                  rw [he2] at cB
                  have hqe := eqk_of he1 he2
                  rw [hq] at hqe hft
                  unfold cellsC at cA cB
                  simp only at cA cB
                  have FF : Hid (∀ W, Below wc.heap.size wc W → (W.cell? ⟨b, o + i * 6, none⟩ = some (.string (bs ci)) ∧ W.cell? ⟨b, o + i * 6 + 1, none⟩ = some (.string (bs cb)) ∧ W.cell? ⟨b, o + i * 6 + 2, none⟩ = some (.int .i64 cs) ∧ W.cell? ⟨b, o + i * 6 + 3, none⟩ = some (.int .i64 ct) ∧ W.cell? ⟨b, o + i * 6 + 4, none⟩ = some (.int .i64 ca) ∧ W.cell? ⟨b, o + i * 6 + 5, none⟩ = some (.string (bs cr))) ∧ (W.cell? ⟨b2, o2 + j * 6, none⟩ = some (.string (bs zi)) ∧ W.cell? ⟨b2, o2 + j * 6 + 1, none⟩ = some (.string (bs zb)) ∧ W.cell? ⟨b2, o2 + j * 6 + 2, none⟩ = some (.int .i64 zs) ∧ W.cell? ⟨b2, o2 + j * 6 + 3, none⟩ = some (.int .i64 zt) ∧ W.cell? ⟨b2, o2 + j * 6 + 4, none⟩ = some (.int .i64 za) ∧ W.cell? ⟨b2, o2 + j * 6 + 5, none⟩ = some (.string (bs zr)))) := fun W hW => by
                    have hbw := hzB.out.2.2.2.2.trans (hW.mono hzB.out.2.2.2.2.size)
                    exact ⟨(HL.out.below hbw).cells HCI.out, (HL2.out.below hbw).cells hzj⟩
                  have HFT := Lib.hid hft
                  have HQE := Lib.hid hqe
                  clear hzj hft he1 he2 hq hqe
                  go_upto_region 11 with fail
                  go_cut [72] (fun s72 wx => s72 = .bool q ∧ Below wc.heap.size wc wx)
                  case first =>
                      have gx := (FF.out _ (Below.refl _ _).drew)
                      clear hzB HFT
                      cases e1 with
                      | true =>
                        as_aux_lemma =>
                          refine wp_region_held_drew (S := (fun W => Below wc.heap.size wc W ∧ (W.cell? ⟨b, o + i * 6, none⟩ = some (.string (bs ci)) ∧ W.cell? ⟨b, o + i * 6 + 1, none⟩ = some (.string (bs cb)) ∧ W.cell? ⟨b, o + i * 6 + 2, none⟩ = some (.int .i64 cs) ∧ W.cell? ⟨b, o + i * 6 + 3, none⟩ = some (.int .i64 ct) ∧ W.cell? ⟨b, o + i * 6 + 4, none⟩ = some (.int .i64 ca) ∧ W.cell? ⟨b, o + i * 6 + 5, none⟩ = some (.string (bs cr))) ∧ (W.cell? ⟨b2, o2 + j * 6, none⟩ = some (.string (bs zi)) ∧ W.cell? ⟨b2, o2 + j * 6 + 1, none⟩ = some (.string (bs zb)) ∧ W.cell? ⟨b2, o2 + j * 6 + 2, none⟩ = some (.int .i64 zs) ∧ W.cell? ⟨b2, o2 + j * 6 + 3, none⟩ = some (.int .i64 zt) ∧ W.cell? ⟨b2, o2 + j * 6 + 4, none⟩ = some (.int .i64 za) ∧ W.cell? ⟨b2, o2 + j * 6 + 5, none⟩ = some (.string (bs zr))))) (by kernel_rfl) (⟨(Below.refl _ _).drew, FF.out _ (Below.refl _ _).drew⟩) (fun hHeld => ?_)
                          refine wpAnyH_take (i := 0) (oi := { dst := some 51, op := Go.Op.move (Go.Operand.tmp 0), type := 35, pos := "law.go:141", after := #[], guard := none }) (v := ?vaz0) rfl (by kernel_rfl) (by kernel_rfl) (by kernel_rfl) (fun _ _ _ h => h) (Or.inl ⟨by rfl, ?yaz0⟩) (by assumption) ?_
                          case yaz0 => (intro wX hSw; (try dsimp only at hSw); go_simp <;> with_reducible rfl)
                          try simp only [Act.put, List.setIfInBounds_toArray, List.set_cons_zero, List.set_cons_succ]
                          refine wpAnyH_take (i := 1) (oi := { dst := some 52, op := Go.Op.move (Go.Operand.tmp 5), type := 3, pos := "law.go:141", after := #[], guard := none }) (v := ?vaz1) rfl (by kernel_rfl) (by kernel_rfl) (by kernel_rfl) (fun _ _ _ h => h) (Or.inl ⟨by rfl, ?yaz1⟩) (by assumption) ?_
                          case yaz1 => (intro wX hSw; (try dsimp only at hSw); go_simp <;> with_reducible rfl)
                          try simp only [Act.put, List.setIfInBounds_toArray, List.set_cons_zero, List.set_cons_succ]
                          refine wpAnyH_take (i := 2) (oi := { dst := some 53, op := Go.Op.indexAddr 35 (Go.Operand.tmp 51) (Go.Operand.tmp 52), type := 0, pos := "law.go:141", after := #[{ on := 0, ground := Go.Ground.data }, { on := 1, ground := Go.Ground.data }], guard := none }) (v := ?vaz2) rfl (by kernel_rfl) (by kernel_rfl) (by kernel_rfl) (fun _ _ _ h => h) (Or.inl ⟨by rfl, ?yaz2⟩) (by assumption) ?_
                          case yaz2 => (intro wX hSw; (try dsimp only at hSw); go_simp <;> with_reducible rfl)
                          try simp only [Act.put, List.setIfInBounds_toArray, List.set_cons_zero, List.set_cons_succ]
                          refine wpAnyH_take (i := 3) (oi := { dst := some 54, op := Go.Op.load 38 (Go.Operand.tmp 53), type := 38, pos := "law.go:141", after := #[{ on := 2, ground := Go.Ground.data }], guard := none }) (v := ?vaz3) rfl (by kernel_rfl) (by kernel_rfl) (by kernel_rfl) (fun _ _ _ h => h) (Or.inl ⟨by rfl, ?yaz3⟩) (by assumption) ?_
                          case yaz3 => (intro wX hSw; (try dsimp only at hSw); go_simp <;> with_reducible rfl)
                          try simp only [Act.put, List.setIfInBounds_toArray, List.set_cons_zero, List.set_cons_succ]
                          refine wpAnyH_take (i := 4) (oi := { dst := some 55, op := Go.Op.move (Go.Operand.tmp 1), type := 35, pos := "law.go:141", after := #[], guard := none }) (v := ?vaz4) rfl (by kernel_rfl) (by kernel_rfl) (by kernel_rfl) (fun _ _ _ h => h) (Or.inl ⟨by rfl, ?yaz4⟩) (by assumption) ?_
                          case yaz4 => (intro wX hSw; (try dsimp only at hSw); go_simp <;> with_reducible rfl)
                          try simp only [Act.put, List.setIfInBounds_toArray, List.set_cons_zero, List.set_cons_succ]
                          refine wpAnyH_take (i := 5) (oi := { dst := some 56, op := Go.Op.move (Go.Operand.tmp 8), type := 3, pos := "law.go:141", after := #[], guard := none }) (v := ?vaz5) rfl (by kernel_rfl) (by kernel_rfl) (by kernel_rfl) (fun _ _ _ h => h) (Or.inl ⟨by rfl, ?yaz5⟩) (by assumption) ?_
                          case yaz5 => (intro wX hSw; (try dsimp only at hSw); go_simp <;> with_reducible rfl)
                          try simp only [Act.put, List.setIfInBounds_toArray, List.set_cons_zero, List.set_cons_succ]
                          refine wpAnyH_take (i := 6) (oi := { dst := some 57, op := Go.Op.indexAddr 35 (Go.Operand.tmp 55) (Go.Operand.tmp 56), type := 0, pos := "law.go:141", after := #[{ on := 4, ground := Go.Ground.data }, { on := 5, ground := Go.Ground.data }], guard := none }) (v := ?vaz6) rfl (by kernel_rfl) (by kernel_rfl) (by kernel_rfl) (fun _ _ _ h => h) (Or.inl ⟨by rfl, ?yaz6⟩) (by assumption) ?_
                          case yaz6 => (intro wX hSw; (try dsimp only at hSw); go_simp <;> with_reducible rfl)
                          try simp only [Act.put, List.setIfInBounds_toArray, List.set_cons_zero, List.set_cons_succ]
                          refine wpAnyH_take (i := 7) (oi := { dst := some 58, op := Go.Op.load 38 (Go.Operand.tmp 57), type := 38, pos := "law.go:141", after := #[{ on := 6, ground := Go.Ground.data }], guard := none }) (v := ?vaz7) rfl (by kernel_rfl) (by kernel_rfl) (by kernel_rfl) (fun _ _ _ h => h) (Or.inl ⟨by rfl, ?yaz7⟩) (by assumption) ?_
                          case yaz7 => (intro wX hSw; (try dsimp only at hSw); go_simp <;> with_reducible rfl)
                          try simp only [Act.put, List.setIfInBounds_toArray, List.set_cons_zero, List.set_cons_succ]
                          refine wpAnyH_ready (rs := [8]) (by kernel_rfl) (by simp) (AllReadyH.cons (o := { dst := some 59, op := Go.Op.call { callee := Go.Callee.value (Go.Operand.func 16), args := #[Go.Operand.tmp 54, Go.Operand.tmp 58], argTypes := #[38, 38] }, type := 4, pos := "law.go:141", after := #[{ on := 3, ground := Go.Ground.data }, { on := 7, ground := Go.Ground.data }], guard := none }) rfl (fun K hK => ?_) AllReadyH.nil)
                          (go_simp; go_at_call 16; refine (cA _).mono ?_; rintro e w7 ⟨rfl, hb7⟩)
                          refine hK.out _ _ (⟨(Below.refl _ _).drew.trans hb7, FF.out _ ((Below.refl _ _).drew.trans hb7)⟩) (fun hHeld => ?_)
                          clear hK K
                          try simp only [Act.put, List.setIfInBounds_toArray, List.set_cons_zero, List.set_cons_succ]
                          refine wpAnyH_take (i := 9) (oi := { dst := some 60, op := Go.Op.unOp Go.UnOp.not 4 (Go.Operand.tmp 59), type := 4, pos := "law.go:141", after := #[{ on := 8, ground := Go.Ground.data }], guard := none }) (v := ?vaz9) rfl (by kernel_rfl) (by kernel_rfl) (by kernel_rfl) (fun _ _ _ h => h) (Or.inl ⟨by rfl, ?yaz9⟩) (by assumption) ?_
                          case yaz9 => (intro wX hSw; (try dsimp only at hSw); go_simp <;> with_reducible rfl)
                          try simp only [Act.put, List.setIfInBounds_toArray, List.set_cons_zero, List.set_cons_succ]
                          refine wpAnyH_take (i := 10) (oi := { dst := some 61, op := Go.Op.move (Go.Operand.tmp 60), type := 4, pos := "law.go:141", after := #[{ on := 9, ground := Go.Ground.data }, { on := 8, ground := Go.Ground.chain }], guard := none }) (v := ?vaz10) rfl (by kernel_rfl) (by kernel_rfl) (by kernel_rfl) (fun _ _ _ h => h) (Or.inl ⟨by rfl, ?yaz10⟩) (by assumption) ?_
                          case yaz10 => (intro wX hSw; (try dsimp only at hSw); go_simp <;> with_reducible rfl)
                          try simp only [Act.put, List.setIfInBounds_toArray, List.set_cons_zero, List.set_cons_succ]
                          refine wpAnyH_take (i := 11) (oi := { dst := some 62, op := Go.Op.move (Go.Operand.tmp 1), type := 35, pos := "law.go:141", after := #[{ on := 10, ground := Go.Ground.guard }], guard := some (10, true) }) (v := undef) rfl (by kernel_rfl) (by kernel_rfl) (by kernel_rfl) (fun _ _ _ h => h) (Or.inr ⟨by rfl, rfl⟩) (by assumption) ?_
                          try simp only [Act.put, List.setIfInBounds_toArray, List.set_cons_zero, List.set_cons_succ]
                          refine wpAnyH_take (i := 12) (oi := { dst := some 63, op := Go.Op.move (Go.Operand.tmp 8), type := 3, pos := "law.go:141", after := #[{ on := 10, ground := Go.Ground.guard }], guard := some (10, true) }) (v := undef) rfl (by kernel_rfl) (by kernel_rfl) (by kernel_rfl) (fun _ _ _ h => h) (Or.inr ⟨by rfl, rfl⟩) (by assumption) ?_
                          try simp only [Act.put, List.setIfInBounds_toArray, List.set_cons_zero, List.set_cons_succ]
                          refine wpAnyH_take (i := 13) (oi := { dst := some 64, op := Go.Op.indexAddr 35 (Go.Operand.tmp 62) (Go.Operand.tmp 63), type := 0, pos := "law.go:141", after := #[{ on := 11, ground := Go.Ground.data }, { on := 12, ground := Go.Ground.data }, { on := 10, ground := Go.Ground.guard }], guard := some (10, true) }) (v := undef) rfl (by kernel_rfl) (by kernel_rfl) (by kernel_rfl) (fun _ _ _ h => h) (Or.inr ⟨by rfl, rfl⟩) (by assumption) ?_
                          try simp only [Act.put, List.setIfInBounds_toArray, List.set_cons_zero, List.set_cons_succ]
                          refine wpAnyH_take (i := 14) (oi := { dst := some 65, op := Go.Op.load 38 (Go.Operand.tmp 64), type := 38, pos := "law.go:141", after := #[{ on := 13, ground := Go.Ground.data }, { on := 10, ground := Go.Ground.guard }], guard := some (10, true) }) (v := undef) rfl (by kernel_rfl) (by kernel_rfl) (by kernel_rfl) (fun _ _ _ h => h) (Or.inr ⟨by rfl, rfl⟩) (by assumption) ?_
                          try simp only [Act.put, List.setIfInBounds_toArray, List.set_cons_zero, List.set_cons_succ]
                          refine wpAnyH_take (i := 15) (oi := { dst := some 66, op := Go.Op.move (Go.Operand.tmp 0), type := 35, pos := "law.go:141", after := #[{ on := 10, ground := Go.Ground.guard }], guard := some (10, true) }) (v := undef) rfl (by kernel_rfl) (by kernel_rfl) (by kernel_rfl) (fun _ _ _ h => h) (Or.inr ⟨by rfl, rfl⟩) (by assumption) ?_
                          try simp only [Act.put, List.setIfInBounds_toArray, List.set_cons_zero, List.set_cons_succ]
                          refine wpAnyH_take (i := 16) (oi := { dst := some 67, op := Go.Op.move (Go.Operand.tmp 5), type := 3, pos := "law.go:141", after := #[{ on := 10, ground := Go.Ground.guard }], guard := some (10, true) }) (v := undef) rfl (by kernel_rfl) (by kernel_rfl) (by kernel_rfl) (fun _ _ _ h => h) (Or.inr ⟨by rfl, rfl⟩) (by assumption) ?_
                          try simp only [Act.put, List.setIfInBounds_toArray, List.set_cons_zero, List.set_cons_succ]
                          refine wpAnyH_take (i := 17) (oi := { dst := some 68, op := Go.Op.indexAddr 35 (Go.Operand.tmp 66) (Go.Operand.tmp 67), type := 0, pos := "law.go:141", after := #[{ on := 15, ground := Go.Ground.data }, { on := 16, ground := Go.Ground.data }, { on := 10, ground := Go.Ground.guard }], guard := some (10, true) }) (v := undef) rfl (by kernel_rfl) (by kernel_rfl) (by kernel_rfl) (fun _ _ _ h => h) (Or.inr ⟨by rfl, rfl⟩) (by assumption) ?_
                          try simp only [Act.put, List.setIfInBounds_toArray, List.set_cons_zero, List.set_cons_succ]
                          refine wpAnyH_take (i := 18) (oi := { dst := some 69, op := Go.Op.load 38 (Go.Operand.tmp 68), type := 38, pos := "law.go:141", after := #[{ on := 17, ground := Go.Ground.data }, { on := 10, ground := Go.Ground.guard }], guard := some (10, true) }) (v := undef) rfl (by kernel_rfl) (by kernel_rfl) (by kernel_rfl) (fun _ _ _ h => h) (Or.inr ⟨by rfl, rfl⟩) (by assumption) ?_
                          try simp only [Act.put, List.setIfInBounds_toArray, List.set_cons_zero, List.set_cons_succ]
                          refine wpAnyH_take (i := 19) (oi := { dst := some 70, op := Go.Op.call { callee := Go.Callee.value (Go.Operand.func 16), args := #[Go.Operand.tmp 65, Go.Operand.tmp 69], argTypes := #[38, 38] }, type := 4, pos := "law.go:141", after := #[{ on := 14, ground := Go.Ground.data }, { on := 18, ground := Go.Ground.data }, { on := 10, ground := Go.Ground.chain }, { on := 10, ground := Go.Ground.guard }], guard := some (10, true) }) (v := undef) rfl (by kernel_rfl) (by kernel_rfl) (by kernel_rfl) (fun _ _ _ h => h) (Or.inr ⟨by rfl, rfl⟩) (by assumption) ?_
                          try simp only [Act.put, List.setIfInBounds_toArray, List.set_cons_zero, List.set_cons_succ]
                          refine wpAnyH_take (i := 20) (oi := { dst := some 71, op := Go.Op.unOp Go.UnOp.not 4 (Go.Operand.tmp 70), type := 4, pos := "law.go:141", after := #[{ on := 19, ground := Go.Ground.data }, { on := 10, ground := Go.Ground.guard }], guard := some (10, true) }) (v := undef) rfl (by kernel_rfl) (by kernel_rfl) (by kernel_rfl) (fun _ _ _ h => h) (Or.inr ⟨by rfl, rfl⟩) (by assumption) ?_
                          try simp only [Act.put, List.setIfInBounds_toArray, List.set_cons_zero, List.set_cons_succ]
                          refine wpAnyH_take (i := 21) (oi := { dst := some 72, op := Go.Op.pick (Go.Operand.tmp 61) (Go.Operand.tmp 71) (Go.Operand.const (Go.Value.bool false)), type := 4, pos := "law.go:141", after := #[{ on := 10, ground := Go.Ground.data }, { on := 20, ground := Go.Ground.data }], guard := none }) (v := ?vaz21) rfl (by kernel_rfl) (by kernel_rfl) (by kernel_rfl) (fun _ _ _ h => h) (Or.inl ⟨by rfl, ?yaz21⟩) (by assumption) ?_
                          case yaz21 => (intro wX hSw; (try dsimp only at hSw); go_simp <;> with_reducible rfl)
                          try simp only [Act.put, List.setIfInBounds_toArray, List.set_cons_zero, List.set_cons_succ]
                          refine wpAnyH_done (by kernel_rfl) ?_ _
                          go_wp2
                          go_meet
                          exact ⟨by rw [HQE.out]; first | done | rfl, hHeld.1⟩
                      | false =>
                        as_aux_lemma =>
                          refine wp_region_held_drew (S := (fun W => Below wc.heap.size wc W ∧ (W.cell? ⟨b, o + i * 6, none⟩ = some (.string (bs ci)) ∧ W.cell? ⟨b, o + i * 6 + 1, none⟩ = some (.string (bs cb)) ∧ W.cell? ⟨b, o + i * 6 + 2, none⟩ = some (.int .i64 cs) ∧ W.cell? ⟨b, o + i * 6 + 3, none⟩ = some (.int .i64 ct) ∧ W.cell? ⟨b, o + i * 6 + 4, none⟩ = some (.int .i64 ca) ∧ W.cell? ⟨b, o + i * 6 + 5, none⟩ = some (.string (bs cr))) ∧ (W.cell? ⟨b2, o2 + j * 6, none⟩ = some (.string (bs zi)) ∧ W.cell? ⟨b2, o2 + j * 6 + 1, none⟩ = some (.string (bs zb)) ∧ W.cell? ⟨b2, o2 + j * 6 + 2, none⟩ = some (.int .i64 zs) ∧ W.cell? ⟨b2, o2 + j * 6 + 3, none⟩ = some (.int .i64 zt) ∧ W.cell? ⟨b2, o2 + j * 6 + 4, none⟩ = some (.int .i64 za) ∧ W.cell? ⟨b2, o2 + j * 6 + 5, none⟩ = some (.string (bs zr))))) (by kernel_rfl) (⟨(Below.refl _ _).drew, FF.out _ (Below.refl _ _).drew⟩) (fun hHeld => ?_)
                          refine wpAnyH_take (i := 0) (oi := { dst := some 51, op := Go.Op.move (Go.Operand.tmp 0), type := 35, pos := "law.go:141", after := #[], guard := none }) (v := ?vbz0) rfl (by kernel_rfl) (by kernel_rfl) (by kernel_rfl) (fun _ _ _ h => h) (Or.inl ⟨by rfl, ?ybz0⟩) (by assumption) ?_
                          case ybz0 => (intro wX hSw; (try dsimp only at hSw); go_simp <;> with_reducible rfl)
                          try simp only [Act.put, List.setIfInBounds_toArray, List.set_cons_zero, List.set_cons_succ]
                          refine wpAnyH_take (i := 1) (oi := { dst := some 52, op := Go.Op.move (Go.Operand.tmp 5), type := 3, pos := "law.go:141", after := #[], guard := none }) (v := ?vbz1) rfl (by kernel_rfl) (by kernel_rfl) (by kernel_rfl) (fun _ _ _ h => h) (Or.inl ⟨by rfl, ?ybz1⟩) (by assumption) ?_
                          case ybz1 => (intro wX hSw; (try dsimp only at hSw); go_simp <;> with_reducible rfl)
                          try simp only [Act.put, List.setIfInBounds_toArray, List.set_cons_zero, List.set_cons_succ]
                          refine wpAnyH_take (i := 2) (oi := { dst := some 53, op := Go.Op.indexAddr 35 (Go.Operand.tmp 51) (Go.Operand.tmp 52), type := 0, pos := "law.go:141", after := #[{ on := 0, ground := Go.Ground.data }, { on := 1, ground := Go.Ground.data }], guard := none }) (v := ?vbz2) rfl (by kernel_rfl) (by kernel_rfl) (by kernel_rfl) (fun _ _ _ h => h) (Or.inl ⟨by rfl, ?ybz2⟩) (by assumption) ?_
                          case ybz2 => (intro wX hSw; (try dsimp only at hSw); go_simp <;> with_reducible rfl)
                          try simp only [Act.put, List.setIfInBounds_toArray, List.set_cons_zero, List.set_cons_succ]
                          refine wpAnyH_take (i := 3) (oi := { dst := some 54, op := Go.Op.load 38 (Go.Operand.tmp 53), type := 38, pos := "law.go:141", after := #[{ on := 2, ground := Go.Ground.data }], guard := none }) (v := ?vbz3) rfl (by kernel_rfl) (by kernel_rfl) (by kernel_rfl) (fun _ _ _ h => h) (Or.inl ⟨by rfl, ?ybz3⟩) (by assumption) ?_
                          case ybz3 => (intro wX hSw; (try dsimp only at hSw); go_simp <;> with_reducible rfl)
                          try simp only [Act.put, List.setIfInBounds_toArray, List.set_cons_zero, List.set_cons_succ]
                          refine wpAnyH_take (i := 4) (oi := { dst := some 55, op := Go.Op.move (Go.Operand.tmp 1), type := 35, pos := "law.go:141", after := #[], guard := none }) (v := ?vbz4) rfl (by kernel_rfl) (by kernel_rfl) (by kernel_rfl) (fun _ _ _ h => h) (Or.inl ⟨by rfl, ?ybz4⟩) (by assumption) ?_
                          case ybz4 => (intro wX hSw; (try dsimp only at hSw); go_simp <;> with_reducible rfl)
                          try simp only [Act.put, List.setIfInBounds_toArray, List.set_cons_zero, List.set_cons_succ]
                          refine wpAnyH_take (i := 5) (oi := { dst := some 56, op := Go.Op.move (Go.Operand.tmp 8), type := 3, pos := "law.go:141", after := #[], guard := none }) (v := ?vbz5) rfl (by kernel_rfl) (by kernel_rfl) (by kernel_rfl) (fun _ _ _ h => h) (Or.inl ⟨by rfl, ?ybz5⟩) (by assumption) ?_
                          case ybz5 => (intro wX hSw; (try dsimp only at hSw); go_simp <;> with_reducible rfl)
                          try simp only [Act.put, List.setIfInBounds_toArray, List.set_cons_zero, List.set_cons_succ]
                          refine wpAnyH_take (i := 6) (oi := { dst := some 57, op := Go.Op.indexAddr 35 (Go.Operand.tmp 55) (Go.Operand.tmp 56), type := 0, pos := "law.go:141", after := #[{ on := 4, ground := Go.Ground.data }, { on := 5, ground := Go.Ground.data }], guard := none }) (v := ?vbz6) rfl (by kernel_rfl) (by kernel_rfl) (by kernel_rfl) (fun _ _ _ h => h) (Or.inl ⟨by rfl, ?ybz6⟩) (by assumption) ?_
                          case ybz6 => (intro wX hSw; (try dsimp only at hSw); go_simp <;> with_reducible rfl)
                          try simp only [Act.put, List.setIfInBounds_toArray, List.set_cons_zero, List.set_cons_succ]
                          refine wpAnyH_take (i := 7) (oi := { dst := some 58, op := Go.Op.load 38 (Go.Operand.tmp 57), type := 38, pos := "law.go:141", after := #[{ on := 6, ground := Go.Ground.data }], guard := none }) (v := ?vbz7) rfl (by kernel_rfl) (by kernel_rfl) (by kernel_rfl) (fun _ _ _ h => h) (Or.inl ⟨by rfl, ?ybz7⟩) (by assumption) ?_
                          case ybz7 => (intro wX hSw; (try dsimp only at hSw); go_simp <;> with_reducible rfl)
                          try simp only [Act.put, List.setIfInBounds_toArray, List.set_cons_zero, List.set_cons_succ]
                          refine wpAnyH_ready (rs := [8]) (by kernel_rfl) (by simp) (AllReadyH.cons (o := { dst := some 59, op := Go.Op.call { callee := Go.Callee.value (Go.Operand.func 16), args := #[Go.Operand.tmp 54, Go.Operand.tmp 58], argTypes := #[38, 38] }, type := 4, pos := "law.go:141", after := #[{ on := 3, ground := Go.Ground.data }, { on := 7, ground := Go.Ground.data }], guard := none }) rfl (fun K hK => ?_) AllReadyH.nil)
                          (go_simp; go_at_call 16; refine (cA _).mono ?_; rintro e w7 ⟨rfl, hb7⟩)
                          refine hK.out _ _ (⟨(Below.refl _ _).drew.trans hb7, FF.out _ ((Below.refl _ _).drew.trans hb7)⟩) (fun hHeld => ?_)
                          clear hK K
                          try simp only [Act.put, List.setIfInBounds_toArray, List.set_cons_zero, List.set_cons_succ]
                          refine wpAnyH_take (i := 9) (oi := { dst := some 60, op := Go.Op.unOp Go.UnOp.not 4 (Go.Operand.tmp 59), type := 4, pos := "law.go:141", after := #[{ on := 8, ground := Go.Ground.data }], guard := none }) (v := ?vbz9) rfl (by kernel_rfl) (by kernel_rfl) (by kernel_rfl) (fun _ _ _ h => h) (Or.inl ⟨by rfl, ?ybz9⟩) (by assumption) ?_
                          case ybz9 => (intro wX hSw; (try dsimp only at hSw); go_simp <;> with_reducible rfl)
                          try simp only [Act.put, List.setIfInBounds_toArray, List.set_cons_zero, List.set_cons_succ]
                          refine wpAnyH_take (i := 10) (oi := { dst := some 61, op := Go.Op.move (Go.Operand.tmp 60), type := 4, pos := "law.go:141", after := #[{ on := 9, ground := Go.Ground.data }, { on := 8, ground := Go.Ground.chain }], guard := none }) (v := ?vbz10) rfl (by kernel_rfl) (by kernel_rfl) (by kernel_rfl) (fun _ _ _ h => h) (Or.inl ⟨by rfl, ?ybz10⟩) (by assumption) ?_
                          case ybz10 => (intro wX hSw; (try dsimp only at hSw); go_simp <;> with_reducible rfl)
                          try simp only [Act.put, List.setIfInBounds_toArray, List.set_cons_zero, List.set_cons_succ]
                          refine wpAnyH_take (i := 11) (oi := { dst := some 62, op := Go.Op.move (Go.Operand.tmp 1), type := 35, pos := "law.go:141", after := #[{ on := 10, ground := Go.Ground.guard }], guard := some (10, true) }) (v := ?vbz11) rfl (by kernel_rfl) (by kernel_rfl) (by kernel_rfl) (fun _ _ _ h => h) (Or.inl ⟨by rfl, ?ybz11⟩) (by assumption) ?_
                          case ybz11 => (intro wX hSw; (try dsimp only at hSw); go_simp <;> with_reducible rfl)
                          try simp only [Act.put, List.setIfInBounds_toArray, List.set_cons_zero, List.set_cons_succ]
                          refine wpAnyH_take (i := 12) (oi := { dst := some 63, op := Go.Op.move (Go.Operand.tmp 8), type := 3, pos := "law.go:141", after := #[{ on := 10, ground := Go.Ground.guard }], guard := some (10, true) }) (v := ?vbz12) rfl (by kernel_rfl) (by kernel_rfl) (by kernel_rfl) (fun _ _ _ h => h) (Or.inl ⟨by rfl, ?ybz12⟩) (by assumption) ?_
                          case ybz12 => (intro wX hSw; (try dsimp only at hSw); go_simp <;> with_reducible rfl)
                          try simp only [Act.put, List.setIfInBounds_toArray, List.set_cons_zero, List.set_cons_succ]
                          refine wpAnyH_take (i := 13) (oi := { dst := some 64, op := Go.Op.indexAddr 35 (Go.Operand.tmp 62) (Go.Operand.tmp 63), type := 0, pos := "law.go:141", after := #[{ on := 11, ground := Go.Ground.data }, { on := 12, ground := Go.Ground.data }, { on := 10, ground := Go.Ground.guard }], guard := some (10, true) }) (v := ?vbz13) rfl (by kernel_rfl) (by kernel_rfl) (by kernel_rfl) (fun _ _ _ h => h) (Or.inl ⟨by rfl, ?ybz13⟩) (by assumption) ?_
                          case ybz13 => (intro wX hSw; (try dsimp only at hSw); go_simp <;> with_reducible rfl)
                          try simp only [Act.put, List.setIfInBounds_toArray, List.set_cons_zero, List.set_cons_succ]
                          refine wpAnyH_take (i := 14) (oi := { dst := some 65, op := Go.Op.load 38 (Go.Operand.tmp 64), type := 38, pos := "law.go:141", after := #[{ on := 13, ground := Go.Ground.data }, { on := 10, ground := Go.Ground.guard }], guard := some (10, true) }) (v := ?vbz14) rfl (by kernel_rfl) (by kernel_rfl) (by kernel_rfl) (fun _ _ _ h => h) (Or.inl ⟨by rfl, ?ybz14⟩) (by assumption) ?_
                          case ybz14 => (intro wX hSw; (try dsimp only at hSw); go_simp <;> with_reducible rfl)
                          try simp only [Act.put, List.setIfInBounds_toArray, List.set_cons_zero, List.set_cons_succ]
                          refine wpAnyH_take (i := 15) (oi := { dst := some 66, op := Go.Op.move (Go.Operand.tmp 0), type := 35, pos := "law.go:141", after := #[{ on := 10, ground := Go.Ground.guard }], guard := some (10, true) }) (v := ?vbz15) rfl (by kernel_rfl) (by kernel_rfl) (by kernel_rfl) (fun _ _ _ h => h) (Or.inl ⟨by rfl, ?ybz15⟩) (by assumption) ?_
                          case ybz15 => (intro wX hSw; (try dsimp only at hSw); go_simp <;> with_reducible rfl)
                          try simp only [Act.put, List.setIfInBounds_toArray, List.set_cons_zero, List.set_cons_succ]
                          refine wpAnyH_take (i := 16) (oi := { dst := some 67, op := Go.Op.move (Go.Operand.tmp 5), type := 3, pos := "law.go:141", after := #[{ on := 10, ground := Go.Ground.guard }], guard := some (10, true) }) (v := ?vbz16) rfl (by kernel_rfl) (by kernel_rfl) (by kernel_rfl) (fun _ _ _ h => h) (Or.inl ⟨by rfl, ?ybz16⟩) (by assumption) ?_
                          case ybz16 => (intro wX hSw; (try dsimp only at hSw); go_simp <;> with_reducible rfl)
                          try simp only [Act.put, List.setIfInBounds_toArray, List.set_cons_zero, List.set_cons_succ]
                          refine wpAnyH_take (i := 17) (oi := { dst := some 68, op := Go.Op.indexAddr 35 (Go.Operand.tmp 66) (Go.Operand.tmp 67), type := 0, pos := "law.go:141", after := #[{ on := 15, ground := Go.Ground.data }, { on := 16, ground := Go.Ground.data }, { on := 10, ground := Go.Ground.guard }], guard := some (10, true) }) (v := ?vbz17) rfl (by kernel_rfl) (by kernel_rfl) (by kernel_rfl) (fun _ _ _ h => h) (Or.inl ⟨by rfl, ?ybz17⟩) (by assumption) ?_
                          case ybz17 => (intro wX hSw; (try dsimp only at hSw); go_simp <;> with_reducible rfl)
                          try simp only [Act.put, List.setIfInBounds_toArray, List.set_cons_zero, List.set_cons_succ]
                          refine wpAnyH_take (i := 18) (oi := { dst := some 69, op := Go.Op.load 38 (Go.Operand.tmp 68), type := 38, pos := "law.go:141", after := #[{ on := 17, ground := Go.Ground.data }, { on := 10, ground := Go.Ground.guard }], guard := some (10, true) }) (v := ?vbz18) rfl (by kernel_rfl) (by kernel_rfl) (by kernel_rfl) (fun _ _ _ h => h) (Or.inl ⟨by rfl, ?ybz18⟩) (by assumption) ?_
                          case ybz18 => (intro wX hSw; (try dsimp only at hSw); go_simp <;> with_reducible rfl)
                          try simp only [Act.put, List.setIfInBounds_toArray, List.set_cons_zero, List.set_cons_succ]
                          refine wpAnyH_ready (rs := [19]) (by kernel_rfl) (by simp) (AllReadyH.cons (o := { dst := some 70, op := Go.Op.call { callee := Go.Callee.value (Go.Operand.func 16), args := #[Go.Operand.tmp 65, Go.Operand.tmp 69], argTypes := #[38, 38] }, type := 4, pos := "law.go:141", after := #[{ on := 14, ground := Go.Ground.data }, { on := 18, ground := Go.Ground.data }, { on := 10, ground := Go.Ground.chain }, { on := 10, ground := Go.Ground.guard }], guard := some (10, true) }) rfl (fun K hK => ?_) AllReadyH.nil)
                          (go_simp; go_at_call 16; refine (cB _).mono ?_; rintro e w8 ⟨rfl, hb8⟩)
                          refine hK.out _ _ (⟨hHeld.1.trans (hb8.mono hHeld.1.size), FF.out _ (hHeld.1.trans (hb8.mono hHeld.1.size))⟩) (fun hHeld => ?_)
                          clear hK K
                          try simp only [Act.put, List.setIfInBounds_toArray, List.set_cons_zero, List.set_cons_succ]
                          refine wpAnyH_take (i := 20) (oi := { dst := some 71, op := Go.Op.unOp Go.UnOp.not 4 (Go.Operand.tmp 70), type := 4, pos := "law.go:141", after := #[{ on := 19, ground := Go.Ground.data }, { on := 10, ground := Go.Ground.guard }], guard := some (10, true) }) (v := ?vbz20) rfl (by kernel_rfl) (by kernel_rfl) (by kernel_rfl) (fun _ _ _ h => h) (Or.inl ⟨by rfl, ?ybz20⟩) (by assumption) ?_
                          case ybz20 => (intro wX hSw; (try dsimp only at hSw); go_simp <;> with_reducible rfl)
                          try simp only [Act.put, List.setIfInBounds_toArray, List.set_cons_zero, List.set_cons_succ]
                          refine wpAnyH_take (i := 21) (oi := { dst := some 72, op := Go.Op.pick (Go.Operand.tmp 61) (Go.Operand.tmp 71) (Go.Operand.const (Go.Value.bool false)), type := 4, pos := "law.go:141", after := #[{ on := 10, ground := Go.Ground.data }, { on := 20, ground := Go.Ground.data }], guard := none }) (v := ?vbz21) rfl (by kernel_rfl) (by kernel_rfl) (by kernel_rfl) (fun _ _ _ h => h) (Or.inl ⟨by rfl, ?ybz21⟩) (by assumption) ?_
                          case ybz21 => (intro wX hSw; (try dsimp only at hSw); go_simp <;> with_reducible rfl)
                          try simp only [Act.put, List.setIfInBounds_toArray, List.set_cons_zero, List.set_cons_succ]
                          refine wpAnyH_done (by kernel_rfl) ?_ _
                          go_wp2
                          go_meet
                          exact ⟨by rw [HQE.out]; first | done | rfl | simp, hHeld.1⟩
                  case rest =>
                      obtain ⟨rfl, hb9⟩ := hcut
                      have hz9 := Lib.hid (two_below hzB.out hb9)
                      obtain ⟨p0, p1, p2, p3, p4, p5⟩ := (FF.out _ hb9).2
                      clear FF cA cB hb9 HQE hzB
                      obtain ⟨i0, hi0, hz0, hz1, hz2'⟩ := info_parts infoCard2
                      cases q with
                      | true =>
                          have hz3 := two_swap (hz9.out)
                          have hlen : (((x.take j).filter (eqk ⟨ci, cb, cs, ct, ca, cr⟩))).length ≤ 1000 := by
                            have h1 := List.length_filter_le (eqk ⟨ci, cb, cs, ct, ca, cr⟩) (x.take j)
                            rw [List.length_take] at h1
                            omega
                          obtain ⟨va, vc, hva⟩ := own_form hz3.1
                          rw [hva] at hz3
                          have hown := Lib.hid (own_below hz3.1 ((Below.refl _ _).alloc (Nat.le_refl _) (.cells (cellsC ⟨zi, zb, zs, zt, za, zr⟩) 38)))
                          have hbs := Lib.hid hz3.2.2.2.2.size
                          have GZ3 := Lib.hid hz3
                          subst hva
                          clear hz9 hz3
                          have hnc := Lib.hid (fun W => new_cells W ⟨zi, zb, zs, zt, za, zr⟩)
                          have hco := Lib.hid (cells_one ⟨zi, zb, zs, zt, za, zr⟩)
                          unfold cellsC at hown hnc hco
                          simp only at hown hnc hco
                          go_wp2_with (at_builtin; refine wpList_append_own_at _ rfl _ _ 35 rfl w.heap.size 38 i0 (.agg (cellsC noC)) 6 72 Tryd.underlying35 hi0 hz0 hz1 hz2' rfl (by decide) _ _ _ rfl hown.out ⟨_, 0, none⟩ 1 1 _ rfl rfl (hnc.out _) hco.out ?c3 ?c4 ?c5 ?_)
                          case c3 => unfold maxLen; omega
                          case c4 => omega
                          case c5 => have := hbs.out; simp; omega
                          intro v' w' hown' hgr' hne' hat'
                          have hz4 := two_app (y := ⟨zi, zb, zs, zt, za, zr⟩) (X := .cells (cellsC ⟨zi, zb, zs, zt, za, zr⟩) 38) GZ3.out hown' hgr' hat'
                          have hfin : Hid (twoRows w w' u6 v' ((l.take (j + 1)).filter (eqk ⟨ci, cb, cs, ct, ca, cr⟩)) ((x.take (j + 1)).filter (eqk ⟨ci, cb, cs, ct, ca, cr⟩))) := by
                            have := HFT.out
                            first | rw [if_pos rfl] at this | rw [if_pos trivial] at this
                            rw [Hid, this]
                            exact two_swap (hz4)
                          clear hz4 hown' hgr' hne' hat' GZ3 hown HFT
                          go_wp2
                          go_roundw
                          case rel => exact ⟨j + 1, by go_num, hjn, hfin⟩
                          case measure => simp [intOf]; omega
                      | false =>
                          have hfin : Hid (twoRows w wc u6 u7 ((l.take (j + 1)).filter (eqk ⟨ci, cb, cs, ct, ca, cr⟩)) ((x.take (j + 1)).filter (eqk ⟨ci, cb, cs, ct, ca, cr⟩))) := by
                            have := HFT.out
                            rw [if_neg (by simp), List.append_nil] at this
                            rw [Hid, this]
                            exact hz9.out
                          clear hz9 HFT
                          go_wp2
                          go_roundw
                          case rel => exact ⟨j + 1, by go_num, hjn, hfin⟩
                          case measure => simp [intOf]; omega
        · have dj : decide ((j : Int) < (n : Int)) = false := decide_eq_false (by omega)
          have djN : decide (j < n) = false := decide_eq_false hjn
          have hzz := hz.out
          obtain ⟨K, hK⟩ : ∃ K, l.filter (eqk ⟨ci, cb, cs, ct, ca, cr⟩) = K := ⟨_, rfl⟩
          rw [List.take_of_length_le (by omega), List.take_of_length_le (by have := HX.out; omega), HF.out, hK] at hzz
          have hm : K.length ≤ 1000 := by rw [← hK]; have := List.length_filter_le (eqk ⟨ci, cb, cs, ct, ca, cr⟩) l; omega
          obtain ⟨m, hm0⟩ : ∃ m, K.length = m := ⟨_, rfl⟩
          obtain ⟨A6, c6, rfl, hA6⟩ := cin_own hm0 hzz.1
          obtain ⟨A7, c7, rfl, hA7⟩ := cin_own hm0 hzz.2.1
          rw [hm0] at hm
          have HB := Lib.hid hzz.2.2.2.2
          have H6 := Lib.hid hA6
          have H7 := Lib.hid hA7
          have HM := Lib.hid hm0
          clear hz hzz hA6 hA7 hK hm0
          obtain ⟨wq, rfl⟩ : ∃ wq : World, wq = wr := ⟨_, rfl⟩
          go_wp2
          go_loopw [9] (fun v9 wr => ∃ k : Nat, v9 = .int .i64 k ∧ k ≤ m ∧ Below wq.heap.size wq wr) (fun v _ => m - (intOf v).toNat)
          case atStart => exact ⟨0, rfl, Nat.zero_le _, Below.refl _ _⟩
          case round =>
            obtain ⟨k, rfl, hk, hbk⟩ := hrel
            by_cases hkm : k < m
            · have dk : decide ((k : Int) < (m : Int)) = true := decide_eq_true (by omega)
              have dkN : decide (k < m) = true := decide_eq_true hkm
              have bk : (k : Int) < (m : Int) := by omega
              have wk : IntKind.i64.wrap ((k : Int) + 1) = (k : Int) + 1 := IntWalk.i64_in _ (by omega)
              obtain ⟨⟨xi, xb, xs, xt, xa, xr⟩, hxk⟩ : ∃ c, K[k]? = some c := ⟨_, List.getElem?_eq_getElem (by have := HM.out; omega)⟩
              rcases H6.out with ⟨_, h0⟩ | ⟨b6, o6, rfl, hr6⟩
              · subst h0; simp at hxk
              rcases H7.out with ⟨_, h0⟩ | ⟨b7, o7, rfl, hr7⟩
              · subst h0; simp at hxk
              obtain ⟨p0, p1, p2, p3, p4, p5⟩ := (hr6.below hbk).cells hxk
              obtain ⟨q0, q1, q2, q3, q4, q5⟩ := (hr7.below hbk).cells hxk
              have hne : ∀ W, (binOp .neq 38 (.agg #[.string (bs xi), .string (bs xb), .int .i64 xs, .int .i64 xt, .int .i64 xa, .string (bs xr)]) (.agg #[.string (bs xi), .string (bs xb), .int .i64 xs, .int .i64 xt, .int .i64 xa, .string (bs xr)])).run Tryd.prog W = .ok (.bool false) W := fun W => by
                have := neq_cards ⟨xi, xb, xs, xt, xa, xr⟩ ⟨xi, xb, xs, xt, xa, xr⟩ W
                rw [decide_eq_true rfl] at this
                exact this
              have HBK := Lib.hid hbk
              clear hxk hr6 hr7 H6 H7 HM hbk
              go_wp2
              go_quiet (fail)
              go_wp2
              go_roundw
              case rel => exact ⟨k + 1, by go_num, hkm, below_drewN HBK.out _⟩
              case measure => simp [intOf]; omega
            · have dk : decide ((k : Int) < (m : Int)) = false := decide_eq_false (by omega)
              have dkN : decide (k < m) = false := decide_eq_false hkm
              go_wp2
              go_roundw
              case rel => exact ⟨i + 1, by go_num, hlt, HB.out.trans (hbk.mono HB.out.size)⟩
              case measure => simp [intOf]; omega
    · have dlt : decide ((i : Int) < (n : Int)) = false := decide_eq_false (by omega)
      have dltN : decide (i < n) = false := decide_eq_false hlt
      go_wp2
      go_ret
      exact ⟨rfl, hb⟩
theorem steady_nil (A A2 : Option Addr) (C C2 : Nat) (w : World) : Calls Tryd.prog 25 #[.slice A 0 C, .slice A2 0 C2] w (BoolPost w true) := by
  go_enter Tryd.func25, Tryd.ntmps25
  go_wp2
  go_loopw [5] (fun v5 wr => v5 = .int .i64 0 ∧ wr = w) (fun _ _ => 0)
  case atStart => exact ⟨rfl, rfl⟩
  case round =>
    obtain ⟨rfl, rfl⟩ := hrel
    go_wp2
    go_ret
    exact ⟨rfl, Below.refl _ _⟩
end Go.Proofs.YtjcaaiikccnpeaaDoor
