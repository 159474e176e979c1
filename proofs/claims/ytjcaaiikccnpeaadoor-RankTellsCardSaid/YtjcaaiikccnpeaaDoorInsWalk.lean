/- The library's insertion sort at cards, walked. -/
import Derived.Test.YtjcaaiikccnpeaaDoorCmp
import Derived.Test.YtjcaaiikccnpeaaDoorInsPure
import Derived.Test.YtjcaaiikccnpeaaDoorTail
import Derived.Deep.MidRow
import Derived.Deep.Draws
import Derived.Deep.RegionLaw
import Derived.Deep.RegionHeld3
import Derived.IntWalk
namespace Go.Proofs.YtjcaaiikccnpeaaDoor
open Go.ChangeShapes Go.WideShapes Go.ChangeAt Go.RowKit Go.Lib
set_option linter.unusedVariables false

/-- cards lie in a block, one behind another -/
def CAt (w : World) (g : Nat) (l : List Card) : Prop := ∀ j c, l[j]? = some c → w.rangeAt g (j * 6) (cellsC c).toList
theorem CAt.cells {w : World} {g : Nat} {l : List Card} (h : CAt w g l) {j : Nat} {i b : List UInt8} {s t a : Int} {r : List UInt8} (hj : l[j]? = some ⟨i, b, s, t, a, r⟩) :
    w.cell? ⟨g, j * 6, none⟩ = some (.string (bs i)) ∧ w.cell? ⟨g, j * 6 + 1, none⟩ = some (.string (bs b)) ∧ w.cell? ⟨g, j * 6 + 2, none⟩ = some (.int .i64 s) ∧ w.cell? ⟨g, j * 6 + 3, none⟩ = some (.int .i64 t) ∧ w.cell? ⟨g, j * 6 + 4, none⟩ = some (.int .i64 a) ∧ w.cell? ⟨g, j * 6 + 5, none⟩ = some (.string (bs r)) := by
  have h1 := h j _ hj
  exact ⟨h1 0 _ rfl, h1 1 _ rfl, h1 2 _ rfl, h1 3 _ rfl, h1 4 _ rfl, h1 5 _ rfl⟩
theorem CAt.keep {w w' : World} {g : Nat} {l : List Card} (h : CAt w g l) (hb : w'.heap[g]? = w.heap[g]?) : CAt w' g l := fun j c hj k v hv => by
  rw [World.cell?_of_block (by exact hb)]
  exact h j c hj k v hv
theorem there_keep {w w' : World} {g o n : Nat} (h : w.there g o n) (hb : w'.heap[g]? = w.heap[g]?) : w'.there g o n := fun j hj => by
  rw [World.cell?_of_block (by exact hb), World.frozen?_of_block (by exact hb)]
  exact h j hj
theorem infoCard : (Tryd.prog.info? 38).map (·.size) = some 6 := by kernel_rfl
theorem six_one (a b : ByteArray) (s t n : Int) (r : ByteArray) : (#[Value.string a, .string b, .int .i64 s, .int .i64 t, .int .i64 n, .string r]).all (·.oneCell') = true := by simp [Value.oneCell']
theorem step_store_mid {ops : Array Oper} {o : Oper} {ac : Act} {K : Act → World → Prop} {Q : Exit → Act → World → Prop} {E : Prop} (w : World) (hgd : o.guard = none) (x y : Operand) (ho : o.op = .store 38 x y)
    (b off : Nat) (cells : Array Value) (hx : ac.eval x = .pointer (some ⟨b, off, none⟩)) (hy : ac.eval y = .agg cells) (ht : w.there b off cells.size) (hs : cells.size = 6) (h1 : cells.all (·.oneCell') = true)
    (h : K (ac.put o.dst undef) (w.setCells b off cells.toList)) : if Region.wanted o (yielded ops ac.tmps) = true then Oper.wp Tryd.prog o ac w K Q else E := by
  have hw : Region.wanted o (yielded ops ac.tmps) = true := by simp [Region.wanted, hgd]
  rw [if_pos hw]
  exact wp_store_mid _ x y ho b off cells hx hy ht (by rw [hs]; exact infoCard) h1 h
theorem grown_below {w wr w' : World} {row : Option Nat} (h : w.grownBy wr row) (hb : Below wr.heap.size wr w') : w.grownBy w' row :=
  ⟨hb.os.trans h.os, hb.tape.trans h.tape, hb.output.trans h.output, Nat.le_trans h.size hb.size, fun i hi hn => (hb.block i (Nat.lt_of_lt_of_le hi h.size)).trans (h.block i hi hn)⟩
theorem cellsC_length (c : Card) : (cellsC c).toList.length = 6 := rfl
theorem CAt.set {w : World} {g : Nat} {M : List Card} (h : CAt w g M) {i : Nat} (hi : i < M.length) (ht : w.there g (i * 6) 6) (c : Card) : CAt (w.setCells g (i * 6) (cellsC c).toList) g (M.set i c) := by
  intro j d hj
  rw [List.getElem?_set] at hj
  by_cases e : i = j
  · subst e
    rw [if_pos rfl, if_pos hi] at hj
    obtain rfl := Option.some.inj hj
    exact World.rangeAt_setCells_same w g (i * 6) _ ht
  · rw [if_neg e] at hj
    exact World.rangeAt_setCells_apart (h j d hj) g (i * 6) _ (by rw [cellsC_length, cellsC_length]; omega)
theorem grown_setCell {w wr : World} {g : Nat} (h : w.grownBy wr (some g)) (o : Nat) (v : Value) : w.grownBy (wr.setCell ⟨g, o, none⟩ v) (some g) :=
  ⟨h.os, h.tape, h.output, by simpa [World.setCell] using h.size, fun i hi hn => (Below.heap_setCell wr ⟨g, o, none⟩ v i (fun e => hn (by rw [e]))).trans (h.block i hi hn)⟩
theorem grown_setCells {w : World} {g : Nat} : ∀ (vs : List Value) (o : Nat) {wr : World}, w.grownBy wr (some g) → w.grownBy (wr.setCells g o vs) (some g)
  | [], _, _, h => h
  | v :: r, o, wr, h => grown_setCells r (o + 1) (grown_setCell h o v)
theorem swap_at {w : World} {g : Nat} {M : List Card} {j m : Nat} {x y : Card} (h : CAt w g M) (hT : w.there g 0 (M.length * 6)) (hj : j = m + 1) (hl : j < M.length) (hx : M[j]? = some x) (hy : M[m]? = some y) :
    CAt ((w.setCells g (j * 6) (cellsC y).toList).setCells g (m * 6) (cellsC x).toList) g (swapL M j) ∧ ((w.setCells g (j * 6) (cellsC y).toList).setCells g (m * 6) (cellsC x).toList).there g 0 (M.length * 6) := by
  have t1 : w.there g (j * 6) 6 := fun t ht => by have := hT (j * 6 + t) (by omega); simpa [Nat.zero_add] using this
  have c1 := h.set hl t1 y
  have t2 : (w.setCells g (j * 6) (cellsC y).toList).there g (m * 6) 6 := World.there_setCells (fun t ht => by have := hT (m * 6 + t) (by omega); simpa [Nat.zero_add] using this) _ _ _
  have c2 := c1.set (i := m) (by rw [List.length_set]; omega) t2 x
  have e : swapL M j = (M.set j y).set m x := by
    unfold swapL
    rw [show j - 1 = m by omega, List.getD_eq_getElem?_getD, List.getD_eq_getElem?_getD, hx, hy]
    rfl
  rw [e]
  exact ⟨c2, World.there_setCells (World.there_setCells hT _ _ _) _ _ _⟩
theorem grown_drew {w wr : World} {row : Option Nat} (h : w.grownBy wr row) : w.grownBy wr.drew row := ⟨h.os, h.tape, h.output, h.size, h.block⟩
theorem set6 (w : World) (g o : Nat) (a b c d e f : Value) : w.setCells g o [a, b, c, d, e, f] = (((((w.setCell ⟨g, o, none⟩ a).setCell ⟨g, o + 1, none⟩ b).setCell ⟨g, o + 2, none⟩ c).setCell ⟨g, o + 3, none⟩ d).setCell ⟨g, o + 4, none⟩ e).setCell ⟨g, o + 5, none⟩ f := rfl
theorem there_drewd {w : World} {g o n : Nat} (h : w.there g o n) : w.drew.there g o n := h
theorem grown_drewN {w wr : World} {row : Option Nat} (h : w.grownBy wr row) (n : Nat) : w.grownBy (wr.drewN n) row := ⟨h.os, h.tape, h.output, h.size, h.block⟩
theorem CAt.drewN {w : World} {g : Nat} {l : List Card} (h : CAt w g l) (n : Nat) : CAt (w.drewN n) g l := h
theorem there_drewdN {w : World} {g o m : Nat} (h : w.there g o m) (n : Nat) : (w.drewN n).there g o m := h
theorem CAt.drew {w : World} {g : Nat} {l : List Card} (h : CAt w g l) : CAt w.drew g l := h
theorem swap_chain {w w0 : World} {g Q : Nat} {M : List Card} {j m n : Nat} {xi xb : List UInt8} {xs xt xa : Int} {xr yi yb : List UInt8} {ys yt ya : Int} {yr : List UInt8} (h : CAt w g M) (hT : w.there g 0 (n * 6)) (hn : M.length = n) (hj : j = m + 1) (hl : j < M.length)
    (hx : M[j]? = some ⟨xi, xb, xs, xt, xa, xr⟩) (hy : M[m]? = some ⟨yi, yb, ys, yt, ya, yr⟩) (hQ6 : j * 6 = Q + 6) (hQ : m * 6 = Q) (hG : w0.grownBy w (some g)) (W : World) (hW : W = ((((((((((((w.setCell ⟨g, Q + 6, none⟩ (.string (bs yi))).setCell ⟨g, Q + 6 + 1, none⟩ (.string (bs yb))).setCell ⟨g, Q + 6 + 2, none⟩ (.int .i64 ys)).setCell ⟨g, Q + 6 + 3, none⟩ (.int .i64 yt)).setCell ⟨g, Q + 6 + 4, none⟩ (.int .i64 ya)).setCell ⟨g, Q + 6 + 5, none⟩ (.string (bs yr))).setCell ⟨g, Q, none⟩ (.string (bs xi))).setCell ⟨g, Q + 1, none⟩ (.string (bs xb))).setCell ⟨g, Q + 2, none⟩ (.int .i64 xs)).setCell ⟨g, Q + 3, none⟩ (.int .i64 xt)).setCell ⟨g, Q + 4, none⟩ (.int .i64 xa)).setCell ⟨g, Q + 5, none⟩ (.string (bs xr))).drew) :
    CAt W g (swapL M j) ∧ W.there g 0 (n * 6) ∧ w0.grownBy W (some g) := by
  subst hn
  have hsw := swap_at h hT hj hl hx hy
  rw [hQ6, hQ] at hsw
  have hG6 := grown_drew (grown_setCells (cellsC ⟨xi, xb, xs, xt, xa, xr⟩).toList Q (grown_setCells (cellsC ⟨yi, yb, ys, yt, ya, yr⟩).toList (Q + 6) hG))
  have e1 : (cellsC ⟨xi, xb, xs, xt, xa, xr⟩).toList = [.string (bs xi), .string (bs xb), .int .i64 xs, .int .i64 xt, .int .i64 xa, .string (bs xr)] := rfl
  have e2 : (cellsC ⟨yi, yb, ys, yt, ya, yr⟩).toList = [.string (bs yi), .string (bs yb), .int .i64 ys, .int .i64 yt, .int .i64 ya, .string (bs yr)] := rfl
  rw [e1, e2, set6, set6] at hsw hG6
  subst hW
  exact ⟨CAt.drew hsw.1, there_drewd hsw.2, hG6⟩
set_option maxRecDepth 100000 in
set_option maxHeartbeats 2000000 in
theorem ins_any (l : List Card) (g c A E : Nat) (w : World) (hn : l.length ≤ 1000000) (hc : l.length ≤ c) (hg : g < w.heap.size) (hC : CAt w g l) (hT : w.there g 0 (l.length * 6)) (hAE : A ≤ E) (hE : E ≤ l.length) :
    Calls Tryd.prog 70 #[.slice (some ⟨g, 0, none⟩) l.length c, .int .i64 A, .int .i64 E, .func (.func 37) #[] #[]] w (fun e w' => e = .returned (.tuple #[]) ∧ CAt w' g (insN A (E - A - 1) l) ∧ w'.there g 0 (l.length * 6) ∧ w.grownBy w' (some g)) := by
  have HC := Lib.hid hC
  have HT := Lib.hid hT
  clear hC hT
  go_enter Tryd.func70, Tryd.ntmps70
  go_wp2
  go_loopw [8] (fun v8 wr => ∃ (k : Nat) (L : List Card), v8 = .int .i64 ((A + 1 + k : Nat) : Int) ∧ (A + 1 + k ≤ E ∨ k = 0) ∧ Hid (L = insN A k l) ∧ CAt wr g L ∧ wr.there g 0 (l.length * 6) ∧ w.grownBy wr (some g)) (fun v _ => E - (intOf v).toNat)
  case atStart => exact ⟨0, l, by simp, .inr rfl, rfl, HC.out, HT.out, World.grownBy.refl _ _⟩
  case round =>
    obtain ⟨k, L, rfl, hk, hL, hCr, hTr, hG⟩ := hrel
    by_cases hlt : A + 1 + k < E
    · have hLl : L.length = l.length := by rw [hL.out, insN_length]
      obtain ⟨i, hi⟩ : ∃ i, A + 1 + k = i := ⟨_, rfl⟩
      have HNX : Hid (insN A (k + 1) l = bub A i L) := by rw [Hid, insN, hL.out, hi]
      have hiE : i < E := by omega
      have hAi : A ≤ i := by omega
      rw [hi]
      have HLL := Lib.hid hLl
      have HI := Lib.hid hi
      have HGR := Lib.hid hG
      clear hi hLl hG hlt
      have dE : decide ((i : Int) < (E : Int)) = true := decide_eq_true (by omega)
      go_wp2
      obtain ⟨wo, hwo⟩ : ∃ wo : World, wo = wr := ⟨_, rfl⟩
      go_loopw [9] (fun v9 wr => ∃ (j : Nat) (M : List Card), v9 = .int .i64 j ∧ A ≤ j ∧ j ≤ i ∧ Hid (bub A j M = bub A i L) ∧ Hid (M.length = l.length) ∧ CAt wr g M ∧ wr.there g 0 (l.length * 6) ∧ w.grownBy wr (some g)) (fun v _ => (intOf v).toNat)
      case atStart => exact ⟨i, L, rfl, hAi, Nat.le_refl _, rfl, HLL.out, hCr, hTr, HGR.out⟩
      case round =>
        clear hCr hTr hwo
        obtain ⟨j, M, rfl, hAj, hji, hbub, hMl, hCr, hTr, hGr⟩ := hrel
        have hgr : g < wr.heap.size := Nat.lt_of_lt_of_le hg hGr.size
        by_cases hgt : A < j
        · obtain ⟨m, hm⟩ : ∃ m, j = m + 1 := ⟨j - 1, by omega⟩
          have hjl : j < M.length := by rw [hMl.out]; omega
          have hml : m < M.length := by omega
          obtain ⟨⟨xi, xb, xs, xt, xa, xr⟩, hxj⟩ : ∃ x, M[j]? = some x := ⟨_, List.getElem?_eq_getElem hjl⟩
          obtain ⟨⟨yi, yb, ys, yt, ya, yr⟩, hyj⟩ : ∃ x, M[m]? = some x := ⟨_, List.getElem?_eq_getElem hml⟩
          obtain ⟨p0, p1, p2, p3, p4, p5⟩ := hCr.cells hxj
          obtain ⟨q0, q1, q2, q3, q4, q5⟩ := hCr.cells hyj
          have hj1 : (j : Int) - 1 = (m : Int) := by omega
          have wj : IntKind.i64.wrap (m : Int) = (m : Int) := IntWalk.i64_in _ (by omega)
          have bj : (j : Int) < (l.length : Int) := by have := hMl.out; omega
          have bm : (m : Int) < (l.length : Int) := by omega
          have bj' : j < l.length := by omega
          have bm' : m < l.length := by omega
          have dj : decide ((A : Int) < (j : Int)) = true := decide_eq_true (by omega)
          have cc := fun W => compare_any ⟨xi, xb, xs, xt, xa, xr⟩ ⟨yi, yb, ys, yt, ya, yr⟩ W
          unfold cellsC at cc
          simp only at cc
          have hless : Hid (lessC ⟨xi, xb, xs, xt, xa, xr⟩ ⟨yi, yb, ys, yt, ya, yr⟩ = decide (cmpC ⟨xi, xb, xs, xt, xa, xr⟩ ⟨yi, yb, ys, yt, ya, yr⟩ < 0)) := rfl
          generalize cmpC ⟨xi, xb, xs, xt, xa, xr⟩ ⟨yi, yb, ys, yt, ya, yr⟩ = nc at *
          have HXJ := Lib.hid hxj
          have HYJ := Lib.hid hyj
          have HM := Lib.hid hm
          have HCr := Lib.hid hCr
          have HTr := Lib.hid hTr
          have HGr := Lib.hid hGr
          clear hxj hyj hm hCr hTr hGr
          go_wp2
          refine wp_region_still_tail 14 (by kernel_rfl) (by kernel_rfl) ?_
          simp only [List.take_succ_cons, List.take_zero, List.drop_succ_cons, List.drop_zero]
          refine wpStill_of_wpQuiet _ _ ?_
          repeat (first | go_big_quiet_skip | (go_big_quiet_want; go_big_quiet_op; first | go_big_quiet_on | (apply Exists.intro; refine ⟨?_, ?_⟩; (fail); go_big_quiet_on)))
          refine wpQuiet_nil ?_
          change wpList _ _ _ _ _ wr.drew
          go_wp2_with fail
          refine (cc _).mono ?_
          rintro e w5 ⟨rfl, hb5⟩
          have hb5' : Below wr.heap.size wr w5 := (Below.refl _ _).drew.trans hb5
          have hk5 : w5.heap[g]? = wr.heap[g]? := hb5'.block g hgr
          have hC5 := HCr.out.keep hk5
          have hT5 := there_keep HTr.out hk5
          have hG5 := grown_below HGr.out hb5'
          clear hb5 hb5' hk5 cc p0 p1 p2 p3 p4 p5 q0 q1 q2 q3 q4 q5
          cases hlx : lessC ⟨xi, xb, xs, xt, xa, xr⟩ ⟨yi, yb, ys, yt, ya, yr⟩ with
          | true =>
            have dn : decide (nc < 0) = true := by rw [← hless.out]; exact hlx
            have HLX := Lib.hid hlx
            obtain ⟨p0, p1, p2, p3, p4, p5⟩ := hC5.cells HXJ.out
            obtain ⟨q0, q1, q2, q3, q4, q5⟩ := hC5.cells HYJ.out
            obtain ⟨Q, hQ⟩ : ∃ Q, m * 6 = Q := ⟨_, rfl⟩
            have hQ6 : j * 6 = Q + 6 := by have := HM.out; omega
            have hQl : Q + 12 ≤ l.length * 6 := by omega
            rw [hQ6] at p0 p1 p2 p3 p4 p5
            rw [hQ] at q0 q1 q2 q3 q4 q5
            simp only [Nat.add_assoc, Nat.reduceAdd] at p0 p1 p2 p3 p4 p5
            have z0 : w5.frozen? ⟨g, Q, none⟩ = false := by have := (hT5 Q (by omega)).2; rwa [Nat.zero_add] at this
            have z1 : w5.frozen? ⟨g, Q + 1, none⟩ = false := by have := (hT5 (Q + 1) (by omega)).2; rwa [Nat.zero_add] at this
            have z2 : w5.frozen? ⟨g, Q + 2, none⟩ = false := by have := (hT5 (Q + 2) (by omega)).2; rwa [Nat.zero_add] at this
            have z3 : w5.frozen? ⟨g, Q + 3, none⟩ = false := by have := (hT5 (Q + 3) (by omega)).2; rwa [Nat.zero_add] at this
            have z4 : w5.frozen? ⟨g, Q + 4, none⟩ = false := by have := (hT5 (Q + 4) (by omega)).2; rwa [Nat.zero_add] at this
            have z5 : w5.frozen? ⟨g, Q + 5, none⟩ = false := by have := (hT5 (Q + 5) (by omega)).2; rwa [Nat.zero_add] at this
            have z6 : w5.frozen? ⟨g, Q + 6, none⟩ = false := by have := (hT5 (Q + 6) (by omega)).2; rwa [Nat.zero_add] at this
            have z7 : w5.frozen? ⟨g, Q + 7, none⟩ = false := by have := (hT5 (Q + 7) (by omega)).2; rwa [Nat.zero_add] at this
            have z8 : w5.frozen? ⟨g, Q + 8, none⟩ = false := by have := (hT5 (Q + 8) (by omega)).2; rwa [Nat.zero_add] at this
            have z9 : w5.frozen? ⟨g, Q + 9, none⟩ = false := by have := (hT5 (Q + 9) (by omega)).2; rwa [Nat.zero_add] at this
            have z10 : w5.frozen? ⟨g, Q + 10, none⟩ = false := by have := (hT5 (Q + 10) (by omega)).2; rwa [Nat.zero_add] at this
            have z11 : w5.frozen? ⟨g, Q + 11, none⟩ = false := by have := (hT5 (Q + 11) (by omega)).2; rwa [Nat.zero_add] at this
            have HC5 := Lib.hid hC5
            have HT5 := Lib.hid hT5
            have HG5 := Lib.hid hG5
            clear hlx hC5 hT5 hG5
            go_wp2
            go_region_law (fail)
            all_goals
              have hMl' := hMl.out
              have hsw := swap_chain HC5.out HT5.out hMl' HM.out (by omega) HXJ.out HYJ.out hQ6 hQ HG5.out _ rfl
              have hbub2 : Hid (bub A m (swapL M j) = bub A i L) := by
                rw [Hid, ← hbub.out, bub_go hgt, show j - 1 = m by have := HM.out; omega]
                rw [List.getD_eq_getElem?_getD, List.getD_eq_getElem?_getD, HXJ.out, show j - 1 = m by have := HM.out; omega, HYJ.out]
                exact HLX.out
              have hsl : Hid ((swapL M j).length = l.length) := by rw [Hid, swapL_length]; exact hMl'
              have HSW := Lib.hid hsw
              have hAm : A ≤ m := by have := HM.out; omega
              have hmi : m ≤ i := by have := HM.out; omega
              have hmj : m < j := by have := HM.out; omega
              clear hsw hMl' p0 p1 p2 p3 p4 p5 q0 q1 q2 q3 q4 q5 z0 z1 z2 z3 z4 z5 z6 z7 z8 z9 z10 z11
              generalize World.drew _ = Wz at HSW ⊢
              go_wp2
              go_roundw
              case rel => exact ⟨m, swapL M j, rfl, hAm, hmi, hbub2, hsl, HSW.out.1, HSW.out.2.1, HSW.out.2.2⟩
              case measure => simp [intOf]; omega
          | false =>
            have dn : decide (nc < 0) = false := by rw [← hless.out]; exact hlx
            have hfin : Hid (M = insN A (k + 1) l) := by
              rw [Hid, HNX.out, ← hbub.out, bub_stop]
              rintro ⟨_, h2⟩
              rw [List.getD_eq_getElem?_getD, List.getD_eq_getElem?_getD, HXJ.out, show j - 1 = m by have := HM.out; omega, HYJ.out] at h2
              rw [show (some (⟨xi, xb, xs, xt, xa, xr⟩ : Card)).getD noC = ⟨xi, xb, xs, xt, xa, xr⟩ from rfl, show (some (⟨yi, yb, ys, yt, ya, yr⟩ : Card)).getD noC = ⟨yi, yb, ys, yt, ya, yr⟩ from rfl, hlx] at h2
              cases h2
            clear hlx
            go_wp2
            go_roundw
            case rel => exact ⟨k + 1, M, by have := HI.out; go_num, .inl (by have := HI.out; omega), hfin, hC5, hT5, hG5⟩
            case measure => have := HI.out; simp [intOf]; omega
        · have hfin : Hid (M = insN A (k + 1) l) := by
            rw [Hid, HNX.out, ← hbub.out, bub_stop]
            rintro ⟨h1, _⟩
            exact hgt h1
          have dj : decide ((A : Int) < (j : Int)) = false := decide_eq_false (by omega)
          have dj' : decide (A < j) = false := decide_eq_false hgt
          have HCr := Lib.hid hCr
          have HTr := Lib.hid hTr
          have HGr := Lib.hid hGr
          clear hCr hTr hGr
          go_wp2
          go_quiet (fail)
          go_wp2
          go_roundw
          case rel => exact ⟨k + 1, M, by have := HI.out; go_num, .inl (by have := HI.out; omega), hfin, HCr.out.drewN _, there_drewdN HTr.out _, grown_drewN HGr.out _⟩
          case measure => have := HI.out; simp [intOf]; omega
    · have hfin : Hid (L = insN A (E - A - 1) l) := by
        rw [Hid, hL.out]
        rcases hk with h | h
        · rw [show E - A - 1 = k by omega]
        · subst h
          rw [show E - A - 1 = 0 by omega]
      have dE : decide (((A + 1 + k : Nat) : Int) < (E : Int)) = false := decide_eq_false (by omega)
      have dE' : decide (A + 1 + k < E) = false := decide_eq_false hlt
      go_wp2
      go_end0
      exact ⟨rfl, by rw [← hfin.out]; exact hCr, hTr, hG⟩
end Go.Proofs.YtjcaaiikccnpeaaDoor
