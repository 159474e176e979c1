/- The library's exchange of ranges at cards, walked. -/
import Derived.Test.YtjcaaiikccnpeaaDoorInsWalk
import Derived.Test.YtjcaaiikccnpeaaDoorSwapPure
namespace Go.Proofs.YtjcaaiikccnpeaaDoor
open Go.ChangeShapes Go.WideShapes Go.ChangeAt Go.RowKit Go.Lib
set_option linter.unusedVariables false

def sortP (w : World) (g : Nat) (R : List Card) (n : Nat) (e : Ending) (w' : World) : Prop := e = .returned (.tuple #[]) ∧ CAt w' g R ∧ w'.there g 0 (n * 6) ∧ w.grownBy w' (some g)
theorem swp_chain {w w0 : World} {g QI QJ : Nat} {M : List Card} {i j n : Nat} {xi xb : List UInt8} {xs xt xa : Int} {xr yi yb : List UInt8} {ys yt ya : Int} {yr : List UInt8} (h : CAt w g M) (hT : w.there g 0 (n * 6)) (hn : M.length = n) (hi : i < M.length) (hj : j < M.length)
    (hx : M[i]? = some ⟨xi, xb, xs, xt, xa, xr⟩) (hy : M[j]? = some ⟨yi, yb, ys, yt, ya, yr⟩) (hQI : i * 6 = QI) (hQJ : j * 6 = QJ) (hG : w0.grownBy w (some g)) (W : World) (hW : W = ((((((((((((w.setCell ⟨g, QI, none⟩ (.string (bs yi))).setCell ⟨g, QI + 1, none⟩ (.string (bs yb))).setCell ⟨g, QI + 2, none⟩ (.int .i64 ys)).setCell ⟨g, QI + 3, none⟩ (.int .i64 yt)).setCell ⟨g, QI + 4, none⟩ (.int .i64 ya)).setCell ⟨g, QI + 5, none⟩ (.string (bs yr))).setCell ⟨g, QJ, none⟩ (.string (bs xi))).setCell ⟨g, QJ + 1, none⟩ (.string (bs xb))).setCell ⟨g, QJ + 2, none⟩ (.int .i64 xs)).setCell ⟨g, QJ + 3, none⟩ (.int .i64 xt)).setCell ⟨g, QJ + 4, none⟩ (.int .i64 xa)).setCell ⟨g, QJ + 5, none⟩ (.string (bs xr))).drew) :
    CAt W g (swp i j M) ∧ W.there g 0 (n * 6) ∧ w0.grownBy W (some g) := by
  subst hn
  have t1 : w.there g (i * 6) 6 := fun t ht => by have := hT (i * 6 + t) (by omega); simpa [Nat.zero_add] using this
  have c1 := h.set hi t1 ⟨yi, yb, ys, yt, ya, yr⟩
  have t2 : (w.setCells g (i * 6) (cellsC ⟨yi, yb, ys, yt, ya, yr⟩).toList).there g (j * 6) 6 := World.there_setCells (fun t ht => by have := hT (j * 6 + t) (by omega); simpa [Nat.zero_add] using this) _ _ _
  have c2 := c1.set (i := j) (by rw [List.length_set]; omega) t2 ⟨xi, xb, xs, xt, xa, xr⟩
  have e : swp i j M = (M.set i ⟨yi, yb, ys, yt, ya, yr⟩).set j ⟨xi, xb, xs, xt, xa, xr⟩ := by
    unfold swp
    rw [getD_eq, getD_eq, hx, hy]
    rfl
  have hG6 := grown_drew (grown_setCells (cellsC ⟨xi, xb, xs, xt, xa, xr⟩).toList (j * 6) (grown_setCells (cellsC ⟨yi, yb, ys, yt, ya, yr⟩).toList (i * 6) hG))
  have hT2 := World.there_setCells (World.there_setCells hT g (i * 6) (cellsC ⟨yi, yb, ys, yt, ya, yr⟩).toList) g (j * 6) (cellsC ⟨xi, xb, xs, xt, xa, xr⟩).toList
  have e1 : (cellsC ⟨xi, xb, xs, xt, xa, xr⟩).toList = [.string (bs xi), .string (bs xb), .int .i64 xs, .int .i64 xt, .int .i64 xa, .string (bs xr)] := rfl
  have e2 : (cellsC ⟨yi, yb, ys, yt, ya, yr⟩).toList = [.string (bs yi), .string (bs yb), .int .i64 ys, .int .i64 yt, .int .i64 ya, .string (bs yr)] := rfl
  rw [e1, e2, hQI, hQJ, set6, set6] at c2 hG6 hT2
  subst hW
  rw [e]
  exact ⟨CAt.drew c2, there_drewd hT2, hG6⟩
set_option maxRecDepth 100000 in
set_option maxHeartbeats 2000000 in
theorem swaprange_any (l : List Card) (g c a b n : Nat) (w : World) (hn : l.length ≤ 1000000) (hc : l.length ≤ c) (hg : g < w.heap.size) (hC : CAt w g l) (hT : w.there g 0 (l.length * 6)) (hab : a + n ≤ b) (hb : b + n ≤ l.length) :
    Calls Tryd.prog 95 #[.slice (some ⟨g, 0, none⟩) l.length c, .int .i64 a, .int .i64 b, .int .i64 n, .func (.func 37) #[] #[]] w (sortP w g (swapR a b n l) l.length) := by
  have HC := Lib.hid hC
  have HT := Lib.hid hT
  clear hC hT
  go_enter Tryd.func95, Tryd.ntmps95
  go_wp2
  go_loopw [10] (fun v10 wr => ∃ k : Nat, v10 = .int .i64 k ∧ k ≤ n ∧ CAt wr g (swapR a b k l) ∧ wr.there g 0 (l.length * 6) ∧ w.grownBy wr (some g)) (fun v _ => n - (intOf v).toNat)
  case atStart => exact ⟨0, rfl, Nat.zero_le _, HC.out, HT.out, World.grownBy.refl _ _⟩
  case round =>
    obtain ⟨k, rfl, hk, hCr, hTr, hG⟩ := hrel
    by_cases hlt : k < n
    · have HM := Lib.hid (swapR_length a b k l)
      have HNX : Hid (swapR a b (k + 1) l = swp (a + k) (b + k) (swapR a b k l)) := rfl
      obtain ⟨M', hM'⟩ : ∃ M', swapR a b (k + 1) l = M' := ⟨_, rfl⟩
      have HE := Lib.hid hM'
      rw [hM'] at HNX
      clear hM'
      generalize swapR a b k l = M at *
      obtain ⟨i, hi⟩ : ∃ i, a + k = i := ⟨_, rfl⟩
      obtain ⟨j, hj⟩ : ∃ j, b + k = j := ⟨_, rfl⟩
      rw [hi, hj] at HNX
      have hil : i < M.length := by rw [HM.out]; omega
      have hjl : j < M.length := by rw [HM.out]; omega
      obtain ⟨⟨xi, xb, xs, xt, xa, xr⟩, hxi⟩ : ∃ x, M[i]? = some x := ⟨_, List.getElem?_eq_getElem hil⟩
      obtain ⟨⟨yi, yb, ys, yt, ya, yr⟩, hyj⟩ : ∃ x, M[j]? = some x := ⟨_, List.getElem?_eq_getElem hjl⟩
      obtain ⟨p0, p1, p2, p3, p4, p5⟩ := hCr.cells hxi
      obtain ⟨q0, q1, q2, q3, q4, q5⟩ := hCr.cells hyj
      obtain ⟨Q, hQ⟩ : ∃ Q, i * 6 = Q := ⟨_, rfl⟩
      obtain ⟨D, hD⟩ : ∃ D, j * 6 = Q + (D + 6) := ⟨j * 6 - Q - 6, by omega⟩
      have hQl : Q + D + 12 ≤ l.length * 6 := by have := HM.out; omega
      rw [hQ] at p0 p1 p2 p3 p4 p5
      rw [hD] at q0 q1 q2 q3 q4 q5
      have z := fun (t : Nat) (ht : t < l.length * 6) => (hTr t ht).2
      simp only [Nat.zero_add] at z
      have z0 := z Q (by omega)
      have z1 := z (Q + 1) (by omega)
      have z2 := z (Q + 2) (by omega)
      have z3 := z (Q + 3) (by omega)
      have z4 := z (Q + 4) (by omega)
      have z5 := z (Q + 5) (by omega)
      have z6 := z (Q + (D + 6)) (by omega)
      have z7 := z (Q + (D + 6) + 1) (by omega)
      have z8 := z (Q + (D + 6) + 2) (by omega)
      have z9 := z (Q + (D + 6) + 3) (by omega)
      have z10 := z (Q + (D + 6) + 4) (by omega)
      have z11 := z (Q + (D + 6) + 5) (by omega)
      have e1 : (a : Int) + (k : Int) = (i : Int) := by omega
      have e2 : (b : Int) + (k : Int) = (j : Int) := by omega
      have wi : IntKind.i64.wrap (i : Int) = (i : Int) := IntWalk.i64_in _ (by omega)
      have wj : IntKind.i64.wrap (j : Int) = (j : Int) := IntWalk.i64_in _ (by omega)
      have bi : (i : Int) < (l.length : Int) := by have := HM.out; omega
      have bj : (j : Int) < (l.length : Int) := by have := HM.out; omega
      have bi' : i < l.length := by omega
      have bj' : j < l.length := by omega
      have wk : IntKind.i64.wrap ((k : Int) + 1) = (k : Int) + 1 := IntWalk.i64_in _ (by omega)
      have dk : decide ((k : Int) < (n : Int)) = true := decide_eq_true (by omega)
      have HCr := Lib.hid hCr
      have HTr := Lib.hid hTr
      have HG := Lib.hid hG
      have HXI := Lib.hid hxi
      have HYJ := Lib.hid hyj
      have HI := Lib.hid hi
      have HJ := Lib.hid hj
      clear hCr hTr hG hxi hyj hi hj z hil hjl
      go_wp2
      go_region_law (fail)
      all_goals
        have hsw := swp_chain HCr.out HTr.out HM.out (by have := HM.out; omega) (by have := HM.out; omega) HXI.out HYJ.out hQ hD HG.out _ rfl
        rw [← HNX.out] at hsw
        have HSW := Lib.hid hsw
        clear hsw p0 p1 p2 p3 p4 p5 q0 q1 q2 q3 q4 q5 z0 z1 z2 z3 z4 z5 z6 z7 z8 z9 z10 z11
        generalize World.drew _ = Wz at HSW ⊢
        go_wp2
        go_roundw
        case rel => exact ⟨k + 1, by go_num, by omega, by rw [HE.out]; exact HSW.out.1, HSW.out.2.1, HSW.out.2.2⟩
        case measure => simp [intOf]; omega
    · have dk : decide ((k : Int) < (n : Int)) = false := decide_eq_false (by omega)
      obtain rfl : k = n := by omega
      go_wp2
      go_end0
      exact ⟨rfl, hCr, hTr, hG⟩
end Go.Proofs.YtjcaaiikccnpeaaDoor
