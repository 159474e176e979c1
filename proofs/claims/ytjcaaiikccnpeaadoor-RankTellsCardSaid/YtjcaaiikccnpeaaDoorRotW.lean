/- The library's rotation at cards, walked. -/
import Derived.Test.YtjcaaiikccnpeaaDoorSwapW
namespace Go.Proofs.YtjcaaiikccnpeaaDoor
open Go.ChangeShapes Go.WideShapes Go.ChangeAt Go.RowKit Go.Lib
set_option linter.unusedVariables false

theorem swaprange_app (P A M B S : List Card) (n g c a b k : Nat) (w : World) (hL : (P ++ (A ++ (M ++ (B ++ S)))).length = n) (ha : P.length = a) (hb : P.length + A.length + M.length = b) (hk : A.length = k) (hAB : A.length = B.length) (hn : n ≤ 1000000) (hc : n ≤ c) (hg : g < w.heap.size)
    (hC : CAt w g (P ++ (A ++ (M ++ (B ++ S))))) (hT : w.there g 0 (n * 6)) :
    Calls Tryd.prog 95 #[.slice (some ⟨g, 0, none⟩) n c, .int .i64 a, .int .i64 b, .int .i64 k, .func (.func 37) #[] #[]] w (sortP w g (P ++ (B ++ (M ++ (A ++ S)))) n) := by
  subst ha hb hk hL
  have := swaprange_any _ g c P.length (P.length + A.length + M.length) A.length w hn hc hg hC hT (by omega) (by simp only [List.length_append]; omega)
  rw [swapR_app P A M B S hAB] at this
  exact this
theorem split_at (X : List Card) {k : Nat} (h : k ≤ X.length) : ∃ X1 X2, X = X1 ++ X2 ∧ X1.length = k ∧ X2.length = X.length - k :=
  ⟨X.take k, X.drop k, (List.take_append_drop k X).symm, by rw [List.length_take]; omega, by rw [List.length_drop]⟩
set_option maxRecDepth 100000 in
set_option maxHeartbeats 2000000 in
theorem rotate_any (P0 A0 B0 S0 : List Card) (n g c a m b : Nat) (w : World) (hL : (P0 ++ (A0 ++ (B0 ++ S0))).length = n) (ha : P0.length = a) (hm : a + A0.length = m) (hb : m + B0.length = b) (hA : 0 < A0.length) (hB : 0 < B0.length) (hn : n ≤ 1000000) (hc : n ≤ c) (hg : g < w.heap.size)
    (hC : CAt w g (P0 ++ (A0 ++ (B0 ++ S0)))) (hT : w.there g 0 (n * 6)) :
    Calls Tryd.prog 82 #[.slice (some ⟨g, 0, none⟩) n c, .int .i64 a, .int .i64 m, .int .i64 b, .func (.func 37) #[] #[]] w (sortP w g (P0 ++ (B0 ++ (A0 ++ S0))) n) := by
  have hlen : P0.length + A0.length + B0.length + S0.length = n := by rw [← hL]; simp only [List.length_append]; omega
  obtain ⟨R, hR⟩ : ∃ R, R = P0 ++ (B0 ++ (A0 ++ S0)) := ⟨_, rfl⟩
  rw [← hR]
  obtain ⟨i0, hi0⟩ : ∃ i0, A0.length = i0 := ⟨_, rfl⟩
  obtain ⟨j0, hj0⟩ : ∃ j0, B0.length = j0 := ⟨_, rfl⟩
  have e1 : (m : Int) - (a : Int) = (i0 : Int) := by omega
  have e2 : (b : Int) - (m : Int) = (j0 : Int) := by omega
  have w1 : IntKind.i64.wrap (i0 : Int) = (i0 : Int) := IntWalk.i64_in _ (by omega)
  have w2 : IntKind.i64.wrap (j0 : Int) = (j0 : Int) := IntWalk.i64_in _ (by omega)
  have HS : Hid (∃ P X Y S, P ++ (X ++ (Y ++ S)) = P0 ++ (A0 ++ (B0 ++ S0)) ∧ P.length + i0 = m ∧ X.length = i0 ∧ Y.length = j0 ∧ (P ++ (X ++ (Y ++ S))).length = n ∧ P ++ (Y ++ (X ++ S)) = R) := ⟨P0, A0, B0, S0, rfl, by omega, hi0, hj0, hL, hR.symm⟩
  have hpos : 0 < i0 ∧ 0 < j0 := by omega
  have hbd : i0 + j0 ≤ n ∧ m ≤ n := by omega
  generalize P0 ++ (A0 ++ (B0 ++ S0)) = L0 at *
  have HC := Lib.hid hC
  have HT := Lib.hid hT
  have HP := Lib.hid hpos
  have HB := Lib.hid hbd
  clear hC hT hL hR hi0 hj0 hlen hpos hbd hA hB ha hm hb
  go_enter Tryd.func82, Tryd.ntmps82
  go_wp2
  clear e1 e2 w1 w2
  go_loopw [10, 11] (fun v10 v11 wr => ∃ (i j : Nat) (P X Y S : List Card), v10 = .int .i64 i ∧ v11 = .int .i64 j ∧ Hid (0 < i ∧ 0 < j ∧ i + j ≤ n ∧ P.length + i = m ∧ X.length = i ∧ Y.length = j ∧ (P ++ (X ++ (Y ++ S))).length = n ∧ P ++ (Y ++ (X ++ S)) = R) ∧ CAt wr g (P ++ (X ++ (Y ++ S))) ∧ wr.there g 0 (n * 6) ∧ w.grownBy wr (some g)) (fun v u _ => (intOf v).toNat + (intOf u).toNat)
  case atStart =>
    obtain ⟨P, X, Y, S, h0, h1, h2, h3, h4, h5⟩ := HS.out
    exact ⟨i0, j0, P, X, Y, S, rfl, rfl, ⟨HP.out.1, HP.out.2, HB.out.1, h1, h2, h3, h4, h5⟩, by rw [h0]; exact HC.out, HT.out, World.grownBy.refl _ _⟩
  case round =>
    obtain ⟨i, j, P, X, Y, S, rfl, rfl, hz, hCr, hTr, hG⟩ := hrel
    obtain ⟨z1, z2, z3, z4, z5, z6, z7, z8⟩ := hz.out
    have hmn := HB.out.2
    have hgr : g < wr.heap.size := Nat.lt_of_lt_of_le hg hG.size
    obtain ⟨q, hq⟩ : ∃ q, P.length = q := ⟨_, rfl⟩
    have e1 : (m : Int) - (i : Int) = (q : Int) := by omega
    have wq : IntKind.i64.wrap (q : Int) = (q : Int) := IntWalk.i64_in _ (by omega)
    have hlen : P.length + X.length + Y.length + S.length = n := by rw [← z7]; simp only [List.length_append]; omega
    by_cases hne : i = j
    · subst hne
      have ci := swaprange_app P X [] Y S n g c q m i wr (by simpa using z7) hq (by simp; omega) z5 (by omega) hn hc hgr (by simpa using hCr) hTr
      rw [List.nil_append, z8] at ci
      have HG := Lib.hid hG
      clear hCr hTr hG hz z1 z2 z3 z4 z5 z6 z7 z8 hlen
      go_wp2_with fail
      refine ci.mono ?_
      rintro e w5 ⟨rfl, k1, k2, k3⟩
      have hGG := HG.out.trans k3
      go_wp2
      go_end0
      exact ⟨rfl, k1, k2, hGG⟩
    · have dne : ((i : Int) == (j : Int)) = false := by simp; omega
      have dne2 : ¬ ((i : Int) = (j : Int)) := by omega
      by_cases hgt : j < i
      · have dgt : decide ((j : Int) < (i : Int)) = true := decide_eq_true (by omega)
        obtain ⟨X1, X2, rfl, x1, x2⟩ := split_at X (k := j) (by omega)
        have hap : (P ++ (X1 ++ (X2 ++ (Y ++ S)))).length = n := by rw [← z7]; simp only [List.append_assoc]
        have ci := swaprange_app P X1 X2 Y S n g c q m j wr hap hq (by omega) x1 (by omega) hn hc hgr (by simpa only [List.append_assoc] using hCr) hTr
        obtain ⟨i', hi'⟩ : ∃ i', i - j = i' := ⟨_, rfl⟩
        have e3 : (i : Int) - (j : Int) = (i' : Int) := by omega
        have wi : IntKind.i64.wrap (i' : Int) = (i' : Int) := IntWalk.i64_in _ (by omega)
        have HN : Hid (0 < i' ∧ 0 < j ∧ i' + j ≤ n ∧ (P ++ Y).length + i' = m ∧ X2.length = i' ∧ X1.length = j ∧ ((P ++ Y) ++ (X2 ++ (X1 ++ S))).length = n ∧ (P ++ Y) ++ (X1 ++ (X2 ++ S)) = R) := by
          refine ⟨by omega, z2, by omega, by rw [List.length_append]; omega, by omega, x1, by rw [← hap]; simp only [List.length_append]; omega, ?_⟩
          rw [← z8]
          simp only [List.append_assoc]
        have hlt : i' + j < i + j := by omega
        have HG := Lib.hid hG
        clear hCr hTr hG hz z1 z2 z3 z4 z5 z6 z7 z8 hlen hap x1 x2 hi'
        go_wp2_with fail
        refine ci.mono ?_
        rintro e w5 ⟨rfl, k1, k2, k3⟩
        have hGG := HG.out.trans k3
        go_wp2
        go_roundw
        case rel => exact ⟨i', j, P ++ Y, X2, X1, S, rfl, rfl, HN, by simpa only [List.append_assoc] using k1, k2, hGG⟩
        case measure => simp [intOf]; omega
      · have dgt : decide ((j : Int) < (i : Int)) = false := decide_eq_false (by omega)
        obtain ⟨Y1, Y2, rfl, y1, y2⟩ := split_at Y (k := j - i) (by omega)
        have hap : (P ++ (X ++ (Y1 ++ (Y2 ++ S)))).length = n := by rw [← z7]; simp only [List.append_assoc]
        obtain ⟨u, hu⟩ : ∃ u, m + j = u := ⟨_, rfl⟩
        obtain ⟨v, hv⟩ : ∃ v, u - i = v := ⟨_, rfl⟩
        have ci := swaprange_app P X Y1 Y2 S n g c q v i wr hap hq (by omega) z5 (by omega) hn hc hgr (by simpa only [List.append_assoc] using hCr) hTr
        obtain ⟨j', hj'⟩ : ∃ j', j - i = j' := ⟨_, rfl⟩
        have e3 : (j : Int) - (i : Int) = (j' : Int) := by omega
        have e4 : (m : Int) + (j : Int) = (u : Int) := by omega
        have e5 : (u : Int) - (i : Int) = (v : Int) := by omega
        have wi : IntKind.i64.wrap (j' : Int) = (j' : Int) := IntWalk.i64_in _ (by omega)
        have wu : IntKind.i64.wrap (u : Int) = (u : Int) := IntWalk.i64_in _ (by omega)
        have wv : IntKind.i64.wrap (v : Int) = (v : Int) := IntWalk.i64_in _ (by omega)
        have HN : Hid (0 < i ∧ 0 < j' ∧ i + j' ≤ n ∧ P.length + i = m ∧ Y2.length = i ∧ Y1.length = j' ∧ (P ++ (Y2 ++ (Y1 ++ (X ++ S)))).length = n ∧ P ++ (Y1 ++ (Y2 ++ (X ++ S))) = R) := by
          refine ⟨z1, by omega, by omega, z4, by omega, by omega, by rw [← hap]; simp only [List.length_append]; omega, ?_⟩
          rw [← z8]
          simp only [List.append_assoc]
        have hlt : i + j' < i + j := by omega
        have HG := Lib.hid hG
        clear hCr hTr hG hz z1 z2 z3 z4 z5 z6 z7 z8 hlen hap y1 y2 hj' hu hv
        go_wp2_with fail
        refine ci.mono ?_
        rintro e w5 ⟨rfl, k1, k2, k3⟩
        have hGG := HG.out.trans k3
        go_wp2
        go_roundw
        case rel => exact ⟨i, j', P, Y2, Y1, X ++ S, rfl, rfl, HN, k1, k2, hGG⟩
        case measure => simp [intOf]; omega
end Go.Proofs.YtjcaaiikccnpeaaDoor
