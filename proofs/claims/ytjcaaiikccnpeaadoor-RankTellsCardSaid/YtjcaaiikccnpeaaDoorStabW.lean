/- The library's stable sort of cards, walked: any number of cards. -/
import Derived.Test.YtjcaaiikccnpeaaDoorSymT
import Derived.Test.YtjcaaiikccnpeaaDoorStabPure
import Derived.Test.YtjcaaiikccnpeaaDoorScore
namespace Go.Proofs.YtjcaaiikccnpeaaDoor
open Go.ChangeShapes Go.WideShapes Go.ChangeAt Go.RowKit Go.Lib
set_option linter.unusedVariables false

theorem ins_seg (P M S : List Card) (n g c A E : Nat) (w : World) (hL : (P ++ (M ++ S)).length = n) (hA : P.length = A) (hE : A + M.length = E) (hn : n ≤ 1000000) (hc : n ≤ c) (hg : g < w.heap.size) (hC : CAt w g (P ++ (M ++ S))) (hT : w.there g 0 (n * 6)) :
    Calls Tryd.prog 70 #[.slice (some ⟨g, 0, none⟩) n c, .int .i64 A, .int .i64 E, .func (.func 37) #[] #[]] w (sortP w g (P ++ (sortS M ++ S)) n) := by
  subst hL hA hE
  have := ins_any _ g c P.length (P.length + M.length) w hn hc hg hC hT (by omega) (by simp only [List.length_append]; omega)
  rw [show P.length + M.length - P.length - 1 = M.length - 1 by omega, ins_sort] at this
  exact this
theorem blk_split2 (bs t : Nat) (l : List Card) : l = l.take (2 * bs * t) ++ (blk bs (2 * t) l ++ (blk bs (2 * t + 1) l ++ l.drop (2 * bs * t + 2 * bs))) := by
  have := blk_split (2 * bs) t l
  rw [blk_two, List.append_assoc] at this
  exact this
theorem blk_lens {bs t n : Nat} {L : List Card} (hl : L.length = n) (h : 2 * bs * t + bs < n) : (blk bs (2 * t) L).length = bs ∧ (blk bs (2 * t + 1) L).length = min bs (n - (2 * bs * t + bs)) := by
  have e1 : bs * (2 * t) = 2 * bs * t := by rw [← Nat.mul_assoc, Nat.mul_comm bs 2]
  have e2 : bs * (2 * t + 1) = 2 * bs * t + bs := by rw [Nat.mul_add, Nat.mul_one, e1]
  rw [blk_len, blk_len, e1, e2, hl]
  exact ⟨by omega, rfl⟩
set_option maxRecDepth 100000 in
set_option maxHeartbeats 4000000 in
theorem stable_any (l : List Card) (n g c : Nat) (w : World) (hl : l.length = n) (hn : n ≤ 1000000) (hc : n ≤ c) (hg : g < w.heap.size) (hC : CAt w g l) (hT : w.there g 0 (n * 6)) :
    Calls Tryd.prog 60 #[.slice (some ⟨g, 0, none⟩) n c, .int .i64 n, .func (.func 37) #[] #[]] w (sortP w g (sortS l) n) := by
  have HC := Lib.hid hC
  have HT := Lib.hid hT
  clear hC hT
  go_enter Tryd.func60, Tryd.ntmps60
  go_wp2
  go_loopw [7, 8] (fun v7 v8 wr => ∃ (A B : Nat) (L : List Card), v7 = .int .i64 A ∧ v8 = .int .i64 B ∧ Hid (B = A + 20) ∧ Hid (∃ t, A = 20 * t ∧ A ≤ n ∧ St1 t l L) ∧ CAt wr g L ∧ wr.there g 0 (n * 6) ∧ w.grownBy wr (some g)) (fun v _ _ => n - (intOf v).toNat)
  case atStart => exact ⟨0, 20, l, rfl, rfl, Lib.hid rfl, ⟨0, rfl, Nat.zero_le _, St1.start l⟩, HC.out, HT.out, World.grownBy.refl _ _⟩
  case round =>
    obtain ⟨A, B, L, rfl, rfl, hB', hz, hCr, hTr, hG⟩ := hrel
    have hB := hB'.out
    clear hB'
    obtain ⟨t, hA, hAn, hSt⟩ := hz.out
    have hgr : g < wr.heap.size := Nat.lt_of_lt_of_le hg hG.size
    have hLn : L.length = n := hSt.1.trans hl
    by_cases hle : B ≤ n
    · have dle : decide ((B : Int) ≤ (n : Int)) = true := decide_eq_true (by omega)
      have dleN : decide (B ≤ n) = true := decide_eq_true (by omega)
      have hsp := blk_split 20 t L
      rw [← hA] at hsp
      have hb : (blk 20 t L).length = 20 := by rw [blk_len]; omega
      have ci := ins_seg (L.take A) (blk 20 t L) (L.drop (A + 20)) n g c A B wr (by rw [← hsp]; exact hLn) (by rw [List.length_take]; omega) (by omega) hn hc hgr (by rw [← hsp]; exact hCr) hTr
      have hS2 := hSt.step (by omega)
      rw [← hA] at hS2
      have HN : Hid (∃ t', B = 20 * t' ∧ B ≤ n ∧ St1 t' l (L.take A ++ (sortS (blk 20 t L) ++ L.drop (A + 20)))) := ⟨t + 1, by omega, hle, hS2⟩
      have wB : IntKind.i64.wrap ((B : Int) + 20) = (B : Int) + 20 := IntWalk.i64_in _ (by omega)
      have hAB : A < B ∧ A < n := by omega
      have HG := Lib.hid hG
      clear hz hA hB hAn hSt hCr hTr hG hLn hsp hb hS2 hle
      generalize L.take A ++ (sortS (blk 20 t L) ++ L.drop (A + 20)) = L2 at *
      go_wp2_with fail
      refine ci.mono ?_
      rintro e w5 ⟨rfl, k1, k2, k3⟩
      have kG := HG.out.trans k3
      go_wp2
      go_roundw
      case rel => exact ⟨B, B + 20, L2, rfl, by go_num, Lib.hid rfl, HN, k1, k2, kG⟩
      case measure => simp [intOf]; omega
    · have dle : decide ((B : Int) ≤ (n : Int)) = false := decide_eq_false (by omega)
      have dleN : decide (B ≤ n) = false := decide_eq_false (by omega)
      have hsp : L.take A ++ (L.drop A ++ []) = L := by rw [List.append_nil, List.take_append_drop]
      have ci := ins_seg (L.take A) (L.drop A) [] n g c A n wr (by rw [hsp]; exact hLn) (by rw [List.length_take]; omega) (by rw [List.length_drop]; omega) hn hc hgr (by rw [hsp]; exact hCr) hTr
      have hS2 := hSt.last (by omega) (by omega)
      rw [← hA] at hS2
      have HN := Lib.hid hS2
      have HG := Lib.hid hG
      clear hz hA hB hAn hSt hCr hTr hG hLn hsp hS2 hle
      generalize L.take A ++ (sortS (L.drop A) ++ []) = L2 at *
      go_wp2_with fail
      refine ci.mono ?_
      rintro e w5 ⟨rfl, k1, k2, k3⟩
      have kG := Lib.hid (HG.out.trans k3)
      have K1 := Lib.hid k1
      have K2 := Lib.hid k2
      clear k1 k2 k3 ci HG HC HT
      go_wp2
      obtain ⟨wo, hwo⟩ : ∃ wo : World, wo = w5 := ⟨_, rfl⟩
      go_loopw [6] (fun v6 wr => ∃ (bs : Nat) (L : List Card), v6 = .int .i64 bs ∧ Hid (20 ≤ bs ∧ bs ≤ 2 * n + 20 ∧ AllSS bs l L ∧ L.length = n) ∧ CAt wr g L ∧ wr.there g 0 (n * 6) ∧ w.grownBy wr (some g)) (fun v _ => n - (intOf v).toNat)
      case atStart => exact ⟨20, L2, rfl, ⟨by omega, by omega, HN.out.1, HN.out.2.trans hl⟩, K1.out, K2.out, kG.out⟩
      case round =>
        clear hwo HN K1 K2 kG
        obtain ⟨bs, L3, rfl, hz, hCr, hTr, hG⟩ := hrel
        have hbs := hz.out.1
        have hbs2 := hz.out.2.1
        by_cases hlt : bs < n
        · have dlt : decide ((bs : Int) < (n : Int)) = true := decide_eq_true (by omega)
          have dltN : decide (bs < n) = true := decide_eq_true (by omega)
          have w2b : IntKind.i64.wrap (2 * (bs : Int)) = 2 * (bs : Int) := IntWalk.i64_in _ (by omega)
          have HS3 := Lib.hid (St3.start hz.out.2.2.1 (hz.out.2.2.2.trans hl.symm))
          have HCr := Lib.hid hCr
          have HTr := Lib.hid hTr
          have HG := Lib.hid hG
          clear hz hCr hTr hG
          go_wp2
          obtain ⟨wo, hwo⟩ : ∃ wo : World, wo = wr := ⟨_, rfl⟩
          go_loopw [7, 8] (fun v7 v8 wr => ∃ (A B : Nat) (L : List Card), v7 = .int .i64 A ∧ v8 = .int .i64 B ∧ Hid (B = A + 2 * bs) ∧ Hid (∃ t, A = 2 * bs * t ∧ A ≤ n ∧ St3 bs t l L) ∧ CAt wr g L ∧ wr.there g 0 (n * 6) ∧ w.grownBy wr (some g)) (fun v _ _ => n - (intOf v).toNat)
          case atStart => exact ⟨0, 2 * bs, L3, rfl, by go_num, Lib.hid (by omega), ⟨0, by simp, Nat.zero_le _, HS3.out⟩, HCr.out, HTr.out, HG.out⟩
          case round =>
            clear hwo HCr HTr HG HS3
            obtain ⟨A, B, L, rfl, rfl, hB', hz, hCr, hTr, hG⟩ := hrel
            have hB := hB'.out
            clear hB'
            obtain ⟨t, hA, hAn, hSt⟩ := hz.out
            have hgr : g < wr.heap.size := Nat.lt_of_lt_of_le hg hG.size
            have hLn : L.length = n := hSt.1.trans hl
            have hsp := blk_split2 bs t L
            rw [← hA] at hsp
            obtain ⟨M, hM⟩ : ∃ M, A + bs = M := ⟨_, rfl⟩
            have eM : (A : Int) + (bs : Int) = (M : Int) := by omega
            have wM : IntKind.i64.wrap (M : Int) = (M : Int) := IntWalk.i64_in _ (by omega)
            by_cases hle : B ≤ n
            · have dle : decide ((B : Int) ≤ (n : Int)) = true := decide_eq_true (by omega)
              have dleN : decide (B ≤ n) = true := decide_eq_true (by omega)
              have hbl := blk_lens (bs := bs) (t := t) hLn (by omega)
              rw [← hA] at hbl
              have s1 := (hSt.2.2 (2 * t) (Nat.le_refl _)).1
              have s2 := (hSt.2.2 (2 * t + 1) (by omega)).1
              have ci := sym_to _ (L.take A) (blk bs (2 * t) L) (blk bs (2 * t + 1) L) (L.drop (A + 2 * bs)) n g c A M B wr (Nat.le_refl _) (by rw [← hsp]; exact hLn) (by rw [List.length_take]; omega) (by omega) (by omega) (by omega) (by omega) s1 s2 hn hc hgr (by rw [← hsp]; exact hCr) hTr
              have hS2 := hSt.step (by omega) (by omega)
              rw [← hA] at hS2
              have HN : Hid (∃ t', B = 2 * bs * t' ∧ B ≤ n ∧ St3 bs t' l (L.take A ++ (mergeS (blk bs (2 * t) L) (blk bs (2 * t + 1) L) ++ L.drop (A + 2 * bs)))) := ⟨t + 1, by rw [Nat.mul_add, Nat.mul_one]; omega, hle, hS2⟩
              have e9 : (B : Int) + 2 * (bs : Int) = ((B + 2 * bs : Nat) : Int) := by omega
              have wB : IntKind.i64.wrap ((B : Int) + 2 * (bs : Int)) = (B : Int) + 2 * (bs : Int) := IntWalk.i64_in _ (by omega)
              have hAB : A < B ∧ A < n := by omega
              have HG := Lib.hid hG
              have HE9 := Lib.hid e9
              clear hz hA hB hAn hSt hCr hTr hG hLn hsp hbl hS2 hle s1 s2 e9
              generalize L.take A ++ (mergeS (blk bs (2 * t) L) (blk bs (2 * t + 1) L) ++ L.drop (A + 2 * bs)) = L2 at *
              go_wp2_with fail
              refine ci.mono ?_
              rintro e w5 ⟨rfl, k1, k2, k3⟩
              have kG := HG.out.trans k3
              go_wp2
              go_roundw
              case rel => exact ⟨B, B + 2 * bs, L2, rfl, by rw [HE9.out], Lib.hid rfl, HN, k1, k2, kG⟩
              case measure => simp [intOf]; omega
            · have dle : decide ((B : Int) ≤ (n : Int)) = false := decide_eq_false (by omega)
              have dleN : decide (B ≤ n) = false := decide_eq_false (by omega)
              have w2c : IntKind.i64.wrap ((bs : Int) * 2) = (bs : Int) * 2 := IntWalk.i64_in _ (by omega)
              have e2c : Hid ((bs : Int) * 2 = ((2 * bs : Nat) : Int)) := by unfold Hid; omega
              by_cases hm : M < n
              · have dm : decide ((M : Int) < (n : Int)) = true := decide_eq_true (by omega)
                have dmN : decide (M < n) = true := decide_eq_true (by omega)
                have hbl := blk_lens (bs := bs) (t := t) hLn (by omega)
                rw [← hA] at hbl
                have s1 := (hSt.2.2 (2 * t) (Nat.le_refl _)).1
                have s2 := (hSt.2.2 (2 * t + 1) (by omega)).1
                have ci := sym_to _ (L.take A) (blk bs (2 * t) L) (blk bs (2 * t + 1) L) (L.drop (A + 2 * bs)) n g c A M n wr (Nat.le_refl _) (by rw [← hsp]; exact hLn) (by rw [List.length_take]; omega) (by omega) (by omega) (by omega) (by omega) s1 s2 hn hc hgr (by rw [← hsp]; exact hCr) hTr
                have hS2 := hSt.step (by omega) (by omega)
                have hall := hS2.all (by rw [Nat.mul_add, Nat.mul_one]; omega)
                have hlen := hS2.1.trans hl
                rw [← hA] at hall hlen
                have HN : Hid (20 ≤ 2 * bs ∧ 2 * bs ≤ 2 * n + 20 ∧ AllSS (2 * bs) l (L.take A ++ (mergeS (blk bs (2 * t) L) (blk bs (2 * t + 1) L) ++ L.drop (A + 2 * bs))) ∧ (L.take A ++ (mergeS (blk bs (2 * t) L) (blk bs (2 * t + 1) L) ++ L.drop (A + 2 * bs))).length = n) := ⟨by omega, by omega, hall, hlen⟩
                have HG := Lib.hid hG
                clear hz hA hB hAn hSt hCr hTr hG hLn hsp hbl hS2 hle s1 s2 hm hall hlen
                generalize L.take A ++ (mergeS (blk bs (2 * t) L) (blk bs (2 * t + 1) L) ++ L.drop (A + 2 * bs)) = L2 at *
                go_wp2_with fail
                refine ci.mono ?_
                rintro e w5 ⟨rfl, k1, k2, k3⟩
                have kG := HG.out.trans k3
                go_wp2
                go_roundw
                case rel => exact ⟨2 * bs, L2, by rw [e2c.out], HN, k1, k2, kG⟩
                case measure => simp [intOf]; omega
              · have dm : decide ((M : Int) < (n : Int)) = false := decide_eq_false (by omega)
                have dmN : decide (M < n) = false := decide_eq_false (by omega)
                have hall := hSt.short (by omega) (by omega)
                have HN : Hid (20 ≤ 2 * bs ∧ 2 * bs ≤ 2 * n + 20 ∧ AllSS (2 * bs) l L ∧ L.length = n) := ⟨by omega, by omega, hall, hLn⟩
                clear hz hA hB hAn hSt hLn hsp hle hm hall
                go_wp2
                go_roundw
                case rel => exact ⟨2 * bs, L, by rw [e2c.out], HN, hCr, hTr, hG⟩
                case measure => simp [intOf]; omega
        · have dlt : decide ((bs : Int) < (n : Int)) = false := decide_eq_false (by omega)
          have dltN : decide (bs < n) = false := decide_eq_false (by omega)
          have hfin := hz.out.2.2.1.done (hz.out.2.2.2.trans hl.symm) (by omega)
          clear hz hlt
          go_wp2
          go_end0
          exact ⟨rfl, by rw [← hfin]; exact hCr, hTr, hG⟩
theorem sortfn_any (l : List Card) (n g c : Nat) (w : World) (hl : l.length = n) (hn : n ≤ 1000000) (hc : n ≤ c) (hg : g < w.heap.size) (hC : CAt w g l) (hT : w.there g 0 (n * 6)) :
    Calls Tryd.prog 44 #[.slice (some ⟨g, 0, none⟩) n c, .func (.func 37) #[] #[]] w (sortP w g (sortS l) n) := by
  have ci := stable_any l n g c w hl hn hc hg hC hT
  generalize sortS l = R at *
  clear hC hT
  go_enter Tryd.func44, Tryd.ntmps44
  go_wp2_with fail
  refine ci.mono ?_
  rintro e w1 ⟨rfl, h1, h2, h3⟩
  go_wp2
  go_end0
  exact ⟨rfl, h1, h2, h3⟩
end Go.Proofs.YtjcaaiikccnpeaaDoor
