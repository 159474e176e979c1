/- The reference's reader, walked. -/
import Derived.Test.YtckgnmloemnkcaaRd3
import Derived.Test.YtckgnmloemnkcaaRefModel
namespace Go.Proofs.Ytckgnmloemnkcaa
open Go.ChangeShapes Go.WideShapes Go.ChangeAt Go.RowKit Go.Lib
set_option linter.unusedVariables false

theorem rleft_any (p : Nat) (r : Rd) (w : World) (h : RdAt w p 59 r) : Calls Try.prog 40 #[.pointer (some ⟨p, 0, none⟩)] w (fun e w' => e = .returned (.int .i64 r.rest.length) ∧ w' = w) := by
  have h0 := h.c0
  have hs := bs_size r.rest
  go_enter Try.func40, Try.ntmps40
  go_wp2
  go_ret
  exact ⟨rfl, rfl⟩
theorem rfail_any (p : Nat) (r : Rd) (w : World) (h : RdAt w p 59 r) : Calls Try.prog 51 #[.pointer (some ⟨p, 0, none⟩)] w (fun e w' => e = .returned (.tuple #[]) ∧ RdAt w' p 59 Rd.fail ∧ Chg [p] w w') := by
  have h0 := h.c0
  have hs := bs_size r.rest
  have hf0 := h.f0 0
  have h1 := (h.set0 []).c1
  have hf1 := (h.set0 []).f0 1
  have he : bs [] = ⟨#[]⟩ := rfl
  rw [he] at h1 hf1
  go_enter Try.func51, Try.ntmps51
  go_wp2
  go_end0
  refine ⟨rfl, ?_, ?_⟩
  · exact ((h.set0 []).set1 true)
  · exact ((Chg.refl _ _).setCell (by simp) _).setCell (by simp) _
set_option maxRecDepth 100000 in
theorem length_any (l : List UInt8) (w : World) (hl : l.length ≤ 1000000000) : Calls Try.prog 50 #[.string (bs l)] w (fun e w' => e = .returned (.int .i64 (lenF 9 0 l)) ∧ w' = w) := by
  have hs := bs_size l
  go_enter Try.func50, Try.ntmps50
  go_wp2
  go_loop [3] (fun v0 => ∃ i : Nat, v0 = .int .i64 i ∧ i ≤ 9 ∧ i ≤ l.length ∧ Hid (lenF 9 0 l = lenF (9 - i) i (l.drop i))) (fun v0 => 9 - (intOf v0).toNat)
  case atStart => exact ⟨0, rfl, by omega, by omega, rfl⟩
  case round =>
    obtain ⟨i, rfl, hi, hil, HI⟩ := hrel
    by_cases hc1 : i < l.length
    · by_cases hc2 : i < 9
      · obtain ⟨d, hd⟩ : ∃ d, l[i]? = some d := ⟨_, List.getElem?_eq_getElem hc1⟩
        have hg : ∀ h, ((bs l)[i]'h).toNat = d.toNat := by
          intro h
          simp only [bs]
          rw [List.getElem?_eq_getElem hc1] at hd
          simp at hd
          rw [← hd]; rfl
        have hd8 : d.toNat < 256 := d.toNat_lt
        have HD : Hid (lenF 9 0 l = if d.toNat < 128 then (if 0 < d.toNat ∨ i = 0 then i + 1 else 0) else lenF (9 - (i + 1)) (i + 1) (l.drop (i + 1))) := by
          unfold Hid
          rw [HI.out, List.drop_eq_getElem_cons hc1, show 9 - i = (9 - (i + 1)) + 1 by omega]
          rw [List.getElem?_eq_getElem hc1] at hd
          simp only [Option.some.injEq] at hd
          rw [hd]
          conv => lhs; unfold lenF
        clear hd
        generalize d.toNat = c at *
        by_cases h128 : c < 128
        · by_cases hz : c = 0
          · subst hz
            by_cases hi0 : i = 0
            · subst hi0
              have HN : Hid (lenF 9 0 l = 1) := by unfold Hid; rw [HD.out]; simp
              go_wp2
              go_ret
              exact ⟨by rw [HN.out]; rfl, rfl⟩
            · have HN : Hid (lenF 9 0 l = 0) := by unfold Hid; rw [HD.out]; simp [hi0]
              have hib : ((i : Int) == 0) = false := by simpa using hi0
              go_wp2
              go_ret
              exact ⟨by rw [HN.out]; rfl, rfl⟩
          · have HN : Hid (lenF 9 0 l = i + 1) := by unfold Hid; rw [HD.out, if_pos h128, if_pos (by omega)]
            have hc0 : 0 < c := by omega
            go_wp2
            go_ret
            exact ⟨by rw [HN.out]; rfl, rfl⟩
        · have HN : Hid (lenF 9 0 l = lenF (9 - (i + 1)) (i + 1) (l.drop (i + 1))) := by unfold Hid; rw [HD.out, if_neg h128]
          go_wp2
          refine ⟨⟨i + 1, by simp, by omega, by omega, HN⟩, by simp [intOf]; omega⟩
      · have hi9 : i = 9 := by omega
        subst hi9
        have HN : Hid (lenF 9 0 l = 0) := by unfold Hid; rw [HI.out]; rfl
        go_wp2
        go_ret
        exact ⟨by rw [HN.out]; rfl, rfl⟩
    · have HN : Hid (lenF 9 0 l = 0) := by
        unfold Hid
        rw [HI.out, List.drop_of_length_le (by omega)]
        cases h9 : 9 - i <;> rfl
      go_wp2
      go_ret
      exact ⟨by rw [HN.out]; rfl, rfl⟩
theorem value_any (l : List UInt8) (w : World) (h0 : 0 < l.length) (h9 : l.length ≤ 9) : Calls Try.prog 52 #[.string (bs l)] w (fun e w' => e = .returned (.int .i64 (valF l)) ∧ w' = w) := by
  induction l generalizing w with
  | nil => simp at h0
  | cons d r ih =>
    have hs := bs_size (d :: r)
    have hg : ∀ h, ((bs (d :: r))[0]'h).toNat = d.toNat := fun h => rfl
    have hd8 : d.toNat < 256 := d.toNat_lt
    have hv := valF_lt r
    have hb : valF r < 128 ^ 8 := by
      have : 128 ^ r.length ≤ 128 ^ 8 := Nat.pow_le_pow_right (by omega) (by simp at h9; omega)
      omega
    have HN : Hid (valF (d :: r) = d.toNat % 128 + 128 * valF r) := rfl
    have hm8 : (d.toNat : Int) % 128 < 128 := by omega
    have hm0 : 0 ≤ (d.toNat : Int) % 128 := by omega
    have hlen : (d :: r).length = r.length + 1 := rfl
    rw [hlen] at hs h9
    clear h0 hv hlen
    by_cases hr : r.length = 0
    · have hr0 : r = [] := List.eq_nil_of_length_eq_zero hr
      have HV : Hid (valF (d :: r) = d.toNat % 128) := by unfold Hid; rw [HN.out, hr0]; rfl
      have hone : ((r.length + 1 : Nat) : Int) = 1 := by omega
      rw [hr] at hs
      clear hr hr0 ih hone
      go_enter Try.func52, Try.ntmps52
      go_wp2
      go_ret
      exact ⟨by rw [HV.out]; simp, rfl⟩
    · have hone : (((r.length + 1 : Nat) : Int) == 1) = false := by simp; omega
      have hone2 : (((r.length : Int) + 1) == 1) = false := by simp; omega
      have hex : (bs (d :: r)).extract 1 (r.length + 1) = bs r := by rw [bs_extract]; simp
      have IH := fun W => ih W (by omega) (by omega)
      clear ih
      generalize valF r = vr at *
      go_enter Try.func52, Try.ntmps52
      go_wp2_with (go_at_call 52; refine (IH _).mono ?_; rintro e w' ⟨rfl, rfl⟩)
      go_ret
      exact ⟨by rw [HN.out]; simp, rfl⟩
theorem rnum_rd (p : Nat) (r : Rd) (w : World) (h : RdAt w p 59 r) (hl : r.rest.length ≤ 1000000000) : Calls Try.prog 27 #[.pointer (some ⟨p, 0, none⟩)] w (RdPost w p 59 (.int .i64 r.num.1) r.num.2) := by
  have h0 := h.c0
  have hs := bs_size r.rest
  have HNUM := Lib.hid (num_ref r)
  have cl := length_any r.rest w hl
  have hle := lenF_le 9 0 r.rest
  generalize hL : lenF 9 0 r.rest = L at *
  clear hL
  by_cases hz : L = 0
  · subst hz
    have HN : Hid (r.num = (0, Rd.fail)) := by unfold Hid; rw [HNUM.out, if_pos rfl]
    have cf := rfail_any p r w h
    clear hle
    go_enter Try.func27, Try.ntmps27
    go_wp2_with (first | (go_at_call 50; refine (cl).mono ?_; rintro e w' ⟨rfl, rfl⟩) | (go_at_call 51; refine (cf).mono ?_; rintro e w' ⟨rfl, hb⟩))
    go_ret
    unfold RdPost
    rw [HN.out]
    exact ⟨rfl, hb⟩
  · have HN : Hid (r.num = (valF (r.rest.take L), ⟨r.rest.drop L, r.bad⟩)) := by unfold Hid; rw [HNUM.out, if_neg hz]
    have hlb : ((L : Int) == 0) = false := by simpa using hz
    have hL1 : L ≤ r.rest.length := by omega
    have hL9 : L ≤ 9 := by omega
    have hex1 : (bs r.rest).extract 0 L = bs (r.rest.take L) := by rw [bs_extract]; simp
    have hex2 : (bs r.rest).extract L r.rest.length = bs (r.rest.drop L) := by rw [bs_extract, List.take_of_length_le (by simp)]
    have cv := value_any (r.rest.take L) w (by simp; omega) (by simp; omega)
    have hf0 := h.f0 0
    have hset := Lib.hid (h.set0 (r.rest.drop L))
    have hchg := Lib.hid ((Chg.refl [p] w).setCell (p := ⟨p, 0, none⟩) (by simp) (.string (bs (r.rest.drop L))))
    clear hle hz HNUM
    go_enter Try.func27, Try.ntmps27
    go_wp2_with (first | (go_at_call 50; refine (cl).mono ?_; rintro e w' ⟨rfl, rfl⟩) | (go_at_call 52; refine (cv).mono ?_; rintro e w' ⟨rfl, rfl⟩))
    go_ret
    unfold RdPost
    rw [HN.out]
    exact ⟨rfl, hset.out, hchg.out⟩
theorem rint_rd (p : Nat) (r : Rd) (w : World) (h : RdAt w p 59 r) (hl : r.rest.length ≤ 1000000000) : Calls Try.prog 29 #[.pointer (some ⟨p, 0, none⟩)] w (RdPost w p 59 (.int .i64 r.int.1) r.int.2) := by
  have cn := rnum_rd p r w h hl
  have hlt := r.num_lt
  have hN : Hid (r.int = if unzig r.num.1 < -lim ∨ lim < unzig r.num.1 then (0, Rd.fail) else (unzig r.num.1, r.num.2)) := rfl
  have hU : Hid (unzig r.num.1 = if r.num.1 % 2 = 1 then -((r.num.1 / 2 : Nat) : Int) - 1 else ((r.num.1 / 2 : Nat) : Int)) := rfl
  generalize r.num.1 = z at *
  generalize r.num.2 = r1 at *
  unfold lim at hN
  by_cases hz : z % 2 = 1
  · have hzi : (z : Int) % 2 = 1 := by omega
    have hU' := hU.out
    rw [if_pos hz] at hU'
    have HU := Lib.hid hU'
    clear hU hU' hz
    by_cases ho : -((z : Int) / 2) - 1 < -2305843009213693952
    · have hN' := hN.out
      rw [if_pos (by left; rw [HU.out]; omega)] at hN'
      have HN := Lib.hid hN'
      clear hN hN'
      go_enter Try.func29, Try.ntmps29
      go_wp2_with (first | (go_at_call 27; refine (cn).mono ?_; rintro e w1 ⟨rfl, hr1, hch1⟩) | (go_at_call 51; refine (rfail_any p r1 w1 hr1).mono ?_; rintro e w2 ⟨rfl, hr2, hch2⟩))
      go_ret
      unfold RdPost
      rw [HN.out]
      exact ⟨rfl, hr2, hch1.trans hch2⟩
    · have hN' := hN.out
      rw [if_neg (by rw [HU.out]; omega), HU.out] at hN'
      have HN := Lib.hid hN'
      have hg1 : decide (-((z : Int) / 2) - 1 < -2305843009213693952) = false := by simp; omega
      have hg2 : decide (2305843009213693952 < -((z : Int) / 2) - 1) = false := by simp; omega
      clear hN hN' ho
      go_enter Try.func29, Try.ntmps29
      go_wp2_with (first | (go_at_call 27; refine (cn).mono ?_; rintro e w1 ⟨rfl, hr1, hch1⟩))
      go_ret
      unfold RdPost
      rw [HN.out]
      exact ⟨by simp, hr1, hch1⟩
  · have hzi : (((z : Int) % 2) == 1) = false := by simp; omega
    have hU' := hU.out
    rw [if_neg hz] at hU'
    have HU := Lib.hid hU'
    clear hU hU' hz
    have hg1 : decide (((z : Int) / 2) < -2305843009213693952) = false := by simp; omega
    by_cases ho : 2305843009213693952 < ((z : Int) / 2)
    · have hN' := hN.out
      rw [if_pos (by right; rw [HU.out]; omega)] at hN'
      have HN := Lib.hid hN'
      clear hN hN'
      go_enter Try.func29, Try.ntmps29
      go_wp2_with (first | (go_at_call 27; refine (cn).mono ?_; rintro e w1 ⟨rfl, hr1, hch1⟩) | (go_at_call 51; refine (rfail_any p r1 w1 hr1).mono ?_; rintro e w2 ⟨rfl, hr2, hch2⟩))
      go_ret
      unfold RdPost
      rw [HN.out]
      exact ⟨rfl, hr2, hch1.trans hch2⟩
    · have hN' := hN.out
      rw [if_neg (by rw [HU.out]; omega), HU.out] at hN'
      have HN := Lib.hid hN'
      have hg2 : decide (2305843009213693952 < ((z : Int) / 2)) = false := by simp; omega
      clear hN hN' ho
      go_enter Try.func29, Try.ntmps29
      go_wp2_with (first | (go_at_call 27; refine (cn).mono ?_; rintro e w1 ⟨rfl, hr1, hch1⟩))
      go_ret
      unfold RdPost
      rw [HN.out]
      exact ⟨by simp, hr1, hch1⟩
theorem rtake_rd (p : Nat) (r : Rd) (n : Int) (w : World) (h : RdAt w p 59 r) (hl : r.rest.length ≤ 1000000000) : Calls Try.prog 39 #[.pointer (some ⟨p, 0, none⟩), .int .i64 n] w (RdPost w p 59 (.string (bs (r.take n).1)) (r.take n).2) := by
  have h0 := h.c0
  have h1 := h.c1
  have hs := bs_size r.rest
  have cf := rfail_any p r w h
  by_cases ho : r.bad = true ∨ n < 0 ∨ (r.rest.length : Int) < n
  · have HN : Hid (r.take n = ([], Rd.fail)) := by unfold Hid Rd.take; rw [if_pos ho]
    have key : ∀ (X : World), RdAt X p 59 Rd.fail ∧ Chg [p] w X → RdPost w p 59 (.string (bs (r.take n).1)) (r.take n).2 (.returned (.string ⟨#[]⟩)) X := by
      intro X hX
      unfold RdPost
      rw [HN.out]
      exact ⟨rfl, hX⟩
    have KEY := Lib.hid key
    clear key
    by_cases hn : n < 0
    · go_enter Try.func39, Try.ntmps39
      go_wp2_with (go_at_call 51; refine (cf).mono ?_; rintro e w' ⟨rfl, hb⟩)
      go_ret
      exact KEY.out _ hb
    · have hn' : decide (n < 0) = false := by simpa using hn
      by_cases hlt : (r.rest.length : Int) < n
      · go_enter Try.func39, Try.ntmps39
        go_wp2_with (go_at_call 51; refine (cf).mono ?_; rintro e w' ⟨rfl, hb⟩)
        go_ret
        exact KEY.out _ hb
      · have hlt' : decide ((r.rest.length : Int) < n) = false := by simpa using hlt
        have hb : r.bad = true := by
          rcases ho with h | h | h
          · exact h
          · exact absurd h hn
          · exact absurd h hlt
        rw [hb] at h1
        clear ho hb hn hlt
        go_enter Try.func39, Try.ntmps39
        go_wp2_with (go_at_call 51; refine (cf).mono ?_; rintro e w' ⟨rfl, hb⟩)
        go_ret
        exact KEY.out _ hb
  · obtain ⟨k, rfl⟩ : ∃ k : Nat, n = k := ⟨n.toNat, by omega⟩
    have HN : Hid (r.take k = (r.rest.take k, ⟨r.rest.drop k, r.bad⟩)) := by unfold Hid Rd.take; rw [if_neg ho]; simp
    have hb' : r.bad = false := by
      cases hb : r.bad
      · rfl
      · exact absurd (Or.inl hb) ho
    have hk : k ≤ r.rest.length := by omega
    have hg1 : decide ((k : Int) < 0) = false := by simp
    have hg2 : decide ((r.rest.length : Int) < (k : Int)) = false := by simp; omega
    rw [hb'] at h1
    have hf0 := h.f0 0
    have hex1 : (bs r.rest).extract 0 k = bs (r.rest.take k) := by rw [bs_extract]; simp
    have hex2 : (bs r.rest).extract k r.rest.length = bs (r.rest.drop k) := by rw [bs_extract, List.take_of_length_le (by simp)]
    have hset := Lib.hid (h.set0 (r.rest.drop k))
    have hchg := Lib.hid ((Chg.refl [p] w).setCell (p := ⟨p, 0, none⟩) (by simp) (.string (bs (r.rest.drop k))))
    clear ho cf
    go_enter Try.func39, Try.ntmps39
    go_wp2
    go_ret
    unfold RdPost
    rw [HN.out]
    exact ⟨rfl, hset.out, hchg.out⟩
theorem rtext_rd (p : Nat) (r : Rd) (w : World) (h : RdAt w p 59 r) (hl : r.rest.length ≤ 1000000000) : Calls Try.prog 31 #[.pointer (some ⟨p, 0, none⟩)] w (RdPost w p 59 (.string (bs r.text.1)) r.text.2) := by
  have cn := rnum_rd p r w h hl
  have hl1 := r.num_len
  have HN : Hid (r.text = r.num.2.take r.num.1) := rfl
  generalize r.num.1 = z at *
  generalize r.num.2 = r1 at *
  go_enter Try.func31, Try.ntmps31
  go_wp2_with (first | (go_at_call 27; refine (cn).mono ?_; rintro e w1 ⟨rfl, hr1, hch1⟩) | (go_at_call 39; refine (rtake_rd p r1 z w1 hr1 (by omega)).mono ?_; rintro e w2 ⟨rfl, hr2, hch2⟩))
  go_ret
  unfold RdPost
  rw [HN.out]
  exact ⟨rfl, hr2, hch1.trans hch2⟩
theorem rdone_rd (p : Nat) (r : Rd) (w : World) (h : RdAt w p 59 r) : Calls Try.prog 41 #[.pointer (some ⟨p, 0, none⟩)] w (fun e w' => e = .returned (.bool r.done) ∧ w' = w) := by
  have h0 := h.c0
  have h1 := h.c1
  have hs := bs_size r.rest
  have he := bs_toList r.rest
  have HN : Hid (r.done = (!r.bad && r.rest.isEmpty)) := rfl
  cases hem : r.rest.isEmpty
  · have HE := Lib.hid hem
    go_enter Try.func41, Try.ntmps41
    go_wp2
    go_ret
    exact ⟨by rw [HN.out, HE.out]; simp, rfl⟩
  · have HE := Lib.hid hem
    cases hb : r.bad
    · rw [hb] at h1
      have HB := Lib.hid hb
      clear hb
      go_enter Try.func41, Try.ntmps41
      go_wp2
      go_ret
      exact ⟨by rw [HN.out, HE.out, HB.out]; rfl, rfl⟩
    · rw [hb] at h1
      have HB := Lib.hid hb
      clear hb
      go_enter Try.func41, Try.ntmps41
      go_wp2
      go_ret
      exact ⟨by rw [HN.out, HE.out, HB.out]; rfl, rfl⟩
theorem ropen_rd (s : List UInt8) (w : World) : Calls Try.prog 23 #[.string (bs s)] w (fun e w' => e = .returned (.pointer (some ⟨w.heap.size, 0, none⟩)) ∧ RdAt w' w.heap.size 59 ⟨s, false⟩ ∧ Below w.heap.size w w') := by
  go_enter Try.func23, Try.ntmps23
  go_wp2
  go_ret
  refine ⟨rfl, ?_, (Below.refl _ _).alloc (Nat.le_refl _) _⟩
  exact heap_alloc_new w _
end Go.Proofs.Ytckgnmloemnkcaa
