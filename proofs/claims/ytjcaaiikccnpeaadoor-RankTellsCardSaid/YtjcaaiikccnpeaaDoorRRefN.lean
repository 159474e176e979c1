/- The reference's number, after and Parse of weights, walked. -/
import Derived.Test.YtjcaaiikccnpeaaDoorRRefP
import Derived.Test.YtjcaaiikccnpeaaDoorRefParse
import Derived.Test.YtjcaaiikccnpeaaDoorParseX
namespace Go.Proofs.YtjcaaiikccnpeaaDoor
open Go.ChangeShapes Go.WideShapes Go.ChangeAt Go.RowKit Go.Lib
set_option linter.unusedVariables false
set_option linter.unusedSimpArgs false

theorem bs_ext (l : List UInt8) (a b : Nat) : (bs l).extract a b = bs ((l.drop a).take (b - a)) := by
  apply ByteArray.ext
  simp [bs]
theorem after_short {s wd : List UInt8} (h : s.length < wd.length) : afterR s wd = [] := by
  unfold afterR
  rw [if_neg]
  intro e
  have := congrArg List.length e
  rw [List.length_take] at this
  omega
theorem rafter_any (s wd : List UInt8) (w : World) (hs : s.length ≤ 2000) (hw : wd.length ≤ 20) : Calls Tryd.prog 36 #[.string (bs s), .string (bs wd)] w (Same (.string (bs (afterR s wd))) w) := by
  have z1 := bs_size s
  have z2 := bs_size wd
  by_cases h : s.length < wd.length
  · have d1 : decide ((s.length : Int) < (wd.length : Int)) = true := decide_eq_true (by omega)
    have d1N : decide (s.length < wd.length) = true := decide_eq_true h
    have HR := Lib.hid (after_short h)
    go_enter Tryd.func36, Tryd.ntmps36
    go_wp2
    go_ret
    exact ⟨by rw [HR.out]; rfl, rfl⟩
  · have d1 : decide ((s.length : Int) < (wd.length : Int)) = false := decide_eq_false (by omega)
    have d1N : decide (s.length < wd.length) = false := decide_eq_false h
    have x1 : (bs s).extract 0 wd.length = bs (s.take wd.length) := by rw [bs_ext]; simp
    have x2 : (bs s).extract wd.length s.length = bs (s.drop wd.length) := by rw [bs_ext, List.take_of_length_le (by simp)]
    have l1 : (wd.length : Int) ≤ (s.length : Int) := by omega
    have t1 := bs_toList (s.take wd.length)
    have t2 := bs_toList wd
    by_cases he : s.take wd.length = wd
    · have HR : Hid (afterR s wd = s.drop wd.length) := by unfold Hid afterR; rw [if_pos he]
      rw [he] at x1
      have e1 : (wd == wd) = true := by simp
      clear he t1
      go_enter Tryd.func36, Tryd.ntmps36
      go_wp2
      go_ret
      exact ⟨by rw [HR.out]; first | done | rfl, rfl⟩
    · have HR : Hid (afterR s wd = []) := by unfold Hid afterR; rw [if_neg he]
      have e1 : (s.take wd.length == wd) = false := beq_eq_false_iff_ne.2 he
      clear he x2
      go_enter Tryd.func36, Tryd.ntmps36
      go_wp2
      go_ret
      exact ⟨by rw [HR.out]; first | done | rfl, rfl⟩
theorem tw_end {s : List UInt8} {k : Nat} (h : ∀ c ∈ s.take k, digT c = true) (hn : ∀ c, s[k]? = some c → digT c = false) : s.takeWhile digT = s.take k ∧ s.dropWhile digT = s.drop k := by
  have := take_dig (l := s.take k) (t := s.drop k) h (fun c r e => hn c (by
    have := congrArg (fun x : List UInt8 => x[0]?) e
    simpa using this))
  rwa [List.take_append_drop] at this
def NumP (w : World) (s : List UInt8) (e : Ending) (w' : World) : Prop := e = .returned (.tuple #[.int .i64 (numR s).1, .string (bs (numR s).2)]) ∧ Below w.heap.size w w'
theorem dig_snoc {s : List UInt8} {k : Nat} {c : UInt8} (h : ∀ x ∈ s.take k, digT x = true) (hc : s[k]? = some c) (hd : digT c = true) : ∀ x ∈ s.take (k + 1), digT x = true := by
  intro x hx
  rw [List.take_add_one, hc] at hx
  rcases List.mem_append.1 hx with hx | hx
  · exact h x hx
  · simp at hx; subst hx; exact hd
set_option maxHeartbeats 2000000 in
theorem rnumber_any (s : List UInt8) (w : World) (hs : s.length ≤ 2000) : Calls Tryd.prog 35 #[.string (bs s)] w (NumP w s) := by
  have z1 := bs_size s
  have cp : ∀ k W, Calls Tryd.prog 50 #[.string (bs (s.take k)), .int .i64 0, .int .i64 1125899906842624] W (Same (optT (parseI (s.take k) 0 1125899906842624)) W) := fun k W => by
    have := rparse_any (s.take k) 0 1125899906842624 W (by rw [List.length_take]; omega)
    rwa [ref_eq] at this
  obtain ⟨n, hn⟩ : ∃ n, s.length = n := ⟨_, rfl⟩
  have HS : Hid (n ≤ 2000) := by rw [Hid, ← hn]; exact hs
  have HN := Lib.hid hn
  rw [hn] at z1
  clear hs hn
  go_enter Tryd.func35, Tryd.ntmps35
  go_wp2
  go_loop [4] (fun v => ∃ k : Nat, v = .int .i64 k ∧ k ≤ n ∧ Hid (∀ c ∈ s.take k, digT c = true)) (fun v => n - (intOf v).toNat)
  case atStart => exact ⟨0, rfl, Nat.zero_le _, by unfold Hid; simp⟩
  case round =>
    obtain ⟨k, rfl, hk, hd⟩ := hrel
    have wk : IntKind.i64.wrap ((k : Int) + 1) = (k : Int) + 1 := IntWalk.i64_in _ (by have := HS.out; omega)
    by_cases hkn : k < n
    · have dk : decide ((k : Int) < (n : Int)) = true := decide_eq_true (by omega)
      have dkN : decide (k < n) = true := decide_eq_true hkn
      have bk : (k : Int) < (n : Int) := by omega
      obtain ⟨c, hc⟩ : ∃ c, s[k]? = some c := ⟨_, List.getElem?_eq_getElem (by have := HN.out; omega)⟩
      obtain ⟨m, hm⟩ : ∃ m, c.toNat = m := ⟨_, rfl⟩
      have hg : ∀ h, ((bs s)[k]'h).toNat = m := fun h => by
        have h1 : k < s.length := by have := HN.out; omega
        obtain ⟨_, h2⟩ := List.getElem?_eq_some_iff.1 hc
        rw [← hm, ← h2]
        rfl
      have HC := Lib.hid hc
      have hm8 : m < 256 := by rw [← hm]; exact c.toNat_lt
      by_cases g1 : 48 ≤ m
      · have e1 : decide ((48 : Int) ≤ (m : Int)) = true := decide_eq_true (by omega)
        have e1N : decide (48 ≤ m) = true := decide_eq_true g1
        by_cases g2 : m ≤ 57
        · have e2 : decide ((m : Int) ≤ 57) = true := decide_eq_true (by omega)
          have e2N : decide (m ≤ 57) = true := decide_eq_true g2
          have HD := Lib.hid (dig_snoc hd.out HC.out (by unfold digT; rw [hm]; exact decide_eq_true ⟨g1, g2⟩))
          clear hd hc hm g1 g2
          go_wp2
          go_round
          case rel => exact ⟨k + 1, by go_num, hkn, HD⟩
          case measure => simp [intOf]; omega
        · have e2 : decide ((m : Int) ≤ 57) = false := decide_eq_false (by omega)
          have e2N : decide (m ≤ 57) = false := decide_eq_false g2
          obtain ⟨t1, t2⟩ := tw_end hd.out (fun c' h' => by rw [HC.out] at h'; obtain rfl := Option.some.inj h'; unfold digT; rw [hm]; exact decide_eq_false (by omega))
          clear hd hc hm g1 g2
          have x1 : (bs s).extract 0 k = bs (s.take k) := by rw [bs_ext]; simp
          have x2 : (bs s).extract k n = bs (s.drop k) := by rw [bs_ext, List.take_of_length_le (by simp; have := HN.out; omega)]
          have lk : (k : Int) ≤ (n : Int) := by omega
          cases hp : parseI (s.take k) 0 1125899906842624 with
          | none =>
            have HR : Hid (numR s = (-1, [])) := by unfold Hid numR; rw [t1, hp]
            have cpk := fun W => cp k W
            rw [hp] at cpk
            clear t1 t2 x2 cp hp
            go_wp2_with fail
            refine (cpk _).mono ?_
            rintro e w1 ⟨rfl, rfl⟩
            unfold optT
            go_wp2
            go_ret2
            exact ⟨by rw [HR.out]; first | done | rfl, Below.refl _ _⟩
          | some v =>
            have HR : Hid (numR s = (v, s.drop k)) := by unfold Hid numR; rw [t1, hp, t2]
            have cpk := fun W => cp k W
            rw [hp] at cpk
            clear t1 t2 cp hp
            go_wp2_with fail
            refine (cpk _).mono ?_
            rintro e w1 ⟨rfl, rfl⟩
            unfold optT
            go_wp2
            go_region
            go_wp2
            go_ret2
            exact ⟨by rw [HR.out]; first | done | rfl, (Below.refl _ _).drew⟩
      · have e1 : decide ((48 : Int) ≤ (m : Int)) = false := decide_eq_false (by omega)
        have e1N : decide (48 ≤ m) = false := decide_eq_false g1
        obtain ⟨t1, t2⟩ := tw_end hd.out (fun c' h' => by rw [HC.out] at h'; obtain rfl := Option.some.inj h'; unfold digT; rw [hm]; exact decide_eq_false (by omega))
        clear hd hc hm g1
        have x1 : (bs s).extract 0 k = bs (s.take k) := by rw [bs_ext]; simp
        have x2 : (bs s).extract k n = bs (s.drop k) := by rw [bs_ext, List.take_of_length_le (by simp; have := HN.out; omega)]
        have lk : (k : Int) ≤ (n : Int) := by omega
        cases hp : parseI (s.take k) 0 1125899906842624 with
        | none =>
          have HR : Hid (numR s = (-1, [])) := by unfold Hid numR; rw [t1, hp]
          have cpk := fun W => cp k W
          rw [hp] at cpk
          clear t1 t2 x2 cp hp
          go_wp2_with fail
          refine (cpk _).mono ?_
          rintro e w1 ⟨rfl, rfl⟩
          unfold optT
          go_wp2
          go_ret2
          exact ⟨by rw [HR.out]; first | done | rfl, Below.refl _ _⟩
        | some v =>
          have HR : Hid (numR s = (v, s.drop k)) := by unfold Hid numR; rw [t1, hp, t2]
          have cpk := fun W => cp k W
          rw [hp] at cpk
          clear t1 t2 cp hp
          go_wp2_with fail
          refine (cpk _).mono ?_
          rintro e w1 ⟨rfl, rfl⟩
          unfold optT
          go_wp2
          go_region
          go_wp2
          go_ret2
          exact ⟨by rw [HR.out]; first | done | rfl, (Below.refl _ _).drew⟩
    · have dk : decide ((k : Int) < (n : Int)) = false := decide_eq_false (by omega)
      have dkN : decide (k < n) = false := decide_eq_false hkn
      obtain ⟨t1, t2⟩ := tw_end hd.out (fun c' h' => by
        have := (List.getElem?_eq_some_iff.1 h').1
        have := HN.out
        omega)
      clear hd hkn
      have x1 : (bs s).extract 0 k = bs (s.take k) := by rw [bs_ext]; simp
      have x2 : (bs s).extract k n = bs (s.drop k) := by rw [bs_ext, List.take_of_length_le (by simp; have := HN.out; omega)]
      have lk : (k : Int) ≤ (n : Int) := by omega
      cases hp : parseI (s.take k) 0 1125899906842624 with
      | none =>
        have HR : Hid (numR s = (-1, [])) := by unfold Hid numR; rw [t1, hp]
        have cpk := fun W => cp k W
        rw [hp] at cpk
        clear t1 t2 x2 cp hp
        go_wp2_with fail
        refine (cpk _).mono ?_
        rintro e w1 ⟨rfl, rfl⟩
        unfold optT
        go_wp2
        go_ret2
        exact ⟨by rw [HR.out]; first | done | rfl, Below.refl _ _⟩
      | some v =>
        have HR : Hid (numR s = (v, s.drop k)) := by unfold Hid numR; rw [t1, hp, t2]
        have cpk := fun W => cp k W
        rw [hp] at cpk
        clear t1 t2 cp hp
        go_wp2_with fail
        refine (cpk _).mono ?_
        rintro e w1 ⟨rfl, rfl⟩
        unfold optT
        go_wp2
        go_region
        go_wp2
        go_ret2
        exact ⟨by rw [HR.out]; first | done | rfl, (Below.refl _ _).drew⟩
theorem numR_len (s : List UInt8) : (numR s).2.length ≤ s.length := by
  unfold numR
  split
  · simp only
    have := congrArg List.length (List.takeWhile_append_dropWhile (p := digT) (l := s))
    rw [List.length_append] at this
    omega
  · simp
theorem after_len (s wd : List UInt8) : (afterR s wd).length ≤ s.length := by
  unfold afterR
  split
  · rw [List.length_drop]; omega
  · simp
theorem numR_wf (s : List UInt8) : wf64 (numR s).1 := by
  unfold numR
  split
  · next v h => obtain ⟨_, h2, _⟩ := of_parse h; exact h2
  · unfold wf64; omega
set_option maxRecDepth 100000 in
set_option maxHeartbeats 2000000 in
theorem rparsew_any (s : List UInt8) (w : World) (hs : s.length ≤ 1000) : Calls Tryd.prog 15 #[.string (bs s)] w (WPost w (parseW s)) := by
  have HR := Lib.hid (parseR_eq s)
  obtain ⟨R, hR⟩ : ∃ R, parseW s = R := ⟨_, rfl⟩
  rw [hR] at HR ⊢
  clear hR
  unfold parseR at HR
  simp only at HR
  have a1 := fun W => rafter_any s likeB W (by omega) (by decide)
  have l1 := after_len s likeB
  generalize afterR s likeB = s1 at *
  have n1 := fun W => rnumber_any s1 W (by omega)
  have k1 := numR_len s1
  have f1 := numR_wf s1
  obtain ⟨⟨v1, r1⟩, hv1⟩ : ∃ q, numR s1 = q := ⟨_, rfl⟩
  unfold NumP at n1
  rw [hv1] at n1 k1 f1 HR
  simp only at n1 k1 f1 HR
  have a2 := fun W => rafter_any r1 boostB W (by omega) (by decide)
  have l2 := after_len r1 boostB
  generalize afterR r1 boostB = s2 at *
  have n2 := fun W => rnumber_any s2 W (by omega)
  have k2 := numR_len s2
  have f2 := numR_wf s2
  obtain ⟨⟨v2, r2⟩, hv2⟩ : ∃ q, numR s2 = q := ⟨_, rfl⟩
  unfold NumP at n2
  rw [hv2] at n2 k2 f2 HR
  simp only at n2 k2 f2 HR
  have a3 := fun W => rafter_any r2 replyB W (by omega) (by decide)
  have l3 := after_len r2 replyB
  generalize afterR r2 replyB = s3 at *
  have n3 := fun W => rnumber_any s3 W (by omega)
  have k3 := numR_len s3
  have f3 := numR_wf s3
  obtain ⟨⟨v3, r3⟩, hv3⟩ : ∃ q, numR s3 = q := ⟨_, rfl⟩
  unfold NumP at n3
  rw [hv3] at n3 k3 f3 HR
  simp only at n3 k3 f3 HR
  have a4 := fun W => rafter_any r3 ageB W (by omega) (by decide)
  have l4 := after_len r3 ageB
  generalize afterR r3 ageB = s4 at *
  have n4 := fun W => rnumber_any s4 W (by omega)
  have f4 := numR_wf s4
  obtain ⟨⟨v4, r4⟩, hv4⟩ : ∃ q, numR s4 = q := ⟨_, rfl⟩
  unfold NumP at n4
  rw [hv4] at n4 f4 HR
  simp only at n4 f4 HR
  have t4 := bs_toList r4
  have h2 := heap_alloc_new w (.cells (cellsW noW) 23)
  have hb := (Below.refl w.heap.size w).alloc (Nat.le_refl _) (.cells (cellsW noW) 23)
  have H2 := Lib.hid h2
  have HB := Lib.hid hb
  clear hs l1 k1 l2 k2 l3 k3 l4 hv1 hv2 hv3 hv4 f1 f2 f3 f4 h2 hb
  unfold likeB at a1
  unfold boostB at a2
  unfold replyB at a3
  unfold ageB at a4
  unfold cellsW noW at H2 HB
  simp only at H2 HB
  go_enter Tryd.func15, Tryd.ntmps15
  go_wp2_with fail
  refine (a1 _).mono ?_
  rintro e w1 ⟨rfl, rfl⟩
  go_wp2_with fail
  refine (n1 _).mono ?_
  rintro e w2 ⟨rfl, hbx⟩
  replace H2 := Lib.hid ((hbx.block _ (Array.getElem?_eq_some_iff.1 H2.out).1).trans H2.out)
  replace HB := Lib.hid (HB.out.trans (hbx.mono HB.out.size))
  clear hbx a1 n1
  go_wp2_with fail
  refine (a2 _).mono ?_
  rintro e w1 ⟨rfl, rfl⟩
  go_wp2_with fail
  refine (n2 _).mono ?_
  rintro e w3 ⟨rfl, hbx⟩
  replace H2 := Lib.hid ((hbx.block _ (Array.getElem?_eq_some_iff.1 H2.out).1).trans H2.out)
  replace HB := Lib.hid (HB.out.trans (hbx.mono HB.out.size))
  clear hbx a2 n2
  go_wp2_with fail
  refine (a3 _).mono ?_
  rintro e w1 ⟨rfl, rfl⟩
  go_wp2_with fail
  refine (n3 _).mono ?_
  rintro e w4 ⟨rfl, hbx⟩
  replace H2 := Lib.hid ((hbx.block _ (Array.getElem?_eq_some_iff.1 H2.out).1).trans H2.out)
  replace HB := Lib.hid (HB.out.trans (hbx.mono HB.out.size))
  clear hbx a3 n3
  go_wp2_with fail
  refine (a4 _).mono ?_
  rintro e w1 ⟨rfl, rfl⟩
  go_wp2_with fail
  refine (n4 _).mono ?_
  rintro e w5 ⟨rfl, hbx⟩
  replace H2 := Lib.hid ((hbx.block _ (Array.getElem?_eq_some_iff.1 H2.out).1).trans H2.out)
  replace HB := Lib.hid (HB.out.trans (hbx.mono HB.out.size))
  clear hbx a4 n4
  have hf := fun j => frozen_of_row _ _ j _ _ H2.out
  have f0 := hf 0
  have f1 := hf 1
  have f2 := hf 2
  have f3 := hf 3
  have q0 : w5.cell? ⟨w.heap.size, 0, none⟩ = some (.int .i64 0) := by rw [cell_of_row _ _ _ _ _ _ H2.out]; rfl
  have q1 : w5.cell? ⟨w.heap.size, 1, none⟩ = some (.int .i64 0) := by rw [cell_of_row _ _ _ _ _ _ H2.out]; rfl
  have q2 : w5.cell? ⟨w.heap.size, 2, none⟩ = some (.int .i64 0) := by rw [cell_of_row _ _ _ _ _ _ H2.out]; rfl
  have q3 : w5.cell? ⟨w.heap.size, 3, none⟩ = some (.int .i64 0) := by rw [cell_of_row _ _ _ _ _ _ H2.out]; rfl
  clear hf
  by_cases b1 : v1 < 0
  · have d1 : decide (v1 < 0) = true := decide_eq_true b1
    have HO : Hid (R = none) := by rw [Hid, ← HR.out, if_pos (by simp only [ne_eq]; exact Or.inl b1)]
    clear HR b1
    go_wp2_with fail
    refine bodyPost_ret (results_cell1 rfl _ _ w.heap.size 23 #[.int .i64 0, .int .i64 0, .int .i64 0, .int .i64 0] (0, 0) _ rfl (blk4 _ _ _ _ H2.out) Tryd.underlying23 rfl infoW) rfl ?_
    exact ⟨by rw [HO.out]; rfl, set4_below _ _ _ _ HB.out (Nat.le_refl _)⟩
  have d1 : decide (v1 < 0) = false := decide_eq_false b1
  by_cases b2 : v2 < 0
  · have d2 : decide (v2 < 0) = true := decide_eq_true b2
    have HO : Hid (R = none) := by rw [Hid, ← HR.out, if_pos (by simp only [ne_eq]; exact Or.inr (Or.inl b2))]
    clear HR b1 b2
    go_wp2_with fail
    refine bodyPost_ret (results_cell1 rfl _ _ w.heap.size 23 #[.int .i64 0, .int .i64 0, .int .i64 0, .int .i64 0] (0, 0) _ rfl (blk4 _ _ _ _ H2.out) Tryd.underlying23 rfl infoW) rfl ?_
    exact ⟨by rw [HO.out]; rfl, set4_below _ _ _ _ HB.out (Nat.le_refl _)⟩
  have d2 : decide (v2 < 0) = false := decide_eq_false b2
  by_cases b3 : v3 < 0
  · have d3 : decide (v3 < 0) = true := decide_eq_true b3
    have HO : Hid (R = none) := by rw [Hid, ← HR.out, if_pos (by simp only [ne_eq]; exact Or.inr (Or.inr (Or.inl b3)))]
    clear HR b1 b2 b3
    go_wp2_with fail
    refine bodyPost_ret (results_cell1 rfl _ _ w.heap.size 23 #[.int .i64 0, .int .i64 0, .int .i64 0, .int .i64 0] (0, 0) _ rfl (blk4 _ _ _ _ H2.out) Tryd.underlying23 rfl infoW) rfl ?_
    exact ⟨by rw [HO.out]; rfl, set4_below _ _ _ _ HB.out (Nat.le_refl _)⟩
  have d3 : decide (v3 < 0) = false := decide_eq_false b3
  by_cases b4 : v4 < 0
  · have d4 : decide (v4 < 0) = true := decide_eq_true b4
    have HO : Hid (R = none) := by rw [Hid, ← HR.out, if_pos (by simp only [ne_eq]; exact Or.inr (Or.inr (Or.inr (Or.inl b4))))]
    clear HR b1 b2 b3 b4
    go_wp2_with fail
    refine bodyPost_ret (results_cell1 rfl _ _ w.heap.size 23 #[.int .i64 0, .int .i64 0, .int .i64 0, .int .i64 0] (0, 0) _ rfl (blk4 _ _ _ _ H2.out) Tryd.underlying23 rfl infoW) rfl ?_
    exact ⟨by rw [HO.out]; rfl, set4_below _ _ _ _ HB.out (Nat.le_refl _)⟩
  have d4 : decide (v4 < 0) = false := decide_eq_false b4
  by_cases b5 : r4 = []
  · have e4 : (r4 == []) = true := by rw [b5]; rfl
    have HO : Hid (R = some ⟨v1, v2, v3, v4⟩) := by rw [Hid, ← HR.out, if_neg (by simp only [ne_eq, not_or, Classical.not_not]; exact ⟨b1, b2, b3, b4, b5⟩)]
    subst b5
    have hnil : bs [] = ⟨#[]⟩ := rfl
    clear HR b1 b2 b3 b4
    go_wp2_with fail
    refine bodyPost_ret (results_cell1 rfl _ _ w.heap.size 23 #[.int .i64 v1, .int .i64 v2, .int .i64 v3, .int .i64 v4] (0, 0) _ rfl (blk4 _ _ _ _ H2.out) Tryd.underlying23 rfl infoW) rfl ?_
    exact ⟨by rw [HO.out]; rfl, set4_below _ _ _ _ HB.out (Nat.le_refl _)⟩
  · have e4 : (r4 == []) = false := beq_eq_false_iff_ne.2 b5
    have e4' : r4.isEmpty = false := by cases r4 with | nil => exact absurd rfl b5 | cons x r => rfl
    have HO : Hid (R = none) := by rw [Hid, ← HR.out, if_pos (by simp only [ne_eq]; exact Or.inr (Or.inr (Or.inr (Or.inr b5))))]
    clear HR b1 b2 b3 b4 b5
    go_wp2_with fail
    refine bodyPost_ret (results_cell1 rfl _ _ w.heap.size 23 #[.int .i64 0, .int .i64 0, .int .i64 0, .int .i64 0] (0, 0) _ rfl (blk4 _ _ _ _ H2.out) Tryd.underlying23 rfl infoW) rfl ?_
    exact ⟨by rw [HO.out]; rfl, set4_below _ _ _ _ HB.out (Nat.le_refl _)⟩
end Go.Proofs.YtjcaaiikccnpeaaDoor
