/- The reference's Parse, walked. -/
import Derived.Test.YtjcaaiikccnpeaaDoorRefText
namespace Go.Proofs.YtjcaaiikccnpeaaDoor
open Go.ChangeShapes Go.WideShapes Go.ChangeAt Go.RowKit Go.Lib
set_option linter.unusedVariables false

def rstep (a : Int) (c : Nat) : Int := wrap64 (wrap64 (10 * a) - ((c : Int) - 48))
def rval : Int → List UInt8 → Option Int
  | a, [] => some a
  | a, c :: r => if 48 ≤ c.toNat ∧ c.toNat ≤ 57 then rval (rstep a c.toNat) r else none
def rfin (l : List UInt8) (lo hi n : Int) : Option Int := if itoa n = l ∧ lo ≤ n ∧ n ≤ hi then some n else none
def refP (l : List UInt8) (lo hi : Int) : Option Int :=
  match l with
  | [] => none
  | c :: r =>
    if c.toNat = 45 then
      if r.length = 0 ∨ 19 < r.length then none else (rval 0 r).bind fun n => rfin l lo hi n
    else
      if 19 < r.length + 1 then none else (rval 0 l).bind fun n => rfin l lo hi (wrap64 (-n))
def optT : Option Int → Value
  | some n => .tuple #[.int .i64 n, .bool true]
  | none => .tuple #[.int .i64 0, .bool false]
theorem wf_wrap (a : Int) : wf64 (wrap64 a) := by unfold wf64 wrap64; omega

set_option maxHeartbeats 400000 in
theorem rparse_plain (c : UInt8) (r : List UInt8) (lo hi : Int) (w : World) (h45 : (c.toNat == 45) = false) (hl : r.length ≤ 18) :
    Calls Tryd.prog 50 #[.string (bs (c :: r)), .int .i64 lo, .int .i64 hi] w (Same (optT ((rval 0 (c :: r)).bind fun n => rfin (c :: r) lo hi (wrap64 (-n)))) w) := by
  have hg0 : ∀ h, ((bs (c :: r))[0]'h).toNat = c.toNat := fun h => rfl
  have hc8 : c.toNat < 256 := c.toNat_lt
  have h45i : ((c.toNat : Int) == 45) = false := beq_eq_false_iff_ne.2 (by have := beq_eq_false_iff_ne.1 h45; omega)
  obtain ⟨l, hL⟩ : ∃ l, l = c :: r := ⟨_, rfl⟩
  have hlen : l.length = r.length + 1 := by rw [hL]; rfl
  rw [← hL] at hg0 ⊢
  have hs := bs_size l
  have hl1 : 1 ≤ l.length := by omega
  have hl2 : l.length ≤ 19 := by omega
  have hne : ((l.length : Int) == 0) = false := by simp; intro e; rw [e] at hl1; simp at hl1
  have hpos : 0 < l.length := by omega
  clear hL hlen hl
  generalize c.toNat = c0 at *
  go_enter Tryd.func50, Tryd.ntmps50
  go_wp2
  go_loop [9, 10] (fun v0 v1 => ∃ (a : Int) (k : Nat), v0 = .int .i64 a ∧ v1 = .int .i64 k ∧ k ≤ l.length ∧ wf64 a ∧ Hid (rval 0 l = rval a (l.drop k))) (fun _ v1 => l.length - (intOf v1).toNat)
  case atStart => exact ⟨0, 0, rfl, rfl, by omega, by unfold wf64; decide, rfl⟩
  case round =>
    obtain ⟨a, k, rfl, rfl, hk, wa, HI⟩ := hrel
    unfold wf64 at wa
    by_cases hlt : k < l.length
    · obtain ⟨d, hd⟩ : ∃ d, l[k]? = some d := ⟨_, List.getElem?_eq_getElem hlt⟩
      have hg : ∀ h, ((bs l)[k]'h).toNat = d.toNat := by
        intro h
        simp only [bs]
        rw [List.getElem?_eq_getElem hlt] at hd
        simp at hd
        rw [← hd]; rfl
      have hd8 : d.toNat < 256 := d.toNat_lt
      have HD : Hid (rval 0 l = if 48 ≤ d.toNat ∧ d.toNat ≤ 57 then rval (rstep a d.toNat) (l.drop (k + 1)) else none) := by
        unfold Hid
        rw [HI.out, List.drop_eq_getElem_cons hlt]
        rw [List.getElem?_eq_getElem hlt] at hd
        simp only [Option.some.injEq] at hd
        rw [hd]
        rfl
      clear hd
      generalize d.toNat = x at *
      by_cases h1 : x < 48
      · have HN : Hid (optT ((rval 0 l).bind fun n => rfin l lo hi (wrap64 (-n))) = optT none) := by unfold Hid; rw [HD.out, if_neg (by omega)]; rfl
        go_wp2
        go_ret2
        exact ⟨by rw [HN.out]; rfl, rfl⟩
      · by_cases h2 : 57 < x
        · have HN : Hid (optT ((rval 0 l).bind fun n => rfin l lo hi (wrap64 (-n))) = optT none) := by unfold Hid; rw [HD.out, if_neg (by omega)]; rfl
          go_wp2
          go_ret2
          exact ⟨by rw [HN.out]; rfl, rfl⟩
        · have HN : Hid (rval 0 l = rval (rstep a x) (l.drop (k + 1))) := by unfold Hid; rw [HD.out, if_pos (by omega)]
          go_wp2
          refine ⟨⟨rstep a x, k + 1, rfl, by simp, by omega, wf_wrap _, HN⟩, by simp [intOf]; omega⟩
    · have hkl : k = l.length := by omega
      have HN : Hid (rval 0 l = some a) := by unfold Hid; rw [HI.out, hkl, List.drop_length]; rfl
      clear HI
      obtain ⟨F, hF⟩ : ∃ F, wrap64 (-a) = F := ⟨_, rfl⟩
      have wF : wf64 F := by rw [← hF]; exact wf_wrap _
      have HF : Hid (optT ((rval 0 l).bind fun n => rfin l lo hi (wrap64 (-n))) = optT (rfin l lo hi F)) := by unfold Hid; rw [HN.out, ← hF]; rfl
      have tl := bs_toList l
      have tF := bs_toList (itoa F)
      by_cases e1 : itoa F = l
      · have b1 : (itoa F == l) = true := beq_iff_eq.2 e1
        by_cases e2 : lo ≤ F
        · by_cases e3 : F ≤ hi
          · have HR : Hid (optT ((rval 0 l).bind fun n => rfin l lo hi (wrap64 (-n))) = .tuple #[.int .i64 F, .bool true]) := by unfold Hid; rw [HF.out, rfin, if_pos ⟨e1, e2, e3⟩]; rfl
            have d2 : decide (F < lo) = false := decide_eq_false (by omega)
            have d3 : decide (hi < F) = false := decide_eq_false (by omega)
            clear HF e1
            go_wp2_with fail
            refine (rtext_any F _ wF).mono ?_
            rintro e w' ⟨rfl, rfl⟩
            go_wp2_with fail
            go_ret2
            exact ⟨by rw [HR.out]; rfl, rfl⟩
          · have HR : Hid (optT ((rval 0 l).bind fun n => rfin l lo hi (wrap64 (-n))) = .tuple #[.int .i64 0, .bool false]) := by unfold Hid; rw [HF.out, rfin, if_neg (fun h => e3 h.2.2)]; rfl
            have d2 : decide (F < lo) = false := decide_eq_false (by omega)
            have d3 : decide (hi < F) = true := decide_eq_true (by omega)
            clear HF e1
            go_wp2_with fail
            refine (rtext_any F _ wF).mono ?_
            rintro e w' ⟨rfl, rfl⟩
            go_wp2_with fail
            go_ret2
            exact ⟨by rw [HR.out]; rfl, rfl⟩
        · have HR : Hid (optT ((rval 0 l).bind fun n => rfin l lo hi (wrap64 (-n))) = .tuple #[.int .i64 0, .bool false]) := by unfold Hid; rw [HF.out, rfin, if_neg (fun h => e2 h.2.1)]; rfl
          have d2 : decide (F < lo) = true := decide_eq_true (by omega)
          clear HF e1
          go_wp2_with fail
          refine (rtext_any F _ wF).mono ?_
          rintro e w' ⟨rfl, rfl⟩
          go_wp2_with fail
          go_ret2
          exact ⟨by rw [HR.out]; rfl, rfl⟩
      · have b1 : (itoa F == l) = false := beq_eq_false_iff_ne.2 e1
        have HR : Hid (optT ((rval 0 l).bind fun n => rfin l lo hi (wrap64 (-n))) = .tuple #[.int .i64 0, .bool false]) := by unfold Hid; rw [HF.out, rfin, if_neg (fun h => e1 h.1)]; rfl
        clear HF e1
        go_wp2_with fail
        refine (rtext_any F _ wF).mono ?_
        rintro e w' ⟨rfl, rfl⟩
        go_wp2_with fail
        go_ret2
        exact ⟨by rw [HR.out]; rfl, rfl⟩
set_option maxHeartbeats 400000 in
theorem rparse_minus (r : List UInt8) (lo hi : Int) (w : World) (hl0 : 1 ≤ r.length) (hl : r.length ≤ 19) :
    Calls Tryd.prog 50 #[.string (bs (45 :: r)), .int .i64 lo, .int .i64 hi] w (Same (optT ((rval 0 r).bind fun n => rfin (45 :: r) lo hi n)) w) := by
  have hg0 : ∀ h, ((bs (45 :: r))[0]'h).toNat = 45 := fun h => rfl
  obtain ⟨l, hL⟩ : ∃ l, l = 45 :: r := ⟨_, rfl⟩
  have hlen : l.length = r.length + 1 := by rw [hL]; rfl
  rw [← hL] at hg0 ⊢
  have hs := bs_size l
  have hdr : l.drop 1 = r := by rw [hL]; rfl
  have hl1 : 2 ≤ l.length := by omega
  have hl2 : l.length ≤ 20 := by omega
  have hne : ((l.length : Int) == 1) = false := beq_eq_false_iff_ne.2 (by omega)
  have hpos : 0 < l.length := by omega
  have HDR := Lib.hid hdr
  clear hL hlen hl hl0 hdr
  go_enter Tryd.func50, Tryd.ntmps50
  go_wp2
  go_loop [9, 10] (fun v0 v1 => ∃ (a : Int) (k : Nat), v0 = .int .i64 a ∧ v1 = .int .i64 k ∧ 1 ≤ k ∧ k ≤ l.length ∧ wf64 a ∧ Hid (rval 0 r = rval a (l.drop k))) (fun _ v1 => l.length - (intOf v1).toNat)
  case atStart => exact ⟨0, 1, rfl, rfl, by omega, by omega, by unfold wf64; decide, by unfold Hid; rw [HDR.out]⟩
  case round =>
    obtain ⟨a, k, rfl, rfl, hk1, hk, wa, HI⟩ := hrel
    unfold wf64 at wa
    by_cases hlt : k < l.length
    · obtain ⟨d, hd⟩ : ∃ d, l[k]? = some d := ⟨_, List.getElem?_eq_getElem hlt⟩
      have hg : ∀ h, ((bs l)[k]'h).toNat = d.toNat := by
        intro h
        simp only [bs]
        rw [List.getElem?_eq_getElem hlt] at hd
        simp at hd
        rw [← hd]; rfl
      have hd8 : d.toNat < 256 := d.toNat_lt
      have HD : Hid (rval 0 r = if 48 ≤ d.toNat ∧ d.toNat ≤ 57 then rval (rstep a d.toNat) (l.drop (k + 1)) else none) := by
        unfold Hid
        rw [HI.out, List.drop_eq_getElem_cons hlt]
        rw [List.getElem?_eq_getElem hlt] at hd
        simp only [Option.some.injEq] at hd
        rw [hd]
        rfl
      clear hd
      generalize d.toNat = x at *
      by_cases h1 : x < 48
      · have HN : Hid (optT ((rval 0 r).bind fun n => rfin l lo hi n) = optT none) := by unfold Hid; rw [HD.out, if_neg (by omega)]; rfl
        go_wp2
        go_ret2
        exact ⟨by rw [HN.out]; rfl, rfl⟩
      · by_cases h2 : 57 < x
        · have HN : Hid (optT ((rval 0 r).bind fun n => rfin l lo hi n) = optT none) := by unfold Hid; rw [HD.out, if_neg (by omega)]; rfl
          go_wp2
          go_ret2
          exact ⟨by rw [HN.out]; rfl, rfl⟩
        · have HN : Hid (rval 0 r = rval (rstep a x) (l.drop (k + 1))) := by unfold Hid; rw [HD.out, if_pos (by omega)]
          go_wp2
          refine ⟨⟨rstep a x, k + 1, rfl, by simp, by omega, by omega, wf_wrap _, HN⟩, by simp [intOf]; omega⟩
    · have hkl : k = l.length := by omega
      have HN : Hid (rval 0 r = some a) := by unfold Hid; rw [HI.out, hkl, List.drop_length]; rfl
      clear HI
      have wF : wf64 a := wa
      have HF : Hid (optT ((rval 0 r).bind fun n => rfin l lo hi n) = optT (rfin l lo hi a)) := by unfold Hid; rw [HN.out]; rfl
      have tl := bs_toList l
      have tF := bs_toList (itoa a)
      by_cases e1 : itoa a = l
      · have b1 : (itoa a == l) = true := beq_iff_eq.2 e1
        by_cases e2 : lo ≤ a
        · by_cases e3 : a ≤ hi
          · have HR : Hid (optT ((rval 0 r).bind fun n => rfin l lo hi n) = .tuple #[.int .i64 a, .bool true]) := by unfold Hid; rw [HF.out, rfin, if_pos ⟨e1, e2, e3⟩]; rfl
            have d2 : decide (a < lo) = false := decide_eq_false (by omega)
            have d3 : decide (hi < a) = false := decide_eq_false (by omega)
            clear HF e1
            go_wp2_with fail
            refine (rtext_any a _ wF).mono ?_
            rintro e w' ⟨rfl, rfl⟩
            go_wp2_with fail
            go_ret2
            exact ⟨by rw [HR.out]; rfl, rfl⟩
          · have HR : Hid (optT ((rval 0 r).bind fun n => rfin l lo hi n) = .tuple #[.int .i64 0, .bool false]) := by unfold Hid; rw [HF.out, rfin, if_neg (fun h => e3 h.2.2)]; rfl
            have d2 : decide (a < lo) = false := decide_eq_false (by omega)
            have d3 : decide (hi < a) = true := decide_eq_true (by omega)
            clear HF e1
            go_wp2_with fail
            refine (rtext_any a _ wF).mono ?_
            rintro e w' ⟨rfl, rfl⟩
            go_wp2_with fail
            go_ret2
            exact ⟨by rw [HR.out]; rfl, rfl⟩
        · have HR : Hid (optT ((rval 0 r).bind fun n => rfin l lo hi n) = .tuple #[.int .i64 0, .bool false]) := by unfold Hid; rw [HF.out, rfin, if_neg (fun h => e2 h.2.1)]; rfl
          have d2 : decide (a < lo) = true := decide_eq_true (by omega)
          clear HF e1
          go_wp2_with fail
          refine (rtext_any a _ wF).mono ?_
          rintro e w' ⟨rfl, rfl⟩
          go_wp2_with fail
          go_ret2
          exact ⟨by rw [HR.out]; rfl, rfl⟩
      · have b1 : (itoa a == l) = false := beq_eq_false_iff_ne.2 e1
        have HR : Hid (optT ((rval 0 r).bind fun n => rfin l lo hi n) = .tuple #[.int .i64 0, .bool false]) := by unfold Hid; rw [HF.out, rfin, if_neg (fun h => e1 h.1)]; rfl
        clear HF e1
        go_wp2_with fail
        refine (rtext_any a _ wF).mono ?_
        rintro e w' ⟨rfl, rfl⟩
        go_wp2_with fail
        go_ret2
        exact ⟨by rw [HR.out]; rfl, rfl⟩
theorem rparse_nil (lo hi : Int) (w : World) : Calls Tryd.prog 50 #[.string (bs []), .int .i64 lo, .int .i64 hi] w (Same (optT none) w) := by
  have hs := bs_size []
  have z : Hid (optT none = .tuple #[.int .i64 0, .bool false]) := rfl
  go_enter Tryd.func50, Tryd.ntmps50
  go_wp2
  go_ret2
  exact ⟨by rw [z.out]; rfl, rfl⟩
theorem rparse_one (lo hi : Int) (w : World) : Calls Tryd.prog 50 #[.string (bs [45]), .int .i64 lo, .int .i64 hi] w (Same (optT none) w) := by
  have hs := bs_size [45]
  have hg0 : ∀ h, ((bs [45])[0]'h).toNat = 45 := fun h => rfl
  have z : Hid (optT none = .tuple #[.int .i64 0, .bool false]) := rfl
  go_enter Tryd.func50, Tryd.ntmps50
  go_wp2
  go_ret2
  exact ⟨by rw [z.out]; rfl, rfl⟩
theorem rparse_long (c : UInt8) (r : List UInt8) (lo hi : Int) (w : World) (hl : (if c.toNat = 45 then 20 else 19) ≤ r.length) (hm : r.length ≤ 281474976710656) : Calls Tryd.prog 50 #[.string (bs (c :: r)), .int .i64 lo, .int .i64 hi] w (Same (optT none) w) := by
  have hg0 : ∀ h, ((bs (c :: r))[0]'h).toNat = c.toNat := fun h => rfl
  have hc8 : c.toNat < 256 := c.toNat_lt
  obtain ⟨l, hL⟩ : ∃ l, l = c :: r := ⟨_, rfl⟩
  have hlen : l.length = r.length + 1 := by rw [hL]; rfl
  rw [← hL] at hg0 ⊢
  have hs := bs_size l
  have hl2 : l.length ≤ 281474976710657 := by omega
  have hpos : 0 < l.length := by omega
  have z : Hid (optT none = .tuple #[.int .i64 0, .bool false]) := rfl
  generalize c.toNat = c0 at *
  by_cases h45 : c0 = 45
  · subst h45
    rw [if_pos rfl] at hl
    have h20 : 21 ≤ l.length := by omega
    have d : ((l.length : Int) == 1) = false := beq_eq_false_iff_ne.2 (by omega)
    have d2 : decide ((19 : Int) < (l.length : Int) - 1) = true := decide_eq_true (by omega)
    clear hL hlen hl hm
    go_enter Tryd.func50, Tryd.ntmps50
    go_wp2
    go_ret2
    exact ⟨by rw [z.out]; rfl, rfl⟩
  · rw [if_neg h45] at hl
    have h20 : 20 ≤ l.length := by omega
    have h45i : ((c0 : Int) == 45) = false := beq_eq_false_iff_ne.2 (by omega)
    have d : ((l.length : Int) == 0) = false := beq_eq_false_iff_ne.2 (by omega)
    have d2 : decide ((19 : Int) < (l.length : Int)) = true := decide_eq_true (by omega)
    clear hL hlen hl hm h45
    go_enter Tryd.func50, Tryd.ntmps50
    go_wp2
    go_ret2
    exact ⟨by rw [z.out]; rfl, rfl⟩
theorem rparse_any (l : List UInt8) (lo hi : Int) (w : World) (hm : l.length ≤ 281474976710656) : Calls Tryd.prog 50 #[.string (bs l), .int .i64 lo, .int .i64 hi] w (Same (optT (refP l lo hi)) w) := by
  cases l with
  | nil => exact rparse_nil lo hi w
  | cons c r =>
    unfold refP
    simp only [List.length_cons] at hm
    by_cases h45 : c.toNat = 45
    · simp only [if_pos h45]
      obtain rfl : c = 45 := UInt8.toNat_inj.1 h45
      by_cases h1 : r.length = 0
      · rw [if_pos (.inl h1)]
        obtain rfl : r = [] := List.eq_nil_of_length_eq_zero h1
        exact rparse_one lo hi w
      · by_cases h2 : 19 < r.length
        · rw [if_pos (.inr h2)]
          exact rparse_long _ _ _ _ _ (by rw [if_pos h45]; omega) (by omega)
        · rw [if_neg (by omega)]
          exact rparse_minus r lo hi w (by omega) (by omega)
    · simp only [if_neg h45]
      by_cases h2 : 19 < r.length + 1
      · rw [if_pos h2]
        exact rparse_long _ _ _ _ _ (by rw [if_neg h45]; omega) (by omega)
      · rw [if_neg h2]
        exact rparse_plain c r lo hi w (beq_eq_false_iff_ne.2 h45) (by omega)
/-! the reference's Parse is num's -/
theorem rval_snoc (l : List UInt8) (c : UInt8) (h : isDig c) : ∀ a, rval a (l ++ [c]) = (rval a l).map fun b => rstep b c.toNat := by
  unfold isDig at h
  induction l with
  | nil => intro a; simp only [List.nil_append, rval]; rw [if_pos h]; rfl
  | cons x l ih =>
    intro a
    simp only [List.cons_append, rval]
    split
    · exact ih _
    · rfl
theorem rval_dec (u : Nat) : u ≤ 9223372036854775808 → rval 0 (decDigits u) = some (-(u : Int)) := by
  induction u using Nat.strongRecOn with
  | ind u ih =>
    intro hu
    by_cases h : u < 10
    · rw [decDigits, dif_pos h]
      have hd := dig_of h
      simp only [rval]
      rw [hd, if_pos (by omega)]
      congr 1
      simp only [rstep, wrap64]
      omega
    · rw [dec_snoc h]
      have hd := dig_of (d := u % 10) (by omega)
      unfold digB
      rw [rval_snoc _ _ (by unfold isDig; omega), ih _ (by omega) (by omega), hd]
      simp only [Option.map_some, rstep, wrap64]
      congr 1
      omega
theorem wrap_of {a : Int} (h : wf64 a) : wrap64 a = a := by unfold wf64 at h; unfold wrap64; omega
theorem ref_of {lo hi m : Int} (h2 : wf64 m) (h3 : lo ≤ m) (h4 : m ≤ hi) : refP (itoa m) lo hi = some m := by
  have hp : (10 : Nat) ^ 19 = 10000000000000000000 := by decide
  have hw := h2
  unfold wf64 at hw
  have hf : rfin (itoa m) lo hi m = some m := by unfold rfin; rw [if_pos ⟨rfl, h3, h4⟩]
  rcases itoa_cases m with ⟨h0, h⟩ | ⟨h0, h⟩
  · have hr := rval_dec m.toNat (by omega)
    have hl := dec_length m.toNat 19 (by omega) (by omega)
    have ha := dec_all m.toNat
    rw [h] at hf ⊢
    cases hd : decDigits m.toNat with
    | nil => exact absurd hd (dec_ne_nil _)
    | cons c r =>
      rw [hd] at hr hl ha hf
      have hc := ha c (by simp)
      unfold isDig at hc
      simp only [List.length_cons] at hl
      unfold refP
      simp only
      rw [if_neg (by omega), if_neg (by omega), hr]
      show rfin _ _ _ (wrap64 (- -(m.toNat : Int))) = _
      rw [show (- -(m.toNat : Int)) = m by omega, wrap_of h2, hf]
  · have hr := rval_dec m.natAbs (by omega)
    have hl := dec_length m.natAbs 19 (by omega) (by omega)
    have hn := dec_ne_nil m.natAbs
    have hn0 : (decDigits m.natAbs).length ≠ 0 := fun e => hn (List.eq_nil_of_length_eq_zero e)
    rw [h] at hf ⊢
    unfold refP
    simp only
    rw [if_pos (by rfl), if_neg (by omega), hr]
    show rfin _ _ _ (-(m.natAbs : Int)) = _
    rw [show (-(m.natAbs : Int)) = m by omega, hf]
theorem fin_some {l : List UInt8} {lo hi n m : Int} (h : rfin l lo hi n = some m) : n = m ∧ itoa m = l ∧ lo ≤ m ∧ m ≤ hi := by
  unfold rfin at h
  split at h
  · injection h with h; subst h; rename_i hc; exact ⟨rfl, hc⟩
  · cases h
theorem rval_wf (l : List UInt8) : ∀ a n, wf64 a → rval a l = some n → wf64 n := by
  induction l with
  | nil => intro a n ha h; simp only [rval] at h; injection h with h; subst h; exact ha
  | cons c r ih =>
    intro a n ha h
    simp only [rval] at h
    split at h
    · exact ih _ _ (wf_wrap _) h
    · cases h
theorem of_ref {l : List UInt8} {lo hi m : Int} (h : refP l lo hi = some m) : itoa m = l ∧ wf64 m ∧ lo ≤ m ∧ m ≤ hi := by
  unfold refP at h
  split at h
  · cases h
  · split at h
    · split at h
      · cases h
      · rename_i c r _ _
        cases hv : rval 0 r with
        | none => rw [hv] at h; cases h
        | some n =>
          rw [hv] at h
          obtain ⟨rfl, h1, h2⟩ := fin_some h
          exact ⟨h1, rval_wf _ _ _ (by unfold wf64; decide) hv, h2⟩
    · split at h
      · cases h
      · rename_i c r _ _
        cases hv : rval 0 (c :: r) with
        | none => rw [hv] at h; cases h
        | some n =>
          rw [hv] at h
          obtain ⟨rfl, h1, h2⟩ := fin_some h
          exact ⟨h1, wf_wrap _, h2⟩
theorem ref_eq (l : List UInt8) (lo hi : Int) : refP l lo hi = parseI l lo hi := by
  cases h : parseI l lo hi with
  | some m =>
    obtain ⟨rfl, h2, h3, h4⟩ := of_parse h
    exact ref_of h2 h3 h4
  | none =>
    cases hr : refP l lo hi with
    | none => rfl
    | some m =>
      obtain ⟨h1, h2, h3, h4⟩ := of_ref hr
      rw [parse_of h1 h2 h3 h4] at h
      cases h
end Go.Proofs.YtjcaaiikccnpeaaDoor
