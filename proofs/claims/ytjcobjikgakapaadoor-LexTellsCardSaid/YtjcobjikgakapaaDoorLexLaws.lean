/- The plain laws of scanning: covering, writing, spacing, failing, limits. -/
import Derived.Test.YtjcobjikgakapaaDoorLexPure
namespace Go.Proofs.YtjcobjikgakapaaDoor
open Go Go.Lib
set_option linter.unusedVariables false

/-- a token without its offset -/
def er (t : Tok) : Tok := { t with off := 0 }
def blankL (l : List UInt8) : Prop := ∀ c ∈ l, isSp c = true
theorem push_ok {t : Tok} {s : Scan} {l : List Tok} (h : s.push t = .ok l) : ∃ r, s = .ok r ∧ l = t :: r := by
  cases s with
  | ok r => simp only [Scan.push] at h; injection h with h; exact ⟨r, rfl, h.symm⟩
  | err k => cases h
theorem push_err {t : Tok} {s : Scan} {k : Nat} (h : s.push t = .err k) : s = .err k := by
  cases s with
  | ok r => cases h
  | err j => simp only [Scan.push] at h; injection h with h; rw [h]
theorem sc_blank (k : Nat) (b l : List UInt8) (hb : blankL b) : sc k (b ++ l) = sc (k + b.length) l := by
  induction b generalizing k with
  | nil => rfl
  | cons c b ih =>
    rw [List.cons_append, sc_sp k _ (hb c (by simp)), ih _ (fun c h => hb c (by simp [h]))]
    simp only [List.length_cons]
    congr 1
    omega
theorem split_at (l : List UInt8) (n : Nat) : l = l.take n ++ l.drop n := (List.take_append_drop n l).symm
/-- what a scan's tokens look like -/
theorem sc_form : ∀ (l : List UInt8) (k : Nat) (ts : List Tok), sc k l = .ok ts → ∃ us, ts = us ++ [⟨4, [], 0, (k + l.length : Nat)⟩] ∧ (∀ t ∈ us, 0 ≤ t.kind ∧ t.kind ≤ 3 ∧ t.text.length ≤ 24 ∧ 0 ≤ t.n ∧ t.n ≤ 1125899906842624) ∧ (∀ t ∈ ts, (k : Int) ≤ t.off ∧ t.off ≤ k + l.length) := by
  refine scan_rec (P := fun k l => ∀ ts, sc k l = .ok ts → _) ?_ ?_ ?_ ?_
  · intro k ts h
    rw [sc_nil] at h
    injection h with h
    subst h
    exact ⟨[], rfl, by simp, by simp⟩
  · intro k c r hs ih ts h
    rw [sc_sp k r hs] at h
    obtain ⟨us, h1, h2, h3⟩ := ih ts h
    refine ⟨us, by rw [h1]; simp; omega, h2, fun t ht => ?_⟩
    have := h3 t ht
    simp only [List.length_cons]
    omega
  · intro k c r hs ht ts h
    rw [sc_none k r hs ht] at h
    cases h
  · intro k c r t n hs ht h1 hn ih ts h
    rw [sc_some k r hs ht] at h
    obtain ⟨rs, hr, rfl⟩ := push_ok h
    obtain ⟨us, e1, e2, e3⟩ := ih rs hr
    have hl : ((c :: r).drop n).length = (c :: r).length - n := List.length_drop
    rw [hl] at e1 e3
    have hf := tok_facts ht
    refine ⟨{ t with off := k } :: us, ?_, ?_, ?_⟩
    · rw [e1]
      simp only [List.cons_append]
      congr 5
      omega
    · intro x hx
      rcases List.mem_cons.1 hx with rfl | hx
      · exact ⟨hf.1, hf.2.1, hf.2.2.1, hf.2.2.2.1, hf.2.2.2.2.1⟩
      · exact e2 x hx
    · intro x hx
      rcases List.mem_cons.1 hx with rfl | hx
      · exact ⟨Int.le_refl _, by show (k : Int) ≤ _; omega⟩
      · have := e3 x hx
        omega
/-! ### covering -/
/-- the tokens of s from e on: each stands at its offset, white space between -/
def Cov (s : List UInt8) : Nat → List Tok → Prop
  | _, [] => False
  | e, [t] => t = ⟨4, [], 0, (s.length : Nat)⟩ ∧ e ≤ s.length ∧ blankL (s.drop e)
  | e, t :: ts => ∃ k : Nat, t.off = k ∧ e ≤ k ∧ 0 ≤ t.kind ∧ t.kind ≤ 3 ∧ t.text.length ≤ 24 ∧ 0 ≤ t.n ∧ t.n ≤ 1125899906842624 ∧ 1 ≤ (wr t).length ∧ k + (wr t).length ≤ s.length ∧ (s.drop k).take (wr t).length = wr t ∧ blankL ((s.drop e).take (k - e)) ∧ Cov s (k + (wr t).length) ts
theorem Cov.cons {s : List UInt8} {e : Nat} {t : Tok} {ts : List Tok} (hne : ts ≠ []) : Cov s e (t :: ts) ↔ ∃ k : Nat, t.off = k ∧ e ≤ k ∧ 0 ≤ t.kind ∧ t.kind ≤ 3 ∧ t.text.length ≤ 24 ∧ 0 ≤ t.n ∧ t.n ≤ 1125899906842624 ∧ 1 ≤ (wr t).length ∧ k + (wr t).length ≤ s.length ∧ (s.drop k).take (wr t).length = wr t ∧ blankL ((s.drop e).take (k - e)) ∧ Cov s (k + (wr t).length) ts := by
  cases ts with
  | nil => exact absurd rfl hne
  | cons a b => exact Iff.rfl
theorem sc_cov (s : List UInt8) : ∀ (l : List UInt8) (k : Nat) (ts : List Tok), sc k l = .ok ts → ∀ e, l = s.drop k → e ≤ k → k ≤ s.length → blankL ((s.drop e).take (k - e)) → Cov s e ts := by
  refine scan_rec (P := fun k l => ∀ ts, sc k l = .ok ts → ∀ e, l = s.drop k → e ≤ k → k ≤ s.length → blankL ((s.drop e).take (k - e)) → Cov s e ts) ?_ ?_ ?_ ?_
  · intro k ts h e hl he hk hb
    rw [sc_nil] at h
    injection h with h
    subst h
    have hkl : k = s.length := by
      have := congrArg List.length hl
      simp at this; omega
    subst hkl
    refine ⟨rfl, he, ?_⟩
    rw [List.take_of_length_le (by simp)] at hb
    exact hb
  · intro k c r hs ih ts h e hl he hk hb
    rw [sc_sp k r hs] at h
    have hlt : k < s.length := by
      have := congrArg List.length hl
      simp at this; omega
    have hdk := List.drop_eq_getElem_cons hlt
    rw [← hl] at hdk
    injection hdk with hc hr
    refine ih ts h e hr (by omega) (by omega) ?_
    intro d hd
    rw [show k + 1 - e = (k - e) + 1 by omega, List.take_succ_eq_append_getElem (by simp; omega), List.mem_append] at hd
    rcases hd with hd | hd
    · exact hb d hd
    · rw [List.mem_singleton, List.getElem_drop] at hd
      subst hd
      have : s[e + (k - e)] = s[k] := by congr 1; omega
      rw [this, ← hc]
      exact hs
  · intro k c r hs ht ts h
    rw [sc_none k r hs ht] at h
    cases h
  · intro k c r t n hs ht h1 hn ih ts h e hl he hk hb
    rw [sc_some k r hs ht] at h
    obtain ⟨rs, hr, rfl⟩ := push_ok h
    have hw := tok_wr ht
    have hf := tok_facts ht
    have hdl : (c :: r).drop n = s.drop (k + n) := by rw [hl, List.drop_drop]
    have hkn : k + n ≤ s.length := by
      have := congrArg List.length hl
      simp at this hn; omega
    have hwr : wr { t with off := (k : Int) } = wr t := rfl
    have hrs : rs ≠ [] := by
      obtain ⟨us, e1, _⟩ := sc_form _ _ _ hr
      rw [e1]; simp
    rw [Cov.cons hrs]
    refine ⟨k, rfl, he, hf.1, hf.2.1, hf.2.2.1, hf.2.2.2.1, hf.2.2.2.2.1, by rw [hwr]; omega, by rw [hwr]; omega, ?_, hb, ?_⟩
    · rw [hwr, hw.2.2.2, ← hl]; exact hw.1.symm
    · rw [hwr, hw.2.2.2]
      refine ih rs hr (k + n) hdl (Nat.le_refl _) hkn ?_
      rw [Nat.sub_self]
      intro d hd
      simp at hd
/-! ### writing -/
/-- the texts with one space between -/
def joinW : List (List UInt8) → List UInt8
  | [] => []
  | [a] => a
  | a :: b :: r => a ++ 32 :: joinW (b :: r)
/-- what a token writes; none for an end -/
def wrO (t : Tok) : Option (List UInt8) :=
  if t.kind = 4 then none else if t.kind = 0 ∨ t.kind = 3 then some t.text else if t.kind = 1 then some (itoa t.n) else if t.kind = 2 then some (34 :: (t.text ++ [34])) else some []
def writeL (l : List Tok) : List UInt8 := joinW (l.filterMap wrO)
theorem wrO_of {t : Tok} (h : 0 ≤ t.kind) (h3 : t.kind ≤ 3) : wrO t = some (wr t) := by
  unfold wrO wr
  rw [if_neg (by omega)]
  by_cases h1 : t.kind = 1
  · rw [if_neg (by omega), if_pos h1, if_pos h1]
  · rw [if_neg h1, if_neg h1]
    by_cases h2 : t.kind = 2
    · rw [if_neg (by omega), if_pos h2, if_pos h2]
    · rw [if_pos (by omega), if_neg h2]
theorem wrO_end {k : Int} : wrO ⟨4, [], 0, k⟩ = none := rfl
/-- a step of a scan, at what was read -/
theorem sc_step (k : Nat) {c : UInt8} {r : List UInt8} {t : Tok} {n : Nat} (hs : isSp c = false) (ht : tokF (c :: r) = some (t, n)) (r2 : List UInt8) (hst : Stop ((c :: r).drop n) r2) :
    sc k (wr t ++ r2) = (sc (k + n) r2).push { t with off := k } := by
  have hw := tok_wr ht
  have hsp := split_at (c :: r) n
  rw [← hw.1] at hsp
  have h2 : tokF (wr t ++ r2) = some (t, (wr t).length) := by
    refine tok_stop (r1 := (c :: r).drop n) ?_ hst
    rw [← hsp, ht, hw.2.2.2]
  cases hwt : wr t with
  | nil => rw [hwt] at hw; simp at hw; omega
  | cons d w =>
    rw [hwt] at h2 hsp
    have hd : d = c := by rw [List.cons_append] at hsp; injection hsp with h _; exact h.symm
    rw [List.cons_append] at h2 ⊢
    have h3 := sc_some k (w ++ r2) (c := d) (by rw [hd]; exact hs) h2
    rw [h3, ← List.cons_append, List.drop_left' rfl]
    rw [← hw.2.2.2, hwt]
theorem sc_write : ∀ (l : List UInt8) (k : Nat) (ts : List Tok), sc k l = .ok ts → ∀ j, ∃ us, sc j (writeL ts) = .ok us ∧ us.map er = ts.map er := by
  refine scan_rec (P := fun k l => ∀ ts, sc k l = .ok ts → ∀ j, ∃ us, sc j (writeL ts) = .ok us ∧ us.map er = ts.map er) ?_ ?_ ?_ ?_
  · intro k ts h j
    rw [sc_nil] at h
    injection h with h
    subst h
    exact ⟨[⟨4, [], 0, j⟩], rfl, rfl⟩
  · intro k c r hs ih ts h j
    rw [sc_sp k r hs] at h
    exact ih ts h j
  · intro k c r hs ht ts h
    rw [sc_none k r hs ht] at h
    cases h
  · intro k c r t n hs ht h1 hn ih ts h j
    rw [sc_some k r hs ht] at h
    obtain ⟨rs, hr, rfl⟩ := push_ok h
    have hf := tok_facts ht
    have hwr : wr { t with off := (k : Int) } = wr t := rfl
    have ho : wrO { t with off := (k : Int) } = some (wr t) := by
      rw [wrO_of (t := { t with off := (k : Int) }) hf.1 hf.2.1, hwr]
    have hj : writeL ({ t with off := (k : Int) } :: rs) = wr t ++ (if rs.filterMap wrO = [] then [] else 32 :: writeL rs) := by
      unfold writeL
      rw [List.filterMap_cons_some ho]
      cases hfm : rs.filterMap wrO with
      | nil => simp [joinW]
      | cons a b => simp [joinW]
    rw [hj]
    by_cases he : rs.filterMap wrO = []
    · rw [if_pos he, sc_step j hs ht [] (.inr (.inl rfl)), sc_nil]
      refine ⟨_, rfl, ?_⟩
      obtain ⟨us, e1, e2, _⟩ := sc_form _ _ _ hr
      cases us with
      | nil =>
        rw [e1]
        simp [er]
      | cons a b =>
        have ha := e2 a (by simp)
        rw [e1, List.cons_append, List.filterMap_cons_some (wrO_of ha.1 ha.2.1)] at he
        cases he
    · rw [if_neg he, sc_step j hs ht _ (.inr (.inr ⟨32, _, rfl, by decide⟩)), sc_sp _ _ (by decide)]
      obtain ⟨us, e1, e2⟩ := ih rs hr (j + n + 1)
      rw [e1]
      refine ⟨_, rfl, ?_⟩
      simp only [List.map_cons, e2]
      rfl
/-! ### spacing -/
theorem Stop.mid {rest sp : List UInt8} {o : Nat} (ho : o ≤ rest.length) (hb : blankL sp) : Stop rest (rest.take o ++ (sp ++ rest.drop o)) := by
  cases o with
  | zero =>
    cases sp with
    | nil => exact .inl (by simp)
    | cons c s => exact .inr (.inr ⟨c, s ++ rest, by simp, hb c (by simp)⟩)
  | succ o =>
    cases rest with
    | nil => simp at ho
    | cons c r => exact .inl (by simp)
theorem Stop.cut {rest : List UInt8} {o : Nat} (ho : o ≤ rest.length) : Stop rest (rest.take o) := by
  have := Stop.mid (sp := []) ho (fun c h => by simp at h)
  cases o with
  | zero => exact .inr (.inl (by simp))
  | succ o =>
    cases rest with
    | nil => simp at ho
    | cons c r => exact .inl (by simp)
theorem sc_shift : ∀ (l : List UInt8) (k : Nat) (ts : List Tok), sc k l = .ok ts → ∀ j, ∃ us, sc j l = .ok us ∧ us.map er = ts.map er := by
  refine scan_rec (P := fun k l => ∀ ts, sc k l = .ok ts → ∀ j, ∃ us, sc j l = .ok us ∧ us.map er = ts.map er) ?_ ?_ ?_ ?_
  · intro k ts h j
    rw [sc_nil] at h
    injection h with h
    subst h
    exact ⟨_, rfl, rfl⟩
  · intro k c r hs ih ts h j
    rw [sc_sp k r hs] at h
    rw [sc_sp j r hs]
    exact ih ts h _
  · intro k c r hs ht ts h
    rw [sc_none k r hs ht] at h
    cases h
  · intro k c r t n hs ht h1 hn ih ts h j
    rw [sc_some k r hs ht] at h
    obtain ⟨rs, hr, rfl⟩ := push_ok h
    obtain ⟨us, e1, e2⟩ := ih rs hr (j + n)
    rw [sc_some j r hs ht, e1]
    refine ⟨_, rfl, ?_⟩
    simp only [List.map_cons, e2]
    rfl
theorem sc_space (sp : List UInt8) (hb : blankL sp) : ∀ (l : List UInt8) (k : Nat) (ts : List Tok), sc k l = .ok ts → ∀ t ∈ ts, ∀ o : Nat, t.off = ((k + o : Nat) : Int) → ∀ j, ∃ us, sc j (l.take o ++ (sp ++ l.drop o)) = .ok us ∧ us.map er = ts.map er := by
  refine scan_rec (P := fun k l => ∀ ts, sc k l = .ok ts → ∀ t ∈ ts, ∀ o : Nat, t.off = ((k + o : Nat) : Int) → ∀ j, ∃ us, sc j (l.take o ++ (sp ++ l.drop o)) = .ok us ∧ us.map er = ts.map er) ?_ ?_ ?_ ?_
  · intro k ts h t ht o ho j
    rw [sc_nil] at h
    injection h with h
    subst h
    have e := sc_blank j sp [] hb
    rw [List.append_nil] at e
    refine ⟨[⟨4, [], 0, (j + sp.length : Nat)⟩], ?_, rfl⟩
    simp only [List.take_nil, List.drop_nil, List.append_nil, List.nil_append]
    rw [e, sc_nil]
  · intro k c r hs ih ts h t ht o ho j
    rw [sc_sp k r hs] at h
    obtain ⟨us, e1, e2, e3⟩ := sc_form _ _ _ h
    have hge := (e3 t ht).1
    obtain ⟨p, rfl⟩ : ∃ p, o = p + 1 := ⟨o - 1, by omega⟩
    simp only [List.take_succ_cons, List.drop_succ_cons, List.cons_append]
    rw [sc_sp j _ hs]
    exact ih ts h t ht p (by omega) (j + 1)
  · intro k c r hs ht ts h
    rw [sc_none k r hs ht] at h
    cases h
  · intro k c r t n hs ht h1 hn ih ts h x hx o ho j
    rw [sc_some k r hs ht] at h
    obtain ⟨rs, hr, rfl⟩ := push_ok h
    have hw := tok_wr ht
    have hsp := split_at (c :: r) n
    rw [← hw.1] at hsp
    have hlr : ((c :: r).drop n).length = (c :: r).length - n := List.length_drop
    rcases List.mem_cons.1 hx with rfl | hx
    · have ho0 : o = 0 := by
        have : (k : Int) = ((k + o : Nat) : Int) := ho
        omega
      subst ho0
      simp only [List.take_zero, List.drop_zero, List.nil_append]
      rw [sc_blank j sp _ hb]
      refine sc_shift (c :: r) k _ ?_ _
      rw [sc_some k r hs ht, hr]
      rfl
    · obtain ⟨us, e1, e2, e3⟩ := sc_form _ _ _ hr
      have hge := e3 x hx
      obtain ⟨p, hp⟩ : ∃ p, o = n + p := ⟨o - n, by omega⟩
      have hple : p ≤ ((c :: r).drop n).length := by omega
      have htk : (c :: r).take o = wr t ++ ((c :: r).drop n).take p := by rw [hp, List.take_add, hw.1]
      have hdp : (c :: r).drop o = ((c :: r).drop n).drop p := by rw [List.drop_drop, hp]
      rw [htk, hdp, List.append_assoc, sc_step j hs ht _ (Stop.mid hple hb)]
      obtain ⟨us, e1, e2⟩ := ih rs hr x hx p (by omega) (j + n)
      rw [e1]
      refine ⟨_, rfl, ?_⟩
      simp only [List.map_cons, e2]
      rfl
/-! ### failing -/
theorem sc_fail : ∀ (l : List UInt8) (k e : Nat), sc k l = .err e → k ≤ e ∧ e < k + l.length ∧ (∃ c r, l.drop (e - k) = c :: r ∧ isSp c = false) ∧ (∀ j, ∃ us, sc j (l.take (e - k)) = .ok us) ∧ (∀ j, sc j (l.drop (e - k)) = .err j) := by
  refine scan_rec (P := fun k l => ∀ e, sc k l = .err e → k ≤ e ∧ e < k + l.length ∧ (∃ c r, l.drop (e - k) = c :: r ∧ isSp c = false) ∧ (∀ j, ∃ us, sc j (l.take (e - k)) = .ok us) ∧ (∀ j, sc j (l.drop (e - k)) = .err j)) ?_ ?_ ?_ ?_
  · intro k e h
    rw [sc_nil] at h
    cases h
  · intro k c r hs ih e h
    rw [sc_sp k r hs] at h
    obtain ⟨h1, h2, h3, h4, h5⟩ := ih e h
    obtain ⟨p, hp⟩ : ∃ p, e - k = p + 1 := ⟨e - k - 1, by omega⟩
    have hq : e - (k + 1) = p := by omega
    rw [hq] at h3 h4 h5
    rw [hp]
    refine ⟨by omega, by simp only [List.length_cons]; omega, ?_, ?_, ?_⟩
    · rw [List.drop_succ_cons]; exact h3
    · intro j
      rw [List.take_succ_cons, sc_sp j _ hs]
      exact h4 _
    · intro j
      rw [List.drop_succ_cons]; exact h5 j
  · intro k c r hs ht e h
    rw [sc_none k r hs ht] at h
    injection h with h
    subst h
    rw [Nat.sub_self]
    refine ⟨Nat.le_refl _, by simp only [List.length_cons]; omega, ⟨c, r, rfl, hs⟩, fun j => ⟨_, rfl⟩, fun j => ?_⟩
    rw [List.drop_zero, sc_none j r hs ht]
  · intro k c r t n hs ht h1 hn ih e h
    rw [sc_some k r hs ht] at h
    have hr := push_err h
    have hw := tok_wr ht
    obtain ⟨g1, g2, g3, g4, g5⟩ := ih e hr
    have hsp := split_at (c :: r) n
    rw [← hw.1] at hsp
    have hlr : ((c :: r).drop n).length = (c :: r).length - n := List.length_drop
    have hq : e - k = n + (e - (k + n)) := by omega
    have hdd : (c :: r).drop (e - k) = ((c :: r).drop n).drop (e - (k + n)) := by rw [List.drop_drop, hq]
    rw [hdd]
    refine ⟨by omega, by omega, g3, ?_, g5⟩
    intro j
    have htk : (c :: r).take (e - k) = wr t ++ ((c :: r).drop n).take (e - (k + n)) := by
      rw [hq, List.take_add, hw.1]
    rw [htk, sc_step j hs ht _ (Stop.cut (by omega))]
    obtain ⟨us, hu⟩ := g4 (j + n)
    rw [hu]
    exact ⟨_, rfl⟩
/-! ### limits -/
theorem sc_one (l : List UInt8) {c : UInt8} {r : List UInt8} {t : Tok} (hl : l = c :: r) (hs : isSp c = false) (ht : tokF l = some (t, l.length)) : sc 0 l = .ok [t, ⟨4, [], 0, (l.length : Nat)⟩] := by
  have hf := tok_facts ht
  subst hl
  rw [sc_some 0 r hs ht, List.drop_length, Nat.zero_add, sc_nil]
  obtain ⟨a, b, d, o⟩ := t
  have : o = 0 := hf.2.2.2.2.2
  subst this
  rfl
theorem sc_bad (l : List UInt8) {c : UInt8} {r : List UInt8} (hl : l = c :: r) (hs : isSp c = false) (ht : tokF l = none) : sc 0 l = .err 0 := by
  subst hl
  exact sc_none 0 r hs ht
theorem sc_as (m : Nat) (h : 1 ≤ m) : sc 0 (List.replicate m (97 : UInt8)) = if m ≤ 24 then .ok [⟨0, List.replicate m 97, 0, 0⟩, ⟨4, [], 0, (m : Nat)⟩] else .err 0 := by
  obtain ⟨k, rfl⟩ : ∃ k, m = k + 1 := ⟨m - 1, by omega⟩
  have hl : List.replicate (k + 1) (97 : UInt8) = 97 :: List.replicate k 97 := rfl
  have hw : wordL (97 :: List.replicate k (97 : UInt8)) = 97 :: List.replicate k 97 := by
    have := word_append (w := List.replicate (k + 1) (97 : UInt8)) (r := []) (fun c hc => by rw [List.eq_of_mem_replicate hc]; decide) (by simp)
    rwa [List.append_nil] at this
  have htk : tokF (List.replicate (k + 1) (97 : UInt8)) = if k + 1 ≤ 24 then some (⟨0, List.replicate (k + 1) 97, 0, 0⟩, (List.replicate (k + 1) (97 : UInt8)).length) else none := by
    rw [hl]
    simp only [tokF]
    rw [if_pos (by decide), hw]
    simp
  by_cases h24 : k + 1 ≤ 24
  · rw [if_pos h24] at htk ⊢
    have := sc_one _ hl (by decide) htk
    rw [this]
    simp
  · rw [if_neg h24] at htk ⊢
    exact sc_bad _ hl (by decide) htk
def printB (c : UInt8) : Bool := decide (32 ≤ c.toNat) && decide (c.toNat ≤ 126) && c != 34 && c != 92
theorem textF_print : ∀ (w : List UInt8) (f : Nat), (∀ c ∈ w, printB c = true) → textF f (w ++ [34]) = if w.length + 1 ≤ f then some w else none := by
  intro w
  induction w with
  | nil =>
    intro f _
    cases f with
    | zero => rfl
    | succ f => simp [textF]
  | cons c w ih =>
    intro f h
    cases f with
    | zero => simp [textF]
    | succ f =>
      have hc := h c (by simp)
      simp [printB] at hc
      simp only [List.cons_append, textF]
      rw [if_neg hc.1.2, if_neg (by intro h; rcases h with h | h | h
                                    · omega
                                    · omega
                                    · exact hc.2 h), ih f (fun c h' => h c (by simp [h']))]
      by_cases hl : w.length + 1 ≤ f
      · rw [if_pos hl, if_pos (by simp; omega)]; rfl
      · rw [if_neg hl, if_neg (by simp; omega)]; rfl
theorem sc_text (w : List UInt8) (h : ∀ c ∈ w, printB c = true) : sc 0 (34 :: (w ++ [34])) = if w.length ≤ 24 then .ok [⟨2, w, 0, 0⟩, ⟨4, [], 0, (w.length + 2 : Nat)⟩] else .err 0 := by
  have ht : tokF (34 :: (w ++ [34])) = if w.length ≤ 24 then some (⟨2, w, 0, 0⟩, (34 :: (w ++ [34])).length) else none := by
    simp only [tokF]
    rw [if_neg (by decide), if_neg (by decide), if_pos trivial, textF_print w 25 h]
    by_cases hl : w.length ≤ 24
    · rw [if_pos (by omega), if_pos hl]; simp
    · rw [if_neg (by omega), if_neg hl]; rfl
  by_cases hl : w.length ≤ 24
  · rw [if_pos hl] at ht ⊢
    have := sc_one _ rfl (by decide) ht
    rw [this]
    simp
    omega
  · rw [if_neg hl] at ht ⊢
    exact sc_bad _ rfl (by decide) ht
theorem dig_wo {c : UInt8} (h : isDig c) : isWo c = true ∧ isLe c = false ∧ isDi c = true ∧ isSp c = false := by
  unfold isDig at h
  have h3 : isDi c = true := by simp [isDi, h.1, h.2]
  refine ⟨by simp [isWo, h3], by simp [isLe]; omega, h3, ?_⟩
  cases hs : isSp c with
  | false => rfl
  | true => rcases isSp_lt hs with rfl | rfl | rfl | rfl <;> (revert h; decide)
theorem sc_digits (u j : Nat) (hu : u ≤ 9223372036854775808) : sc j (decDigits u) = if u ≤ 1125899906842624 then .ok [⟨1, [], u, j⟩, ⟨4, [], 0, (j + (decDigits u).length : Nat)⟩] else .err j := by
  have hall := dec_all u
  have hw : wordL (decDigits u) = decDigits u := by
    have := word_append (w := decDigits u) (r := []) (fun c hc => (dig_wo (hall c hc)).1) (by simp)
    rwa [List.append_nil] at this
  have hp : parseI (decDigits u) 0 1125899906842624 = if u ≤ 1125899906842624 then some (u : Int) else none := by
    by_cases h : u ≤ 1125899906842624
    · rw [if_pos h]
      exact parse_of (m := (u : Int)) (itoa_nonneg u) (by unfold wf64; omega) (by omega) (by omega)
    · rw [if_neg h]
      cases hq : parseI (decDigits u) 0 1125899906842624 with
      | none => rfl
      | some m =>
        exfalso
        obtain ⟨e, ⟨m1, m2⟩, m3, m4⟩ := of_parse hq
        have h1 := parse_dec u (by omega)
        have h2 := parse_dec m.toNat (by omega)
        have e2 : itoa m = decDigits m.toNat := by rcases itoa_cases m with ⟨_, h⟩ | ⟨h, _⟩; exact h; omega
        rw [← e2, e, h1] at h2
        injection h2 with h2
        omega
  cases hd : decDigits u with
  | nil => exact absurd hd (dec_ne_nil u)
  | cons c r =>
    rw [hd] at hw hp hall
    have hc := dig_wo (hall c (by simp))
    have ht : tokF (c :: r) = if u ≤ 1125899906842624 then some (⟨1, [], (u : Int), 0⟩, (c :: r).length) else none := by
      simp only [tokF]
      rw [if_neg (by rw [hc.2.1]; decide), if_pos hc.2.2.1, hw, hp]
      by_cases h : u ≤ 1125899906842624
      · rw [if_pos h, if_pos h]; rfl
      · rw [if_neg h, if_neg h]; rfl
    by_cases h : u ≤ 1125899906842624
    · rw [if_pos h] at ht ⊢
      rw [sc_some j r hc.2.2.2 ht, List.drop_length, sc_nil]
      rfl
    · rw [if_neg h] at ht ⊢
      exact sc_none j r hc.2.2.2 ht
theorem sc_itoa {n : Int} (h : wf64 n) : sc 0 (itoa n) = if n < 0 then (if -1125899906842624 ≤ n then .ok [⟨3, [45], 0, 0⟩, ⟨1, [], -n, 1⟩, ⟨4, [], 0, ((itoa n).length : Nat)⟩] else .err 1) else if n ≤ 1125899906842624 then .ok [⟨1, [], n, 0⟩, ⟨4, [], 0, ((itoa n).length : Nat)⟩] else .err 0 := by
  unfold wf64 at h
  rcases itoa_cases n with ⟨h0, e⟩ | ⟨h0, e⟩
  · rw [if_neg (by omega), e, sc_digits _ _ (by omega), Nat.zero_add]
    by_cases hn : n ≤ 1125899906842624
    · rw [if_pos hn, if_pos (by omega), show ((n.toNat : Nat) : Int) = n by omega]
      rfl
    · rw [if_neg hn, if_neg (by omega)]
  · rw [if_pos h0, e]
    have hall := dec_all n.natAbs
    have hsg : signL (45 :: decDigits n.natAbs) = [45] := by
      unfold signL
      rw [if_neg (by rw [take2]; simp [long2])]
      simp [short1]
    have ht : tokF (45 :: decDigits n.natAbs) = some (⟨3, [45], 0, 0⟩, 1) := by
      simp only [tokF]
      rw [if_neg (by decide), if_neg (by decide), if_neg (by decide), hsg, if_neg (by decide)]
      rfl
    rw [sc_some 0 _ (by decide) ht]
    simp only [List.drop_succ_cons, List.drop_zero, Nat.zero_add]
    rw [sc_digits _ _ (by omega)]
    by_cases hn : -1125899906842624 ≤ n
    · rw [if_pos (by omega), if_pos hn]
      simp only [Scan.push, List.length_cons]
      rw [show ((n.natAbs : Nat) : Int) = -n by omega]
      congr 5
      omega
    · rw [if_neg (by omega), if_neg hn]
      rfl
end Go.Proofs.YtjcobjikgakapaaDoor
