/- The reference's Parse of weights reads what rank's does; plain. -/
import Derived.Test.YtjcaaiikccnpeaaDoorRankText
namespace Go.Proofs.YtjcaaiikccnpeaaDoor
open Go.ChangeShapes Go.WideShapes Go.ChangeAt Go.RowKit Go.Lib
set_option linter.unusedVariables false

def digT (c : UInt8) : Bool := decide (48 ≤ c.toNat ∧ c.toNat ≤ 57)
def afterR (s wd : List UInt8) : List UInt8 := if s.take wd.length = wd then s.drop wd.length else []
def numR (s : List UInt8) : Int × List UInt8 :=
  match parseI (s.takeWhile digT) 0 1125899906842624 with
  | some v => (v, s.dropWhile digT)
  | none => (-1, [])
def parseR (s : List UInt8) : Option Wts :=
  let x := numR (afterR s likeB)
  let y := numR (afterR x.2 boostB)
  let z := numR (afterR y.2 replyB)
  let t := numR (afterR z.2 ageB)
  if x.1 < 0 ∨ y.1 < 0 ∨ z.1 < 0 ∨ t.1 < 0 ∨ t.2 ≠ [] then none else some ⟨x.1, y.1, z.1, t.1⟩
theorem numR_some {s t : List UInt8} {n : Int} (h : numR s = (n, t)) (hn : ¬ n < 0) : okN n ∧ s = itoa n ++ t := by
  unfold numR at h
  cases hp : parseI (s.takeWhile digT) 0 1125899906842624 with
  | none => rw [hp] at h; simp only [Prod.mk.injEq] at h; omega
  | some v =>
    rw [hp] at h
    simp only [Prod.mk.injEq] at h
    obtain ⟨rfl, rfl⟩ := h
    obtain ⟨h1, _, h3, h4⟩ := of_parse hp
    exact ⟨⟨h3, h4⟩, by rw [h1]; exact (List.takeWhile_append_dropWhile).symm⟩
theorem numR_nil : numR [] = (-1, []) := by
  unfold numR
  have : parseI ([].takeWhile digT) 0 1125899906842624 = none := by
    cases h : parseI ([].takeWhile digT) 0 1125899906842624 with
    | none => rfl
    | some m => exact absurd (of_parse h).1 (by simp only [List.takeWhile_nil]; exact itoa_ne_nil m)
  rw [this]
theorem after_some {s wd : List UInt8} (h : afterR s wd ≠ []) : s = wd ++ afterR s wd := by
  unfold afterR at *
  split at h
  · next e => rw [if_pos e]; conv => lhs; rw [← List.take_append_drop wd.length s, e]
  · exact absurd rfl h
theorem after_app (wd t : List UInt8) : afterR (wd ++ t) wd = t := by
  unfold afterR
  rw [if_pos List.take_left, List.drop_left]
theorem itoa_dig {n : Int} (h : 0 ≤ n) : ∀ c ∈ itoa n, digT c = true := by
  rcases itoa_cases n with ⟨_, e⟩ | ⟨h', _⟩
  · rw [e]; intro c hc; exact decide_eq_true (dec_all _ c hc)
  · omega
theorem take_dig {l t : List UInt8} (h : ∀ c ∈ l, digT c = true) (ht : ∀ c r, t = c :: r → digT c = false) : (l ++ t).takeWhile digT = l ∧ (l ++ t).dropWhile digT = t := by
  induction l with
  | nil =>
    cases t with
    | nil => exact ⟨rfl, rfl⟩
    | cons c r => have := ht c r rfl; simp [this]
  | cons a l ih =>
    have ha := h a (by simp)
    have := ih fun c hc => h c (List.mem_cons_of_mem _ hc)
    simp [ha, this.1, this.2]
theorem numR_itoa {n : Int} {t : List UInt8} (h : okN n) (ht : ∀ c r, t = c :: r → digT c = false) : numR (itoa n ++ t) = (n, t) := by
  obtain ⟨e1, e2⟩ := take_dig (itoa_dig h.1) ht
  unfold numR
  rw [e1, e2, parse_of rfl (okN_wf h) h.1 h.2]
theorem parseR_write {v : Wts} (h : v.Ok) : parseR (writeB v) = some v := by
  obtain ⟨h1, h2, h3, h4⟩ := id h
  have e : writeB v = likeB ++ (itoa v.li ++ (boostB ++ (itoa v.bo ++ (replyB ++ (itoa v.re ++ (ageB ++ (itoa v.ag ++ []))))))) := by
    unfold writeB; rw [if_pos h]; simp
  have d1 : ∀ (t : List UInt8) (c : UInt8) (r : List UInt8), boostB ++ t = c :: r → digT c = false := by intro t c r e; simp only [boostB, List.cons_append, List.cons.injEq] at e; rw [← e.1]; rfl
  have d2 : ∀ (t : List UInt8) (c : UInt8) (r : List UInt8), replyB ++ t = c :: r → digT c = false := by intro t c r e; simp only [replyB, List.cons_append, List.cons.injEq] at e; rw [← e.1]; rfl
  have d3 : ∀ (t : List UInt8) (c : UInt8) (r : List UInt8), ageB ++ t = c :: r → digT c = false := by intro t c r e; simp only [ageB, List.cons_append, List.cons.injEq] at e; rw [← e.1]; rfl
  unfold parseR
  simp only
  rw [e, after_app, numR_itoa h1 (d1 _), after_app, numR_itoa h2 (d2 _), after_app, numR_itoa h3 (d3 _), after_app, numR_itoa h4 (by simp)]
  have := h1.1; have := h2.1; have := h3.1; have := h4.1
  rw [if_neg (by simp; omega)]
theorem after_num {s wd : List UInt8} {n : Int} {t : List UInt8} (h : numR (afterR s wd) = (n, t)) (hn : ¬ n < 0) : okN n ∧ s = wd ++ (itoa n ++ t) := by
  have hne : afterR s wd ≠ [] := by intro e; rw [e, numR_nil] at h; simp only [Prod.mk.injEq] at h; omega
  obtain ⟨h1, h2⟩ := numR_some h hn
  exact ⟨h1, by rw [← h2]; exact after_some hne⟩
theorem of_parseR {s : List UInt8} {v : Wts} (h : parseR s = some v) : writeB v = s ∧ v.Ok := by
  unfold parseR at h
  simp only at h
  obtain ⟨a, s1, e1⟩ : ∃ a s1, numR (afterR s likeB) = (a, s1) := ⟨_, _, rfl⟩
  rw [e1] at h
  obtain ⟨b, s2, e2⟩ : ∃ a s1', numR (afterR s1 boostB) = (a, s1') := ⟨_, _, rfl⟩
  simp only [e2] at h
  obtain ⟨c, s3, e3⟩ : ∃ a s1', numR (afterR s2 replyB) = (a, s1') := ⟨_, _, rfl⟩
  simp only [e3] at h
  obtain ⟨d, s4, e4⟩ : ∃ a s1', numR (afterR s3 ageB) = (a, s1') := ⟨_, _, rfl⟩
  simp only [e4] at h
  split at h
  · cases h
  · next hc =>
    simp only [not_or] at hc
    obtain ⟨c1, c2, c3, c4, c5⟩ := hc
    obtain rfl := Option.some.inj h
    obtain rfl : s4 = [] := Classical.not_not.1 c5
    obtain ⟨k1, r1⟩ := after_num e1 c1
    obtain ⟨k2, r2⟩ := after_num e2 c2
    obtain ⟨k3, r3⟩ := after_num e3 c3
    obtain ⟨k4, r4⟩ := after_num e4 c4
    refine ⟨?_, k1, k2, k3, k4⟩
    unfold writeB
    rw [if_pos ⟨k1, k2, k3, k4⟩, r1, r2, r3, r4]
    simp
theorem parseR_eq (s : List UInt8) : parseR s = parseW s := by
  cases h : parseW s with
  | some v =>
    obtain ⟨h1, h2⟩ := of_parseW h
    rw [← h1]
    exact parseR_write h2
  | none =>
    cases h' : parseR s with
    | none => rfl
    | some v =>
      obtain ⟨h1, h2⟩ := of_parseR h'
      rw [← h1, parse_write h2] at h
      cases h
end Go.Proofs.YtjcaaiikccnpeaaDoor
