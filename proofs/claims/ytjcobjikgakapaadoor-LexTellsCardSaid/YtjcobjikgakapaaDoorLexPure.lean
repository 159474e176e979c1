/- The lexer as plain functions on lists of bytes, and its laws. -/
import Derived.Lib.ItoaMem
import Derived.Lib.AtoiAllCases
import Derived.Test.YtjcobjikgakapaaDoorPure
namespace Go.Proofs.YtjcobjikgakapaaDoor
open Go Go.Lib
set_option linter.unusedVariables false

def isSp (c : UInt8) : Bool := c == 9 || c == 10 || c == 13 || c == 32
def isLe (c : UInt8) : Bool := decide (97 ≤ c.toNat) && decide (c.toNat ≤ 122)
def isDi (c : UInt8) : Bool := decide (48 ≤ c.toNat) && decide (c.toNat ≤ 57)
def isWo (c : UInt8) : Bool := isLe c || isDi c || c == 95
def wordL (l : List UInt8) : List UInt8 := l.takeWhile isWo
def textF : Nat → List UInt8 → Option (List UInt8)
  | 0, _ => none
  | _ + 1, [] => none
  | f + 1, c :: r => if c = 34 then some [] else if c.toNat < 32 ∨ 126 < c.toNat ∨ c = 92 then none else (textF f r).map (c :: ·)
def long2 : List (List UInt8) := [[61, 61], [33, 61], [60, 61], [62, 61]]
def short1 : List UInt8 := [40, 41, 44, 58, 61, 60, 62, 43, 45, 42, 47, 37]
def signL (l : List UInt8) : List UInt8 := if l.take 2 ∈ long2 then l.take 2 else if l.head? = none then [] else if l.headD 0 ∈ short1 then [l.headD 0] else []
structure Tok where
  kind : Int
  text : List UInt8
  n : Int
  off : Int
deriving DecidableEq
def tokF (l : List UInt8) : Option (Tok × Nat) :=
  match l with
  | [] => none
  | c :: r =>
    if isLe c = true then (if (wordL l).length ≤ 24 then some (⟨0, wordL l, 0, 0⟩, (wordL l).length) else none)
    else if isDi c = true then (parseI (wordL l) 0 1125899906842624).map fun n => (⟨1, [], n, 0⟩, (wordL l).length)
    else if c = 34 then (textF 25 r).map fun w => (⟨2, w, 0, 0⟩, w.length + 2)
    else if signL l = [] then none else some (⟨3, signL l, 0, 0⟩, (signL l).length)
/-- the text of a token -/
def wr (t : Tok) : List UInt8 := if t.kind = 1 then itoa t.n else if t.kind = 2 then 34 :: (t.text ++ [34]) else t.text

theorem isSp_lt {c : UInt8} (h : isSp c = true) : c = 9 ∨ c = 10 ∨ c = 13 ∨ c = 32 := by
  simpa [isSp, or_assoc] using h
theorem sp_not_wo {c : UInt8} (h : isSp c = true) : isWo c = false := by
  rcases isSp_lt h with rfl | rfl | rfl | rfl <;> decide
theorem sp_not_short {c : UInt8} (h : isSp c = true) : c ∉ short1 ∧ c ≠ 61 ∧ c ≠ 34 := by
  rcases isSp_lt h with rfl | rfl | rfl | rfl <;> decide
/-! ### words -/
theorem word_le (l : List UInt8) : (wordL l).length ≤ l.length := by
  unfold wordL
  exact (List.takeWhile_prefix _).length_le
theorem take_word (l : List UInt8) : l.take (wordL l).length = wordL l := by
  have h : wordL l <+: l := List.takeWhile_prefix _
  exact (List.prefix_iff_eq_take.1 h).symm
theorem word_all (l : List UInt8) : ∀ c ∈ wordL l, isWo c = true := by
  intro c hc
  exact (List.all_eq_true.1 (List.all_takeWhile (p := isWo) (l := l))) c hc
theorem word_append {w r : List UInt8} (hw : ∀ c ∈ w, isWo c = true) (hr : r.head?.map isWo ≠ some true) : wordL (w ++ r) = w := by
  unfold wordL
  induction w with
  | nil =>
    cases r with
    | nil => rfl
    | cons c r => simp at hr; simp [hr]
  | cons c w ih =>
    rw [List.cons_append, List.takeWhile_cons_of_pos (hw c (by simp)), ih (fun c h => hw c (by simp [h]))]
theorem word_next {l : List UInt8} : (l.drop (wordL l).length).head?.map isWo ≠ some true := by
  unfold wordL
  induction l with
  | nil => simp
  | cons c l ih =>
    by_cases h : isWo c = true
    · rw [List.takeWhile_cons_of_pos h]
      simpa using ih
    · rw [List.takeWhile_cons_of_neg h]
      simpa using h
/-! ### texts -/
theorem textF_some : ∀ (f : Nat) (l w : List UInt8), textF f l = some w → w.length + 1 ≤ f ∧ w.length + 1 ≤ l.length ∧ l.take (w.length + 1) = w ++ [34] := by
  intro f
  induction f with
  | zero => intro l w h; cases h
  | succ f ih =>
    intro l w h
    cases l with
    | nil => cases h
    | cons c r =>
      simp only [textF] at h
      split at h
      · rename_i hc
        injection h with h
        subst h; subst hc
        simp
      · split at h
        · cases h
        · cases hr : textF f r with
          | none => rw [hr] at h; cases h
          | some v =>
            rw [hr] at h
            injection h with h
            subst h
            have := ih r v hr
            simp [this]
theorem textF_more : ∀ (f : Nat) (l w : List UInt8) (r : List UInt8), textF f l = some w → textF f (w ++ 34 :: r) = some w := by
  intro f
  induction f with
  | zero => intro l w r h; cases h
  | succ f ih =>
    intro l w r h
    cases l with
    | nil => cases h
    | cons c t =>
      simp only [textF] at h
      split at h
      · injection h with h
        subst h
        simp [textF]
      · rename_i hc
        split at h
        · cases h
        · rename_i hd
          cases hr : textF f t with
          | none => rw [hr] at h; cases h
          | some v =>
            rw [hr] at h
            injection h with h
            subst h
            simp only [List.cons_append, textF]
            rw [if_neg hc, if_neg hd, ih t v r hr]
            rfl
/-! ### signs -/
theorem sign_cases (l : List UInt8) : (signL l ∈ long2 ∧ signL l = l.take 2) ∨ (l.take 2 ∉ long2 ∧ ∃ c r, l = c :: r ∧ c ∈ short1 ∧ signL l = [c]) ∨ (signL l = []) := by
  unfold signL
  by_cases h : l.take 2 ∈ long2
  · rw [if_pos h]; exact .inl ⟨h, rfl⟩
  · rw [if_neg h]
    cases l with
    | nil => exact .inr (.inr rfl)
    | cons c r =>
      by_cases hc : c ∈ short1
      · refine .inr (.inl ⟨h, c, r, rfl, hc, ?_⟩)
        simp [hc]
      · refine .inr (.inr ?_)
        simp [hc]
theorem long2_len {w : List UInt8} (h : w ∈ long2) : w.length = 2 := by
  simp [long2] at h
  rcases h with rfl | rfl | rfl | rfl <;> rfl
theorem sign_len (l : List UInt8) : (signL l).length ≤ l.length ∧ (signL l).length ≤ 2 ∧ l.take (signL l).length = signL l := by
  rcases sign_cases l with ⟨h, e⟩ | ⟨_, c, r, rfl, hc, e⟩ | e
  · have := long2_len h
    rw [this]
    refine ⟨?_, by omega, e.symm⟩
    rw [e] at this
    simp at this; omega
  · rw [e]; simp
  · rw [e]; simp
/-! ### a token stands at the head of what it was read from -/
theorem tok_wr {l : List UInt8} {t : Tok} {n : Nat} (h : tokF l = some (t, n)) : wr t = l.take n ∧ 1 ≤ n ∧ n ≤ l.length ∧ (wr t).length = n := by
  cases l with
  | nil => cases h
  | cons c r =>
    simp only [tokF] at h
    split at h
    · rename_i hc
      split at h
      · rename_i h24
        injection h with h
        injection h with h1 h2
        subst h1; subst h2
        have hw : wr ⟨0, wordL (c :: r), 0, 0⟩ = wordL (c :: r) := rfl
        refine ⟨by rw [hw, take_word], ?_, word_le _, by rw [hw]⟩
        have hwo : isWo c = true := by simp [isWo, hc]
        unfold wordL
        rw [List.takeWhile_cons_of_pos hwo]
        simp
      · cases h
    · split at h
      · rename_i hc
        cases hp : parseI (wordL (c :: r)) 0 1125899906842624 with
        | none => rw [hp] at h; cases h
        | some m =>
          rw [hp] at h
          injection h with h
          injection h with h1 h2
          subst h1; subst h2
          have hw : wr ⟨1, [], m, 0⟩ = wordL (c :: r) := (of_parse hp).1
          refine ⟨by rw [hw, take_word], ?_, word_le _, by rw [hw]⟩
          have hwo : isWo c = true := by simp [isWo, hc]
          unfold wordL
          rw [List.takeWhile_cons_of_pos hwo]
          simp
      · split at h
        · rename_i hc
          cases hp : textF 25 r with
          | none => rw [hp] at h; cases h
          | some w =>
            rw [hp] at h
            injection h with h
            injection h with h1 h2
            subst h1; subst h2
            obtain ⟨_, h3, h4⟩ := textF_some _ _ _ hp
            have hw : wr ⟨2, w, 0, 0⟩ = 34 :: (w ++ [34]) := rfl
            refine ⟨?_, by omega, by simp; omega, by rw [hw]; simp⟩
            rw [hw, hc, List.take_succ_cons, h4]
        · split at h
          · cases h
          · rename_i hs
            injection h with h
            injection h with h1 h2
            subst h1; subst h2
            have hw : wr ⟨3, signL (c :: r), 0, 0⟩ = signL (c :: r) := rfl
            obtain ⟨h1, _, h3⟩ := sign_len (c :: r)
            refine ⟨by rw [hw, h3], ?_, h1, by rw [hw]⟩
            cases hz : signL (c :: r) with
            | nil => exact absurd hz hs
            | cons a b => simp
/-- what may stand behind a token without changing it: the same next byte, or white space, or nothing -/
def Stop (r1 r2 : List UInt8) : Prop := r1.head? = r2.head? ∨ r2 = [] ∨ ∃ c r, r2 = c :: r ∧ isSp c = true
theorem Stop.word {r1 r2 : List UInt8} (h : Stop r1 r2) (h1 : r1.head?.map isWo ≠ some true) : r2.head?.map isWo ≠ some true := by
  rcases h with h | rfl | ⟨c, r, rfl, hc⟩
  · rw [← h]; exact h1
  · simp
  · simp [sp_not_wo hc]
theorem take2 (c : UInt8) (r : List UInt8) : (c :: r).take 2 = c :: r.head?.toList := by cases r <;> rfl
theorem tok_stop {w r1 r2 : List UInt8} {t : Tok} (h : tokF (w ++ r1) = some (t, w.length)) (hs : Stop r1 r2) : tokF (w ++ r2) = some (t, w.length) := by
  have h0 := tok_wr h
  have hlen := h0.2.1
  cases w with
  | nil => simp at hlen
  | cons c w =>
    simp only [List.cons_append, tokF] at h ⊢
    split at h
    · rename_i hc
      rw [if_pos hc]
      split at h
      · rename_i h24
        injection h with h
        injection h with e1 e2
        have htw := take_word (c :: (w ++ r1))
        have hn := word_next (l := c :: (w ++ r1))
        have ha := word_all (c :: (w ++ r1))
        rw [e2] at htw hn
        rw [← List.cons_append, List.take_left'] at htw
        rw [← List.cons_append, List.drop_left'] at hn
        rw [← List.cons_append] at ha e1 e2 h24
        rw [← htw] at ha e1 h24
        have hw2 : wordL (c :: (w ++ r2)) = c :: w := by
          rw [← List.cons_append]
          exact word_append ha (hs.word hn)
        rw [hw2, if_pos h24, e1]
        all_goals rfl
      · cases h
    · rename_i hc
      rw [if_neg hc]
      split at h
      · rename_i hd
        rw [if_pos hd]
        cases hp : parseI (wordL (c :: (w ++ r1))) 0 1125899906842624 with
        | none => rw [hp] at h; cases h
        | some m =>
          rw [hp] at h
          injection h with h
          injection h with e1 e2
          have htw := take_word (c :: (w ++ r1))
          have hn := word_next (l := c :: (w ++ r1))
          have ha := word_all (c :: (w ++ r1))
          rw [e2] at htw hn
          rw [← List.cons_append, List.take_left'] at htw
          rw [← List.cons_append, List.drop_left'] at hn
          rw [← List.cons_append] at ha e2 hp
          rw [← htw] at ha hp
          have hw2 : wordL (c :: (w ++ r2)) = c :: w := by
            rw [← List.cons_append]
            exact word_append ha (hs.word hn)
          rw [hw2, hp, Option.map_some, e1]
          all_goals rfl
      · rename_i hd
        rw [if_neg hd]
        split at h
        · rename_i hq
          rw [if_pos hq]
          cases hp : textF 25 (w ++ r1) with
          | none => rw [hp] at h; cases h
          | some v =>
            rw [hp] at h
            injection h with h
            injection h with e1 e2
            obtain ⟨h2, h3, h4⟩ := textF_some _ _ _ hp
            have hvl : v.length + 1 = w.length := by simp at e2; omega
            rw [hvl, List.take_left'] at h4
            rw [h4, List.append_assoc]
            show Option.map _ (textF 25 (v ++ 34 :: r2)) = _
            rw [textF_more 25 _ v r2 hp, Option.map_some, e1]
            · simp
            · rfl
        · rename_i hq
          rw [if_neg hq]
          split at h
          · cases h
          · rename_i hne
            injection h with h
            injection h with e1 e2
            have key : signL (c :: (w ++ r2)) = c :: w := by
              rcases sign_cases (c :: (w ++ r1)) with ⟨hm, e⟩ | ⟨hm, c', r', hcr, hcs, e⟩ | e
              · have h2 := long2_len hm
                rw [e2] at h2
                rw [← List.cons_append, List.take_append_of_le_length (by omega), List.take_of_length_le (by omega)] at e
                rw [← List.cons_append] at e2 hm
                unfold signL
                rw [← List.cons_append, List.take_append_of_le_length (by omega), List.take_of_length_le (by omega), ← e, if_pos hm]
              · injection hcr with hc1 hc2
                subst hc1
                rw [e] at e2
                have hw0 : w = [] := by
                  cases w with
                  | nil => rfl
                  | cons a b => simp at e2
                subst hw0
                simp only [List.nil_append] at hm ⊢
                have hm2 : (c :: r2).take 2 ∉ long2 := by
                  rw [take2] at hm ⊢
                  rcases hs with h | rfl | ⟨d, r, rfl, hd⟩
                  · rw [← h]; exact hm
                  · simp [long2]
                  · have := (sp_not_short hd).2.1
                    simp [long2, this]
                unfold signL
                rw [if_neg hm2]
                simp [hcs]
              · exact absurd e hne
            have e3 : signL (c :: (w ++ r1)) = c :: w := by
              have h3 := (sign_len (c :: (w ++ r1))).2.2
              rw [e2, ← List.cons_append, List.take_left'] at h3
              · exact h3.symm
              · rfl
            rw [key, if_neg (by simp), ← e1, e3]
theorem tok_facts {l : List UInt8} {t : Tok} {n : Nat} (h : tokF l = some (t, n)) : 0 ≤ t.kind ∧ t.kind ≤ 3 ∧ t.text.length ≤ 24 ∧ 0 ≤ t.n ∧ t.n ≤ 1125899906842624 ∧ t.off = 0 := by
  cases l with
  | nil => cases h
  | cons c r =>
    simp only [tokF] at h
    split at h
    · split at h
      · rename_i h24
        injection h with h
        injection h with h1 h2
        subst h1
        exact ⟨by simp, by simp, h24, by simp, by simp, rfl⟩
      · cases h
    · split at h
      · cases hp : parseI (wordL (c :: r)) 0 1125899906842624 with
        | none => rw [hp] at h; cases h
        | some m =>
          rw [hp] at h
          injection h with h
          injection h with h1 h2
          subst h1
          have := of_parse hp
          exact ⟨by simp, by simp, by simp, this.2.2.1, this.2.2.2, rfl⟩
      · split at h
        · cases hp : textF 25 r with
          | none => rw [hp] at h; cases h
          | some w =>
            rw [hp] at h
            injection h with h
            injection h with h1 h2
            subst h1
            have := textF_some _ _ _ hp
            exact ⟨by simp, by simp, by show w.length ≤ 24; omega, by simp, by simp, rfl⟩
        · split at h
          · cases h
          · injection h with h
            injection h with h1 h2
            subst h1
            have := (sign_len (c :: r)).2.1
            exact ⟨by simp, by simp, by show (signL (c :: r)).length ≤ 24; omega, by simp, by simp, rfl⟩
/-! ### scanning -/
inductive Scan where
  | ok (l : List Tok)
  | err (k : Nat)
def Scan.push (t : Tok) : Scan → Scan
  | .ok l => .ok (t :: l)
  | .err k => .err k
def scanF : Nat → Nat → List UInt8 → Scan
  | 0, k, _ => .ok [⟨4, [], 0, k⟩]
  | _ + 1, k, [] => .ok [⟨4, [], 0, k⟩]
  | f + 1, k, c :: r =>
    if isSp c = true then scanF f (k + 1) r
    else match tokF (c :: r) with
      | none => .err k
      | some (t, n) => (scanF f (k + n) ((c :: r).drop n)).push { t with off := k }
theorem scanF_fuel : ∀ (f g k : Nat) (l : List UInt8), l.length ≤ f → l.length ≤ g → scanF f k l = scanF g k l := by
  intro f
  induction f with
  | zero =>
    intro g k l h1 h2
    obtain rfl : l = [] := List.eq_nil_of_length_eq_zero (by omega)
    cases g <;> rfl
  | succ f ih =>
    intro g k l h1 h2
    cases l with
    | nil => cases g <;> rfl
    | cons c r =>
      cases g with
      | zero => simp at h2
      | succ g =>
        simp only [List.length_cons] at h1 h2
        simp only [scanF]
        split
        · exact ih g _ r (by omega) (by omega)
        · cases hp : tokF (c :: r) with
          | none => rfl
          | some x =>
            obtain ⟨t, n⟩ := x
            have := (tok_wr hp).2.1
            simp only
            rw [ih g _ _ (by simp; omega) (by simp; omega)]
/-- the tokens from offset k on -/
def sc (k : Nat) (l : List UInt8) : Scan := scanF l.length k l
theorem sc_nil (k : Nat) : sc k [] = .ok [⟨4, [], 0, k⟩] := rfl
theorem sc_sp (k : Nat) {c : UInt8} (r : List UInt8) (h : isSp c = true) : sc k (c :: r) = sc (k + 1) r := by
  unfold sc
  simp only [List.length_cons, scanF]
  rw [if_pos h]
theorem sc_none (k : Nat) {c : UInt8} (r : List UInt8) (h : isSp c = false) (ht : tokF (c :: r) = none) : sc k (c :: r) = .err k := by
  unfold sc
  simp only [List.length_cons, scanF]
  rw [if_neg (by simp [h]), ht]
theorem sc_some (k : Nat) {c : UInt8} (r : List UInt8) {t : Tok} {n : Nat} (h : isSp c = false) (ht : tokF (c :: r) = some (t, n)) : sc k (c :: r) = (sc (k + n) ((c :: r).drop n)).push { t with off := k } := by
  have := (tok_wr ht).2.1
  unfold sc
  simp only [List.length_cons, scanF]
  rw [if_neg (by simp [h]), ht]
  simp only
  rw [scanF_fuel _ ((c :: r).drop n).length _ _ (by simp; omega) (Nat.le_refl _)]
/-- an induction along a scan -/
theorem scan_rec {P : Nat → List UInt8 → Prop} (h0 : ∀ k, P k []) (h1 : ∀ k c r, isSp c = true → P (k + 1) r → P k (c :: r)) (h2 : ∀ k c r, isSp c = false → tokF (c :: r) = none → P k (c :: r))
    (h3 : ∀ k c r t n, isSp c = false → tokF (c :: r) = some (t, n) → 1 ≤ n → n ≤ (c :: r).length → P (k + n) ((c :: r).drop n) → P k (c :: r)) : ∀ l k, P k l := by
  have h : ∀ m (l : List UInt8) k, l.length ≤ m → P k l := by
    intro m
    induction m with
    | zero =>
      intro l k hl
      obtain rfl : l = [] := List.eq_nil_of_length_eq_zero (by omega)
      exact h0 k
    | succ m ih =>
      intro l k hl
      cases l with
      | nil => exact h0 k
      | cons c r =>
        simp only [List.length_cons] at hl
        cases hs : isSp c with
        | true => exact h1 k c r hs (ih r _ (by omega))
        | false =>
          cases ht : tokF (c :: r) with
          | none => exact h2 k c r hs ht
          | some x =>
            obtain ⟨t, n⟩ := x
            have hw := tok_wr ht
            exact h3 k c r t n hs ht hw.2.1 hw.2.2.1 (ih _ _ (by simp; omega))
  intro l k
  exact h _ l k (Nat.le_refl _)
end Go.Proofs.YtjcobjikgakapaaDoor
