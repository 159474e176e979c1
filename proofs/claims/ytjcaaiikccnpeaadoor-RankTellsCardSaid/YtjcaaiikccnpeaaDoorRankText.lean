/- Parse inverts Write, and the score grows with the counts; plain. -/
import Derived.Test.YtjcaaiikccnpeaaDoorParseW
namespace Go.Proofs.YtjcaaiikccnpeaaDoor
open Go Go.Lib
set_option linter.unusedVariables false

def joinL : List (List UInt8) → List UInt8
  | [] => []
  | [x] => x
  | x :: y :: r => x ++ 32 :: joinL (y :: r)
theorem spL_ne (s : List UInt8) : spL s ≠ [] := by
  cases s with
  | nil => simp [spL]
  | cons c r =>
    rw [spL]
    split
    · simp
    · split <;> simp
theorem join_cons (x : List UInt8) {l : List (List UInt8)} (h : l ≠ []) : joinL (x :: l) = x ++ 32 :: joinL l := by
  cases l with
  | nil => exact absurd rfl h
  | cons y r => rfl
theorem join_head (c : UInt8) (x : List UInt8) (l : List (List UInt8)) : joinL ((c :: x) :: l) = c :: joinL (x :: l) := by
  cases l <;> rfl
theorem join_spL : ∀ s : List UInt8, joinL (spL s) = s
  | [] => rfl
  | c :: r => by
    have ih := join_spL r
    rw [spL]
    by_cases h : c = 32
    · rw [if_pos h, join_cons _ (spL_ne r), ih, h]; rfl
    · rw [if_neg h]
      cases hs : spL r with
      | nil => exact absurd hs (spL_ne r)
      | cons x y =>
        simp only
        rw [hs] at ih
        rw [join_head, ih]
theorem spL_join : ∀ (l : List (List UInt8)), l ≠ [] → (∀ x ∈ l, (32 : UInt8) ∉ x) → spL (joinL l) = l
  | [], h, _ => absurd rfl h
  | [x], _, h => spL_none x (h x (by simp))
  | x :: y :: r, _, h => by
    rw [joinL, spL_hit _ _ (h x (by simp)), spL_join (y :: r) (by simp) (fun z hz => h z (List.mem_cons_of_mem _ hz))]
theorem itoa_no32 (n : Int) : (32 : UInt8) ∉ itoa n := fun h => not_ok (.inr (.inl rfl)) (itoa_all n 32 h)
def piecesW (v : Wts) : List (List UInt8) := [likeN, itoa v.li, boostN, itoa v.bo, replyN, itoa v.re, ageN, itoa v.ag]
theorem piecesW_no (v : Wts) : ∀ x ∈ piecesW v, (32 : UInt8) ∉ x := by
  intro x hx
  simp only [piecesW, List.mem_cons, List.not_mem_nil, or_false] at hx
  rcases hx with rfl | rfl | rfl | rfl | rfl | rfl | rfl | rfl
  · decide
  · exact itoa_no32 _
  · decide
  · exact itoa_no32 _
  · decide
  · exact itoa_no32 _
  · decide
  · exact itoa_no32 _
theorem write_join {v : Wts} (h : v.Ok) : writeB v = joinL (piecesW v) := by
  unfold writeB
  rw [if_pos h]
  simp only [piecesW, joinL, likeB, boostB, replyB, ageB, likeN, boostN, replyN, ageN, List.append_assoc, List.cons_append, List.nil_append]
theorem okN_wf {n : Int} (h : okN n) : wf64 n := by unfold okN at h; unfold wf64; omega
theorem parse_write {v : Wts} (h : v.Ok) : parseW (writeB v) = some v := by
  unfold parseW
  rw [write_join h, spL_join _ (by simp [piecesW]) (piecesW_no v)]
  obtain ⟨a, b, c, d⟩ := v
  obtain ⟨h1, h2, h3, h4⟩ := h
  unfold piecesW parseL fieldW
  simp only [if_pos]
  rw [parse_of rfl (okN_wf h1) h1.1 h1.2, parse_of rfl (okN_wf h2) h2.1 h2.2, parse_of rfl (okN_wf h3) h3.1 h3.2, parse_of rfl (okN_wf h4) h4.1 h4.2]
  rfl
theorem spL_snoc : ∀ s : List UInt8, spL (s ++ [32]) = spL s ++ [[]]
  | [] => rfl
  | c :: r => by
    have ih := spL_snoc r
    rw [List.cons_append, spL, spL]
    by_cases h : c = 32
    · rw [if_pos h, if_pos h, ih]; rfl
    · rw [if_neg h, if_neg h, ih]
      cases hs : spL r with
      | nil => exact absurd hs (spL_ne r)
      | cons x y => rfl
theorem parse_more (v : Wts) : parseW (writeB v ++ [32]) = none := by
  unfold parseW
  rw [spL_snoc]
  apply parseL_len
  by_cases h : v.Ok
  · rw [write_join h, spL_join _ (by simp [piecesW]) (piecesW_no v)]
    simp [piecesW]
  · unfold writeB
    rw [if_neg h]
    simp [spL]
theorem write_bad {v : Wts} (h : ¬ v.Ok) : writeB v = [] := if_neg h
theorem write_ne {v : Wts} (h : v.Ok) : writeB v ≠ [] := by
  unfold writeB
  rw [if_pos h]
  simp [likeB]
theorem writeB_length (v : Wts) (h : v.Wf) : (writeB v).length ≤ 200 := by
  obtain ⟨a, b, c, d⟩ := v
  obtain ⟨h1, h2, h3, h4⟩ := h
  dsimp only at h1 h2 h3 h4
  have l1 := itoa_length h1.1 h1.2
  have l2 := itoa_length h2.1 h2.2
  have l3 := itoa_length h3.1 h3.2
  have l4 := itoa_length h4.1 h4.2
  unfold writeB
  dsimp only
  split
  · simp only [List.length_append, likeB, boostB, replyB, ageB, List.length_cons, List.length_nil]
    omega
  · simp
theorem parse_nilW : parseW [] = none := by
  unfold parseW
  apply parseL_len
  simp [spL]
theorem field_of {k t n : List UInt8} {m : Int} (h : fieldW k t n = some m) : k = n ∧ itoa m = t ∧ okN m := by
  unfold fieldW at h
  split at h
  · rename_i hk
    obtain ⟨h1, _, h3, h4⟩ := of_parse h
    exact ⟨hk, h1, h3, h4⟩
  · cases h
theorem of_parseW {s : List UInt8} {v : Wts} (h : parseW s = some v) : writeB v = s ∧ v.Ok := by
  have hj := join_spL s
  unfold parseW parseL at h
  split at h
  · rename_i k0 t0 k1 t1 k2 t2 k3 t3 he
    unfold pickW at h
    split at h
    · rename_i a b c d e1 e2 e3 e4
      obtain ⟨rfl, rfl, g1⟩ := field_of e1
      obtain ⟨rfl, rfl, g2⟩ := field_of e2
      obtain ⟨rfl, rfl, g3⟩ := field_of e3
      obtain ⟨rfl, rfl, g4⟩ := field_of e4
      cases h
      have hok : (⟨a, b, c, d⟩ : Wts).Ok := ⟨g1, g2, g3, g4⟩
      refine ⟨?_, hok⟩
      rw [write_join hok, ← hj, he]
      rfl
    · cases h
  · cases h
theorem noW_ok : noW.Ok := by decide

/-! ### The score -/
theorem limI_mono {a b : Int} (h : a ≤ b) : limI a ≤ limI b := by
  unfold limI clampI
  repeat' split
  all_goals omega
theorem limI_id {a : Int} (h : -1125899906842624 ≤ a) (h' : a ≤ 1125899906842624) : limI a = a := by
  unfold limI clampI
  rw [if_neg (by omega), if_neg (by omega)]
theorem mul_mono {a x y : Int} (h : 0 ≤ a) (hxy : x ≤ y) : a * x ≤ a * y := Int.mul_le_mul_of_nonneg_left hxy h
theorem score_count {v : Wts} {t u : Tal} {time now : Int} (hv : v.Ok) (h1 : t.li ≤ u.li) (h2 : t.bo ≤ u.bo) (h3 : t.re ≤ u.re) : scoreI v t time now ≤ scoreI v u time now := by
  unfold scoreI
  have a1 := limI_mono (mul_mono hv.1.1 h1)
  have a2 := limI_mono (mul_mono hv.2.1.1 h2)
  have a3 := limI_mono (mul_mono hv.2.2.1.1 h3)
  have a4 := limI_mono (show limI (v.li * t.li) + limI (v.bo * t.bo) ≤ limI (v.li * u.li) + limI (v.bo * u.bo) by omega)
  have a5 := limI_mono (show limI (limI (v.li * t.li) + limI (v.bo * t.bo)) + limI (v.re * t.re) ≤ limI (limI (v.li * u.li) + limI (v.bo * u.bo)) + limI (v.re * u.re) by omega)
  apply limI_mono
  omega
theorem score_age {v : Wts} {t : Tal} {time now time' now' : Int} (hv : v.Ok) (h : now - time ≤ now' - time') : scoreI v t time' now' ≤ scoreI v t time now := by
  unfold scoreI
  have a1 := limI_mono h
  have a2 : maxI (limI (now - time)) ≤ maxI (limI (now' - time')) := by unfold maxI; omega
  have a3 := limI_mono (mul_mono hv.2.2.2.1 a2)
  apply limI_mono
  omega
theorem score_lim (v : Wts) (t : Tal) (time now : Int) : -1125899906842624 ≤ scoreI v t time now ∧ scoreI v t time now ≤ 1125899906842624 := limI_in _
def sumI (v : Wts) (t : Tal) : Int := limI (limI (limI (v.li * t.li) + limI (v.bo * t.bo)) + limI (v.re * t.re))
theorem score_young {v : Wts} {t : Tal} {time now : Int} (h : now ≤ time) : scoreI v t time now = sumI v t := by
  unfold scoreI sumI
  have a1 : limI (now - time) ≤ 0 := by
    have := limI_mono (show now - time ≤ 0 by omega)
    rw [limI_id (a := 0) (by omega) (by omega)] at this
    exact this
  have a2 : maxI (limI (now - time)) = 0 := by unfold maxI; omega
  rw [a2, Int.mul_zero, limI_id (a := 0) (by omega) (by omega), Int.sub_zero]
  have := limI_in (limI (limI (v.li * t.li) + limI (v.bo * t.bo)) + limI (v.re * t.re))
  exact limI_id this.1 this.2
end Go.Proofs.YtjcaaiikccnpeaaDoor
