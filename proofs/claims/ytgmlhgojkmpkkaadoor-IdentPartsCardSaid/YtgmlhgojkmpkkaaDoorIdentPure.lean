/- Plain laws of names, handles and ids. -/
import Derived.Test.YtgmlhgojkmpkkaaDoorPure
import Derived.Test.YtgmlhgojkmpkkaaDoorShaPure
import Derived.Lib.IndexMore
namespace Go.Proofs.YtgmlhgojkmpkkaaDoor
open Go Go.Lib
set_option linter.unusedVariables false

theorem index_at {a : List UInt8} {c : UInt8} (b : List UInt8) (h : c ∉ a) : index (a ++ c :: b) [c] = a.length := by
  induction a with
  | nil => simp [index]
  | cons x a ih =>
    have hx : ¬ c = x := fun e => h (by simp [e])
    have ih := ih (fun m => h (by simp [m]))
    rw [List.cons_append, index, if_neg (by simpa [List.isPrefixOf] using hx), ih, if_neg (by simp)]
    simp
theorem index_no {l : List UInt8} {c : UInt8} (h : c ∉ l) : index l [c] = -1 := by
  induction l with
  | nil => simp [index]
  | cons x a ih =>
    have hx : ¬ c = x := fun e => h (by simp [e])
    have ih := ih (fun m => h (by simp [m]))
    rw [index, if_neg (by simpa [List.isPrefixOf] using hx), ih, if_pos (by simp)]
theorem cut_at {a : List UInt8} {c : UInt8} (b : List UInt8) (h : c ∉ a) : cut (a ++ c :: b) [c] = (a, b, true) := by
  unfold cut
  rw [index_at b h, if_pos (by omega)]
  simp
theorem cut_no {l : List UInt8} {c : UInt8} (h : c ∉ l) : cut l [c] = (l, [], false) := by
  unfold cut
  rw [index_no h, if_neg (by omega)]
theorem split_mem : ∀ {l : List UInt8} {c : UInt8}, c ∈ l → ∃ a b, c ∉ a ∧ l = a ++ c :: b
  | x :: l, c, h => by
    by_cases hx : c = x
    · exact ⟨[], l, by simp, by simp [hx]⟩
    · obtain ⟨a, b, h1, h2⟩ := split_mem (l := l) (c := c) (by simpa [hx] using h)
      exact ⟨x :: a, b, by simp [hx, h1], by simp [h2]⟩
def isLc (c : UInt8) : Bool := 97 ≤ c.toNat && c.toNat ≤ 122
def isNc (c : UInt8) : Bool := isLc c || (48 ≤ c.toNat && c.toNat ≤ 57) || c.toNat == 95
def nameOk : List UInt8 → Bool
  | [] => false
  | c :: r => isLc c && r.all isNc
def nameB (l : List UInt8) : Bool := nameOk l && decide (l.length ≤ 24)
def rightB (l : List UInt8) : Bool := decide (l.length = 16) && l.all isHx
def handleL (n : List UInt8) (s : Int) : List UInt8 := if nameB n = true ∧ 0 ≤ s ∧ s < 20 then n ++ 64 :: itoa s else []
def parseH (s : List UInt8) : Option (List UInt8 × Int) :=
  if (cut s [64]).2.2 = true ∧ nameB (cut s [64]).1 = true then (parseI (cut s [64]).2.1 0 19).map fun i => ((cut s [64]).1, i) else none
theorem nc_not_at {c : UInt8} (h : isNc c = true) : c ≠ 64 := by
  rintro rfl
  exact absurd h (by decide)
theorem lc_nc {c : UInt8} (h : isLc c = true) : isNc c = true := by simp [isNc, h]
theorem name_all {l : List UInt8} (h : nameB l = true) : ∀ c ∈ l, isNc c = true := by
  unfold nameB at h
  rw [Bool.and_eq_true] at h
  cases l with
  | nil => simp
  | cons x r =>
    simp only [nameOk, Bool.and_eq_true, List.all_eq_true] at h
    intro c hc
    rcases List.mem_cons.1 hc with rfl | hc
    · exact lc_nc h.1.1
    · exact h.1.2 c hc
theorem name_no_at {l : List UInt8} (h : nameB l = true) : (64 : UInt8) ∉ l := fun hm => nc_not_at (name_all h 64 hm) rfl
theorem name_ne {l : List UInt8} (h : nameB l = true) : l ≠ [] := by
  rintro rfl
  exact absurd h (by decide)
theorem name_len {l : List UInt8} (h : nameB l = true) : l.length ≤ 24 := by
  unfold nameB at h
  simp at h
  exact h.2
theorem parse_nil : parseH [] = none := by
  unfold parseH
  rw [cut_no (by simp)]
  rfl
theorem parse_name {s : List UInt8} (h : nameB s = true) : parseH s = none := by
  unfold parseH
  rw [cut_no (name_no_at h)]
  rfl
theorem parse_handle {n : List UInt8} {s : Int} (h : nameB n = true) (h0 : 0 ≤ s) (h1 : s < 20) : parseH (handleL n s) = some (n, s) := by
  have e : handleL n s = n ++ 64 :: itoa s := by unfold handleL; rw [if_pos ⟨h, h0, h1⟩]
  rw [e]
  unfold parseH
  rw [cut_at _ (name_no_at h), if_pos ⟨rfl, h⟩]
  rw [parse_of rfl ⟨by omega, by omega⟩ h0 (by omega)]
  rfl
theorem handle_no {n : List UInt8} {s : Int} (h : ¬ (nameB n = true ∧ 0 ≤ s ∧ s < 20)) : handleL n s = [] := by unfold handleL; rw [if_neg h]
theorem handle_yes {n : List UInt8} {s : Int} (h : nameB n = true) (h0 : 0 ≤ s) (h1 : s < 20) : handleL n s = n ++ 64 :: itoa s := by unfold handleL; rw [if_pos ⟨h, h0, h1⟩]
theorem handle_parse {t n : List UInt8} {s : Int} (h : parseH t = some (n, s)) : handleL n s = t ∧ nameB n = true ∧ 0 ≤ s ∧ s < 20 := by
  unfold parseH at h
  split at h
  · rename_i hc
    obtain ⟨h1, h2⟩ := hc
    by_cases hm : (64 : UInt8) ∈ t
    · obtain ⟨a, b, ha, rfl⟩ := split_mem hm
      rw [cut_at _ ha] at h h2
      simp only at h h2
      cases hp : parseI b 0 19 with
      | none => rw [hp] at h; cases h
      | some m =>
        rw [hp] at h
        simp only [Option.map_some, Option.some.injEq, Prod.mk.injEq] at h
        obtain ⟨rfl, rfl⟩ := h
        obtain ⟨e1, _, e2, e3⟩ := of_parse hp
        exact ⟨by rw [handle_yes h2 e2 (by omega), e1], h2, e2, by omega⟩
    · rw [cut_no hm] at h1
      cases h1
  · cases h
theorem name_handle {n : List UInt8} {s : Int} : nameB (handleL n s) = false := by
  cases hb : nameB (handleL n s) with
  | false => rfl
  | true =>
    have h1 := name_no_at hb
    have h2 := name_ne hb
    unfold handleL at h1 h2
    split at h1
    · simp at h1
    · rename_i h; rw [if_neg h] at h2; exact absurd rfl h2
theorem name_take {s : List UInt8} (h : nameB s = true) {n : Nat} (h1 : 1 ≤ n) : nameB (s.take n) = true := by
  have hl := name_len h
  cases s with
  | nil => exact absurd rfl (name_ne h)
  | cons x r =>
    obtain ⟨m, rfl⟩ : ∃ m, n = m + 1 := ⟨n - 1, by omega⟩
    unfold nameB at h ⊢
    simp only [nameOk, Bool.and_eq_true, List.all_eq_true, decide_eq_true_eq, List.take_succ_cons] at h ⊢
    refine ⟨⟨h.1.1, fun c hc => h.1.2 c (List.mem_of_mem_take hc)⟩, ?_⟩
    simp at hl ⊢
    omega
/-- the reference's try of one server -/
def tryB (s : List UInt8) (i : Nat) : Prop := 0 < (s.length : Int) - (itoa i).length - 1 ∧ handleL (s.take ((s.length : Int) - (itoa i).length - 1).toNat) i = s
theorem try_parse {s : List UInt8} {i : Nat} (h : tryB s i) : parseH s = some (s.take ((s.length : Int) - (itoa i).length - 1).toNat, (i : Int)) := by
  obtain ⟨h1, h2⟩ := h
  generalize s.take ((s.length : Int) - (itoa i).length - 1).toNat = n at *
  by_cases hv : nameB n = true ∧ 0 ≤ (i : Int) ∧ (i : Int) < 20
  · rw [← h2]; exact parse_handle hv.1 hv.2.1 hv.2.2
  · rw [handle_no hv] at h2
    subst h2
    simp at h1
    omega
theorem parse_try {s n : List UInt8} {j : Int} (h : parseH s = some (n, j)) : tryB s j.toNat := by
  obtain ⟨h1, h2, h3, h4⟩ := handle_parse h
  have e : ((j.toNat : Nat) : Int) = j := by omega
  rw [handle_yes h2 h3 h4] at h1
  have hn := name_ne h2
  have hp : 0 < n.length := List.length_pos_iff.2 hn
  unfold tryB
  rw [e]
  have hl : (s.length : Int) - (itoa j).length - 1 = n.length := by rw [← h1]; simp; omega
  rw [hl]
  refine ⟨by omega, ?_⟩
  rw [← h1]
  simp only [Int.toNat_natCast, List.take_left']
  exact handle_yes h2 h3 h4
theorem of_right (l : List UInt8) : rightB ((hexL (shaL l)).take 16) = true := by
  unfold rightB
  rw [Bool.and_eq_true, decide_eq_true_eq, List.all_eq_true]
  refine ⟨by rw [List.length_take, hexL_length, shaL_length]; rfl, fun c hc => hexL_hx _ c (List.mem_of_mem_take hc)⟩
theorem of_eq (l m : List UInt8) : (hexL (shaL l)).take 16 = (hexL (shaL m)).take 16 ↔ (shaL l).take 8 = (shaL m).take 8 := by
  rw [show 16 = 2 * 8 from rfl, hexL_take, hexL_take]
  exact ⟨hexL_inj, fun e => by rw [e]⟩
end Go.Proofs.YtgmlhgojkmpkkaaDoor
