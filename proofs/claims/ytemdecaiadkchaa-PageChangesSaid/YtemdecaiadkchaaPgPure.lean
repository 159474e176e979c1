/- page: reading what was written; equality of marks; plain. -/
import Derived.Test.YtemdecaiadkchaaPgRd
import Derived.Test.YtemdecaiadkchaaCPure
namespace Go.Proofs.Ytemdecaiadkchaa
open Go.ChangeShapes Go.WideShapes Go.ChangeAt Go.RowKit Go.Lib
set_option linter.unusedVariables false

theorem numI_L {n : Int} (h : 0 ≤ n) : numI n = numL n.toNat := by unfold numI; rw [if_neg (by omega)]
theorem read_bytes (k : Mk) (h : rightB k = true) : readM (bytesM k) = some k := by
  obtain ⟨g1, g2, g3, g4, g5, g6, g7⟩ := right_bounds h
  have hB : bytesM k = numL k.now.toNat ++ (numL (if k.beg = true then 1 else 0) ++ (intI k.score ++ (numL k.time.toNat ++ (textL k.id ++ [])))) := by
    unfold bytesM
    rw [if_pos h, numI_L g1, numI_L g5]
    have : numI (if k.beg = true then (1 : Int) else 0) = numL (if k.beg = true then 1 else 0) := by cases k.beg <;> rfl
    rw [this]
    simp
  have e1 := num_enc (n := k.now.toNat) (by omega) (numL (if k.beg = true then 1 else 0) ++ (intI k.score ++ (numL k.time.toNat ++ (textL k.id ++ []))))
  have e2 := num_enc (n := if k.beg = true then 1 else 0) (by split <;> omega) (intI k.score ++ (numL k.time.toNat ++ (textL k.id ++ [])))
  have e3 := int_enc (n := k.score) (by unfold lim; omega) (by unfold lim; omega) (numL k.time.toNat ++ (textL k.id ++ []))
  have e4 := num_enc (n := k.time.toNat) (by omega) (textL k.id ++ [])
  have e5 := text_enc (s := k.id) (by omega) []
  have hk : mkOf (bytesM k) = k := by
    unfold mkOf
    rw [hB]
    simp only [e1, e2, e3, e4, e5]
    obtain ⟨kn, ks, kt, ki, kb⟩ := k
    simp only [Mk.mk.injEq]
    refine ⟨by simp only at g1; omega, trivial, by simp only at g5; omega, trivial, ?_⟩
    cases kb <;> rfl
  rw [readM_eq, hk, if_pos]
  refine ⟨?_, ?_, h, rfl⟩
  · rw [hB]
    simp only [e1, e2, e3, e4, e5]
    rfl
  · rw [hB]
    simp only [e1, e2]
    split <;> omega
theorem read_nil : readM [] = none := by rw [readM_eq, if_neg]; intro h; exact absurd h.1 (by decide)
theorem bytes_bad {k : Mk} (h : rightB k = false) : bytesM k = [] := by unfold bytesM; rw [h, if_neg (by simp)]
theorem bytes_ne {k : Mk} (h : rightB k = true) : bytesM k ≠ [] := by
  intro e
  have := read_bytes k h
  rw [e, read_nil] at this
  cases this
theorem bytes_inj {k m : Mk} (h1 : rightB k = true) (h2 : rightB m = true) (e : bytesM k = bytesM m) : k = m := by
  have := read_bytes k h1
  rw [e, read_bytes m h2] at this
  exact (Option.some.inj this).symm
theorem of_read {s : List UInt8} {y : Mk} (h : readM s = some y) : rightB y = true ∧ bytesM y = s := by
  rw [readM_eq] at h
  split at h
  · next hc =>
    obtain rfl := Option.some.inj h
    exact ⟨hc.2.2.1, hc.2.2.2⟩
  · cases h
theorem eql_marks (c d : Mk) (W : World) : (binOp .eql 23 (.agg (cellsM c)) (.agg (cellsM d))).run Try.prog W = .ok (.bool (decide (c = d))) W := by
  have hu : Try.prog.underlying 23 = some (.struct (Try.prog.fieldsOf 23)) := by kernel_rfl
  have hp : Try.prog.stoodInHeld 23 = false := by kernel_rfl
  rw [run_eql_struct, run_equalIn_agg _ _ _ _ _ hu hp]
  unfold Program.fieldsOf
  rw [Try.underlying23]
  obtain ⟨x, y, z, a, r⟩ := c
  obtain ⟨x', y', z', a', r'⟩ := d
  have u3 := Try.underlying3
  have u9 := Try.underlying9
  have u4 := Try.underlying4
  simp [Op.eqFields, cellsM, go_sem]
  simp only [bs_toList]
  by_cases h1 : x = x'
  · by_cases h2 : y = y'
    · by_cases h3 : z = z'
      · by_cases h4 : a = a'
        · by_cases h5 : r = r'
          · simp [h1, h2, h3, h4, h5]
          · simp [h1, h2, h3, h4, h5]
        · simp [h1, h2, h3, h4]
      · simp [h1, h2, h3]
    · simp [h1, h2]
  · simp [h1]
theorem neq_marks (c d : Mk) (W : World) : (binOp .neq 23 (.agg (cellsM c)) (.agg (cellsM d))).run Try.prog W = .ok (.bool (!decide (c = d))) W := neq_of_eql (eql_marks c d W)
end Go.Proofs.Ytemdecaiadkchaa
