/- Tables of words as cells. -/
import Derived.Test.YtgmlhgojkmpkkaaDoorShaPure
import Derived.Laws.Rows
namespace Go.Proofs.YtgmlhgojkmpkkaaDoor
open Go
set_option linter.unusedVariables false

/-- n cells of words -/
def tabW (n : Nat) (f : Nat → Int) : Array Value := ((List.range n).map fun i => Value.int .u32 (f i)).toArray
theorem tabW_size (n : Nat) (f : Nat → Int) : (tabW n f).size = n := by simp [tabW]
theorem tabW_get {n : Nat} (f : Nat → Int) {i : Nat} (h : i < n) : (tabW n f)[i]? = some (.int .u32 (f i)) := by
  simp [tabW, h]
theorem tabW_ext {n : Nat} {f g : Nat → Int} (h : ∀ i, i < n → f i = g i) : tabW n f = tabW n g := by
  unfold tabW
  congr 1
  apply List.map_congr_left
  intro i hi
  rw [h i (by simpa using hi)]
theorem tabW_set (n : Nat) (f : Nat → Int) (j : Nat) (v : Int) : (tabW n f).setIfInBounds j (.int .u32 v) = tabW n (fun i => if i = j then v else f i) := by
  apply Array.ext_getElem?
  intro i
  rw [Array.getElem?_setIfInBounds, tabW_size]
  by_cases hij : j = i
  · subst hij
    rw [if_pos rfl]
    by_cases h : j < n
    · rw [if_pos h, tabW_get _ h, if_pos rfl]
    · rw [if_neg h, Array.getElem?_eq_none (by rw [tabW_size]; omega)]
  · rw [if_neg hij]
    by_cases h : i < n
    · rw [tabW_get _ h, tabW_get _ h, if_neg (fun e => hij e.symm)]
    · rw [Array.getElem?_eq_none (by rw [tabW_size]; omega), Array.getElem?_eq_none (by rw [tabW_size]; omega)]
theorem tabW_one (n : Nat) (f : Nat → Int) : (tabW n f).all (·.oneCell') = true := by
  rw [Array.all_eq_true_iff_forall_mem]
  intro x hx
  simp only [tabW, List.mem_toArray, List.mem_map] at hx
  obtain ⟨i, _, rfl⟩ := hx
  rfl
/-- the first k words of the schedule are there -/
def part (b : List UInt8) (k i : Nat) : Int := if i < k then sch b i else 0
theorem part_set (b : List UInt8) (k : Nat) : (tabW 64 (part b k)).setIfInBounds k (.int .u32 (sch b k)) = tabW 64 (part b (k + 1)) := by
  rw [tabW_set]
  refine tabW_ext fun i _ => ?_
  unfold part
  by_cases h : i = k
  · subst h; rw [if_pos rfl, if_pos (by omega)]
  · rw [if_neg h]
    by_cases h2 : i < k
    · rw [if_pos h2, if_pos (by omega)]
    · rw [if_neg h2, if_neg (by omega)]
theorem part_full (b : List UInt8) : tabW 64 (part b 64) = tabW 64 (sch b) := tabW_ext fun i h => by unfold part; rw [if_pos h]
theorem part_in {b : List UInt8} {k i : Nat} (h : i < k) : part b k i = sch b i := by unfold part; rw [if_pos h]
theorem part_none (b : List UInt8) : tabW 64 (part b 0) = tabW 64 (fun _ => 0) := tabW_ext fun i h => by unfold part; rw [if_neg (by omega)]
end Go.Proofs.YtgmlhgojkmpkkaaDoor
