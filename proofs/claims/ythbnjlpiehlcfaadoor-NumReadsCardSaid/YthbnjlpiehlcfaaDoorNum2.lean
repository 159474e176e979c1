/- num's Div, Mod, walked. -/
import Derived.Test.YthbnjlpiehlcfaaDoorNum
namespace Go.Proofs.YthbnjlpiehlcfaaDoor
open Go.ChangeShapes Go.WideShapes Go.ChangeAt Go.RowKit Go.Lib
set_option linter.unusedVariables false

theorem tdiv_bound {a b : Int} : -(a.natAbs : Int) ≤ a.tdiv b ∧ a.tdiv b ≤ a.natAbs := by
  have h := Int.natAbs_tdiv a b
  have h2 : (a.tdiv b).natAbs ≤ a.natAbs := by rw [h]; exact Nat.div_le_self _ _
  omega
theorem tmod_bound {a b : Int} : -(a.natAbs : Int) ≤ a.tmod b ∧ a.tmod b ≤ a.natAbs := by
  have h := Int.natAbs_tmod a b
  have h2 : (a.tmod b).natAbs ≤ a.natAbs := by rw [h]; exact Nat.mod_le _ _
  omega
theorem tdiv_in64 {a b : Int} (ha : wf64 a) (h : b ≠ -1) : -9223372036854775808 ≤ a.tdiv b ∧ a.tdiv b ≤ 9223372036854775807 := by
  unfold wf64 at ha
  have h0 := tdiv_bound (a := a) (b := b)
  by_cases hm : a = -9223372036854775808
  · have hn := Int.natAbs_tdiv a b
    by_cases hb0 : b = 0
    · subst hb0; simp
    · by_cases hb1 : b = 1
      · subst hb1; rw [Int.tdiv_one]; omega
      · have h2 : 2 ≤ b.natAbs := by omega
        have h3 : a.natAbs.div b.natAbs ≤ a.natAbs / 2 := Nat.div_le_div_left h2 (by omega)
        have h4 : (a.tdiv b).natAbs ≤ a.natAbs / 2 := by rw [hn]; exact h3
        omega
  · omega
theorem div_in (p q : Nat) (a b : Int) (w : World) (ha : wf64 a) (hb : wf64 b) (hb0 : b ≠ 0) (hp : w.cell? ⟨p, 0, none⟩ = some (.int .i64 b)) (hq : w.cell? ⟨q, 0, none⟩ = some (.int .i64 a)) :
    ∃ n ex, limB n ex false = limI (a.tdiv b) ∧ Calls Tryd.prog 27 #[.pointer (some ⟨p, 0, none⟩), .pointer (some ⟨q, 0, none⟩)] w (TriPost w n ex false) := by
  by_cases h1 : b = -1
  · subst h1
    have ht : a.tdiv (-1) = -a := by rw [Int.tdiv_neg, Int.tdiv_one]
    by_cases hm : a = -9223372036854775808
    · subst hm
      refine ⟨wrap64 9223372036854775808, false, rfl, ?_⟩
      clear ht
      go_enter Tryd.func27, Tryd.ntmps27
      go_wp2
      go_quiet (fail)
      go_wp2
      go_ret3
      exact ⟨rfl, below_drewN (Below.refl _ _) _⟩
    · refine ⟨-a, true, by rw [ht]; rfl, ?_⟩
      unfold wf64 at ha
      have hme2 : (a == -9223372036854775808) = false := by simpa using hm
      have hme3 : (a != -9223372036854775808) = true := by simpa using hm
      have hr1 : -9223372036854775808 ≤ -a := by omega
      have hr2 : -a ≤ 9223372036854775807 := by omega
      have hw : IntKind.i64.wrap (-a) = -a := by rw [IntKind.wrap_i64]; omega
      clear ht hm
      go_enter Tryd.func27, Tryd.ntmps27
      go_wp2
      go_quiet (fail)
      go_wp2
      go_ret3
      exact ⟨rfl, below_drewN (Below.refl _ _) _⟩
  · refine ⟨a.tdiv b, true, rfl, ?_⟩
    have hr := tdiv_in64 ha h1
    have hr1 := hr.1
    have hr2 := hr.2
    have hw : wrap64 (a.tdiv b) = a.tdiv b := by unfold wrap64; omega
    have d1 : (b == -1) = false := by simpa using h1
    have d2 : (b == 0) = false := by simpa using hb0
    clear h1 ha hb hr
    go_enter Tryd.func27, Tryd.ntmps27
    go_wp2
    go_ret3
    exact ⟨rfl, Below.refl _ _⟩
theorem mod_in (p q : Nat) (a b : Int) (w : World) (ha : wf64 a) (hb : wf64 b) (hb0 : b ≠ 0) (hp : w.cell? ⟨p, 0, none⟩ = some (.int .i64 b)) (hq : w.cell? ⟨q, 0, none⟩ = some (.int .i64 a)) :
    Calls Tryd.prog 30 #[.pointer (some ⟨p, 0, none⟩), .pointer (some ⟨q, 0, none⟩)] w (TriPost w (a.tmod b) true false) := by
  by_cases h1 : b = -1
  · subst h1
    have ht : a.tmod (-1) = 0 := by rw [Int.tmod_neg, Int.tmod_one]
    rw [ht]
    clear ht
    go_enter Tryd.func30, Tryd.ntmps30
    go_wp2
    go_ret3
    exact ⟨rfl, Below.refl _ _⟩
  · have hr := tmod_bound (a := a) (b := b)
    have hr1 : -9223372036854775808 ≤ a.tmod b := by
      have hn := Int.natAbs_tmod a b
      unfold wf64 at ha hb
      have : (a.tmod b).natAbs ≤ 9223372036854775808 := by rw [hn]; have := Nat.mod_le a.natAbs b.natAbs; omega
      omega
    have hr2 : a.tmod b ≤ 9223372036854775807 := by
      have hn := Int.natAbs_tmod a b
      unfold wf64 at ha hb
      have hbp : 0 < b.natAbs := by omega
      have h5 := Nat.mod_lt a.natAbs hbp
      have : (a.tmod b).natAbs < 9223372036854775808 := by rw [hn]; omega
      omega
    have hw : wrap64 (a.tmod b) = a.tmod b := by unfold wrap64; omega
    have d1 : (b == -1) = false := by simpa using h1
    have d2 : (b == 0) = false := by simpa using hb0
    clear h1 ha hb hr
    go_enter Tryd.func30, Tryd.ntmps30
    go_wp2
    go_ret3
    exact ⟨rfl, Below.refl _ _⟩
def TwoPost (w : World) (n : Int) (ok : Bool) (e : Ending) (w' : World) : Prop := e = .returned (.tuple #[.int .i64 n, .bool ok]) ∧ Below w.heap.size w w'
theorem div_any (a b : Int) (w : World) (ha : wf64 a) (hb : wf64 b) : Calls Tryd.prog 11 #[.int .i64 a, .int .i64 b] w (TwoPost w (if b = 0 then 0 else limI (a.tdiv b)) (decide (b ≠ 0))) := by
  have hmf : ∀ (fn : Fn) (first cap : Array Value) (w : World), (Instr.makeFunc fn first cap).run Tryd.prog w = .ok (.func fn first cap) w := fun _ _ _ _ => rfl
  obtain ⟨W, hW⟩ : ∃ W, W = (w.alloc (.cells #[.int .i64 a] 3)).alloc (.cells #[.int .i64 b] 3) := ⟨_, rfl⟩
  have hbW : Below w.heap.size w W := by rw [hW]; exact ((Below.refl _ _).alloc (Nat.le_refl _) _).alloc (by simp) _
  by_cases h0 : b = 0
  · subst h0
    clear hW
    go_enter Tryd.func11, Tryd.ntmps11
    go_wp2
    go_ret2
    exact ⟨rfl, ((Below.refl _ _).alloc (Nat.le_refl _) _).alloc (by simp) _⟩
  · have hp : W.cell? ⟨w.heap.size, 0, none⟩ = some (.int .i64 a) := by rw [hW]; exact two_old1 w _ _ 3 3
    have hq : W.cell? ⟨w.heap.size + 1, 0, none⟩ = some (.int .i64 b) := by rw [hW]; exact two_new1 w _ _ 3 3
    obtain ⟨n, ex, hn, hc⟩ := div_in (w.heap.size + 1) w.heap.size a b W ha hb h0 hq hp
    have c := lim27 _ _ _ _ _ _ hc


    clear hc hp hq
    go_enter Tryd.func11, Tryd.ntmps11
    go_wp2_with fail
    rw [← hW]
    clear hW
    refine (Calls.mono c ?_)
    rintro e w1 ⟨rfl, hb1⟩
    go_wp2
    go_ret2
    exact ⟨by rfl, hbW.trans (hb1.mono hbW.size)⟩
theorem mod_any (a b : Int) (w : World) (ha : wf64 a) (hb : wf64 b) : Calls Tryd.prog 13 #[.int .i64 a, .int .i64 b] w (TwoPost w (if b = 0 then 0 else limI (a.tmod b)) (decide (b ≠ 0))) := by
  have hmf : ∀ (fn : Fn) (first cap : Array Value) (w : World), (Instr.makeFunc fn first cap).run Tryd.prog w = .ok (.func fn first cap) w := fun _ _ _ _ => rfl
  obtain ⟨W, hW⟩ : ∃ W, W = (w.alloc (.cells #[.int .i64 a] 3)).alloc (.cells #[.int .i64 b] 3) := ⟨_, rfl⟩
  have hbW : Below w.heap.size w W := by rw [hW]; exact ((Below.refl _ _).alloc (Nat.le_refl _) _).alloc (by simp) _
  by_cases h0 : b = 0
  · subst h0
    clear hW
    go_enter Tryd.func13, Tryd.ntmps13
    go_wp2
    go_ret2
    exact ⟨rfl, ((Below.refl _ _).alloc (Nat.le_refl _) _).alloc (by simp) _⟩
  · have hp : W.cell? ⟨w.heap.size, 0, none⟩ = some (.int .i64 a) := by rw [hW]; exact two_old1 w _ _ 3 3
    have hq : W.cell? ⟨w.heap.size + 1, 0, none⟩ = some (.int .i64 b) := by rw [hW]; exact two_new1 w _ _ 3 3
    have hc := mod_in (w.heap.size + 1) w.heap.size a b W ha hb h0 hq hp
    have c := lim30 _ _ _ _ _ _ hc


    clear hc hp hq
    go_enter Tryd.func13, Tryd.ntmps13
    go_wp2_with fail
    rw [← hW]
    clear hW
    refine (Calls.mono c ?_)
    rintro e w1 ⟨rfl, hb1⟩
    go_wp2
    go_ret2
    exact ⟨by rfl, hbW.trans (hb1.mono hbW.size)⟩
end Go.Proofs.YthbnjlpiehlcfaaDoor
