/- Sort, differ of no cards, at any address. -/
import Derived.Test.YtjcaaiikccnpeaaDoorDifCount
namespace Go.Proofs.YtjcaaiikccnpeaaDoor
open Go.ChangeShapes Go.WideShapes Go.ChangeAt Go.RowKit Go.Lib
set_option linter.unusedVariables false

set_option maxRecDepth 100000 in
set_option maxHeartbeats 1000000 in
theorem clone_zero (a : Addr) (C : Nat) (w : World) : Calls Tryd.prog 43 #[.slice (some a) 0 C] w (fun e w' => ∃ g c, e = .returned (.slice g 0 c) ∧ Below w.heap.size w w') := by
  obtain ⟨i0, hi, hz0, hz1, hz2⟩ := info_parts infoCard2
  have hnil : ∀ W, (binOp .eql 35 (.slice (some a) 0 C) (.slice none 0 0)).run Tryd.prog W = .ok (.bool false) W := fun W => Lib.run_eql_slice_nil W 35 38 (some a) 0 C 0 0 Tryd.underlying35
  have hfr : Hid ((w.alloc (.cells #[] 38)).ownsRow w.heap.size 38 6 (.slice (some ⟨w.heap.size, 0, none⟩) 0 0) 0 []) :=
    ⟨by simp, .inr ⟨w.heap.size, 0, #[], rfl, Nat.le_refl _, heap_alloc_new w _, by simp, by unfold maxLen; omega, by simp, by simp⟩⟩
  go_enter Tryd.func43, Tryd.ntmps43
  go_wp2_with (at_builtin; refine wpList_append_own _ rfl _ _ 35 rfl w.heap.size 38 i0 (.agg (cellsC noC)) 6 72 Tryd.underlying35 hi hz0 hz1 hz2 rfl (by decide) _ _ _ rfl hfr.out a 0 C [] rfl rfl (fun j u h => by simp at h) (fun u h => by simp at h) ?c3 ?c4 ?c5 ?_)
  case c3 => unfold maxLen; omega
  case c4 => omega
  case c5 => simp
  intro v' w' hown hgr hne
  have hbel : Below w.heap.size w w' := ((Below.refl _ _).alloc (Nat.le_refl _) _).grown hgr (by simp) (fun x hx => (hfr.out.lt x hx).1)
  try simp only [Nat.zero_add, List.nil_append] at hown
  obtain ⟨A, c, rfl⟩ : ∃ A c, v' = .slice A 0 c := by
    rcases hown.2 with ⟨h1, h0⟩ | ⟨g, cap, cur, hv, _⟩
    · exact ⟨none, 0, h1⟩
    · exact ⟨_, cap, hv⟩
  go_wp2
  go_ret
  exact ⟨A, c, rfl, hbel⟩
def ZeroP (w : World) (e : Ending) (w' : World) : Prop := ∃ A C, e = .returned (.slice A 0 C) ∧ Below w.heap.size w w'
theorem sort_zero (A : Option Addr) (C : Nat) (w : World) : Calls Tryd.prog 21 #[.slice A 0 C] w (ZeroP w) := by
  cases A with
  | none => exact (sort_none C w).mono fun e w' ⟨A, C, h1, _, h3⟩ => ⟨A, C, h1, h3⟩
  | some a =>
    have c1 := clone_zero a C w
    have c2 := fun A C W => sortfn_nil A C W
    go_enter Tryd.func21, Tryd.ntmps21
    go_wp2_with fail
    refine c1.mono ?_
    rintro e w1 ⟨A, c, rfl, hb1⟩
    go_wp2_with fail
    refine (c2 _ _ _).mono ?_
    rintro e w2 ⟨rfl, hb2⟩
    have hb := hb1.trans (hb2.mono hb1.size)
    go_wp2
    go_ret
    exact ⟨A, c, rfl, hb⟩
theorem differ_zero (A : Option Addr) (C : Nat) (w : World) : Calls Tryd.prog 23 #[.slice A 0 C] w (BoolPost w true) := by
  go_enter Tryd.func23, Tryd.ntmps23
  go_wp2
  go_loopw [3] (fun v3 wr => v3 = .int .i64 0 ∧ wr = w) (fun _ _ => 0)
  case atStart => exact ⟨rfl, rfl⟩
  case round =>
    obtain ⟨rfl, rfl⟩ := hrel
    go_wp2
    go_ret
    exact ⟨rfl, Below.refl _ _⟩
end Go.Proofs.YtjcaaiikccnpeaaDoor
