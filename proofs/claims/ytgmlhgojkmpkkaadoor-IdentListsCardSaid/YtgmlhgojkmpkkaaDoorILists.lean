/- IdentLists, walked: it answers true. -/
import Derived.Test.YtgmlhgojkmpkkaaDoorSmallI
namespace Go.Proofs.YtgmlhgojkmpkkaaDoor
open Go.ChangeShapes Go.WideShapes Go.ChangeAt Go.RowKit Go.Lib
set_option linter.unusedVariables false

set_option maxRecDepth 100000 in
set_option maxHeartbeats 2000000 in
theorem ilists_any (l : List (List UInt8)) (A : Option Addr) (C : Nat) (w : World) (hl : RowAt w A (strs l)) (hn : l.length ≤ 9223372036854775807) (hx : ∀ x, x ∈ l → x.length ≤ 9223372036854775807) (hL : LaidA w) : Calls Tryd.prog 4 #[.slice A l.length C] w (BoolPost w true) := by
  have cs := fun W hW => small_any W hW
  have hb0 := Below.refl w.heap.size w
  by_cases h : 100 < l.length
  · have d1 : decide (100 < (l.length : Int)) = true := decide_eq_true (by omega)
    clear h
    go_enter Tryd.func4, Tryd.ntmps4
    go_wp2_with fail
    refine Calls.mono (cs _ hL) ?_
    rintro e w1 ⟨rfl, hb1⟩
    go_wp2
    go_ret
    exact ⟨rfl, hb1⟩
  · have d1 : decide (100 < (l.length : Int)) = false := decide_eq_false (by omega)
    go_enter Tryd.func4, Tryd.ntmps4
    go_wp2_with fail
    refine Calls.mono (cs _ hL) ?_
    rintro e w1 ⟨rfl, hb1⟩
    have hl1 := hl.below hb1
    clear hL cs hb0
    go_wp2
    go_loop [4] (fun v => ∃ k : Nat, v = .int .i64 k ∧ k ≤ l.length ∧ Hid (∀ x, x ∈ l.take k → x.length ≤ 100)) (fun v => l.length - (intOf v).toNat)
    case atStart => exact ⟨0, rfl, by omega, fun x hx => by simp at hx⟩
    case round =>
      obtain ⟨k, rfl, hk, hall⟩ := hrel
      by_cases hlt : k < l.length
      · obtain ⟨b, o, hA, hcell⟩ := hl1 (by rw [strs_length]; omega)
        have hc0 := hcell k _ (strs_get (List.getElem?_eq_getElem hlt))
        have hsz := bs_size (l[k]'hlt)
        have hnext : Hid ((l[k]'hlt).length ≤ 100 → ∀ x, x ∈ l.take (k + 1) → x.length ≤ 100) := by
          intro h x hx
          rw [List.take_succ_eq_append_getElem hlt] at hx
          rcases List.mem_append.1 hx with hx | hx
          · exact hall.out x hx
          · rw [List.mem_singleton.1 hx]; exact h
        have hxk := hx (l[k]'hlt) (List.getElem_mem hlt)
        clear hcell
        generalize (l[k]'hlt) = x at *
        subst hA
        by_cases hx1 : 100 < x.length
        · have d2 : decide (100 < (x.length : Int)) = true := decide_eq_true (by omega)
          clear hx1 hnext
          go_wp2
          go_ret
          exact ⟨rfl, hb1⟩
        · have d2 : decide (100 < (x.length : Int)) = false := decide_eq_false (by omega)
          have hn1 := Lib.hid (hnext.out (by omega))
          clear hx1 hnext
          go_wp2
          go_round
          case rel => exact ⟨k + 1, by go_num, by omega, hn1⟩
          case measure => simp [intOf]; omega
      · have hall2 : ∀ x, x ∈ l → x.length ≤ 281474976 := fun x hx => by
          have h1 := hall.out x
          rw [List.take_of_length_le (by omega)] at h1
          have := h1 hx
          omega
        have c1 := fun W (hW : RowAt W A (strs l)) => ids_any l A C W hW (by omega) hall2
        have c2 := fun W (hW : RowAt W A (strs l)) => rids_any l A C W hW (by omega) hall2
        have t1 : (idsB l == idsB l) = true := by simp
        have HL1 := Lib.hid hl1
        clear hall2 hx hl1 hl
        generalize idsB l = R at *
        go_wp2_with fail
        (with_reducible refine Calls.mono (c1 _ HL1.out) ?_)
        rintro e w2 ⟨rfl, hbx⟩
        have hl2 := HL1.out.below hbx
        have hb2 := hb1.trans (hbx.mono hb1.size)
        clear hbx
        go_wp2_with fail
        (with_reducible refine Calls.mono (c2 _ hl2) ?_)
        rintro e w3 ⟨rfl, n, rfl⟩
        clear hl2
        go_wp2
        go_ret
        exact ⟨rfl, below_drewN hb2 n⟩
end Go.Proofs.YtgmlhgojkmpkkaaDoor
