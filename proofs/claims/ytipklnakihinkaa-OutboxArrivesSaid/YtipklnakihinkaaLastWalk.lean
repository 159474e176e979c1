/- few and last, walked. -/
import Derived.Test.YtipklnakihinkaaBox7
import Derived.Test.YtipklnakihinkaaLastModel
namespace Go.Proofs.Ytipklnakihinkaa
open Go.ChangeShapes Go.WideShapes Go.ChangeAt Go.RowKit
set_option linter.unusedVariables false

theorem few_any (ends : List (List Int)) (A : Option Addr) (C : Nat) (ok : Nat → Prop) (w : World) (he : RowsAt w ok A ends) (hel : ends.length ≤ 9223372036854775807) :
    Calls Try.prog 8 #[.slice A ends.length C] w fun e w' => e = .returned (.bool (fewB ends)) ∧ w = w' := by
  unfold fewB
  by_cases h25 : 25 < ends.length
  · have e : (decide (ends.length ≤ 25) && ends.all (fun l => decide (l.length ≤ 40))) = false := by simp; omega
    rw [e]
    clear e he
    go_enter Try.func8, Try.ntmps8
    go_wp2
    go_ret
    exact ⟨rfl, rfl⟩
  · have e : (decide (ends.length ≤ 25) && ends.all (fun l => decide (l.length ≤ 40))) = ends.all (fun l => decide (l.length ≤ 40)) := by
      have : ends.length ≤ 25 := by omega
      simp [this]
    rw [e]
    clear e
    go_enter Try.func8, Try.ntmps8
    go_wp2
    go_loop [3] (fun i => ∃ k : Nat, i = .int .i64 k ∧ k ≤ ends.length ∧ ∀ l, l ∈ ends.take k → l.length ≤ 40) (fun i => ends.length - (intOf i).toNat)
    case atStart => exact ⟨0, rfl, by omega, by simp⟩
    case round =>
      obtain ⟨k, rfl, hk, hall⟩ := hrel
      by_cases hlt : k < ends.length
      · obtain ⟨b, o, rfl, _, hrow⟩ := he (by omega)
        obtain ⟨v, hc, ra, rc, rfl, _⟩ := hrow k ends[k] (List.getElem?_eq_getElem hlt)
        have HA := Lib.hid hall
        have HM := Lib.hid (List.getElem_mem hlt)
        have HT := Lib.hid (List.take_succ_eq_append_getElem hlt)
        generalize ends[k] = l at *
        clear hall hrow he
        by_cases h40 : 40 < l.length
        · have hF : Hid (ends.all (fun l => decide (l.length ≤ 40)) = false) := by
            unfold Hid
            rw [List.all_eq_false]
            exact ⟨l, HM.out, by simp; omega⟩
          go_wp2
          go_ret
          rw [hF.out]
          exact ⟨rfl, rfl⟩
        · go_wp2
          go_round
          case rel =>
            refine ⟨k + 1, by go_num, by omega, fun x hx => ?_⟩
            rw [HT.out, List.mem_append] at hx
            rcases hx with hx | hx
            · exact HA.out x hx
            · obtain rfl : x = l := by simpa using hx
              omega
          case measure => simp [intOf]; omega
      · have hF : Hid (ends.all (fun l => decide (l.length ≤ 40)) = true) := by
          unfold Hid
          rw [List.all_eq_true]
          intro x hx
          have := hall x (by rw [List.take_of_length_le (by omega)]; exact hx)
          simpa using this
        clear hall he
        go_wp2
        go_ret
        rw [hF.out]
        exact ⟨rfl, rfl⟩

def LastPost (w : World) (l : List Int) (e : Ending) (w' : World) : Prop := e = .returned (.int .i64 (lastI l)) ∧ w = w'
theorem last_any (l : List Int) (v : Value) (ok : Nat → Prop) (w : World) (hv : IntsAt w ok v l) (hlen : l.length ≤ 9223372036854775807) (hwf : ∀ x, x ∈ l → wf64 x) :
    Calls Try.prog 11 #[v] w (LastPost w l) := by
  obtain ⟨a, c, rfl, hx⟩ := hv
  go_enter Try.func11, Try.ntmps11
  go_wp2
  go_loop [3, 4] (fun a m => ∃ (r : Int) (more : Bool), a = .int .i64 r ∧ m = .bool more ∧ Reach l r ∧ (more = false → Stuck l r)) (fun a m => 2 * above l (intOf a) + (match m with | .bool true => 1 | _ => 0))
  case atStart => exact ⟨0, true, rfl, rfl, Reach.zero l, by simp⟩
  case round =>
    obtain ⟨r, more, rfl, rfl, hr, hst⟩ := hrel
    cases more
    · have hF := Lib.hid (lastI_eq ⟨hr, hst rfl⟩)
      clear hr hst hx
      go_wp2
      go_ret
      unfold LastPost
      rw [hF.out]
      exact ⟨rfl, rfl⟩
    · have hr0 := hr.nonneg
      have HR := Lib.hid hr
      clear hst hr
      go_wp2
      go_loop [3, 4, 5] (fun a m i => ∃ (q : Int) (b : Bool) (j : Nat), a = .int .i64 q ∧ m = .bool b ∧ i = .int .i64 j ∧ j ≤ l.length ∧ Reach l q ∧ (b = false → q = r ∧ ∀ e, e ∈ l.take j → r < e → 64 < e - r) ∧ (b = true → r < q ∧ q ∈ l)) (fun _ _ i => l.length - (intOf i).toNat)
      case atStart => exact ⟨r, false, 0, rfl, rfl, rfl, by omega, HR.out, fun _ => ⟨rfl, by simp⟩, by simp⟩
      case round =>
        obtain ⟨q, b, j, rfl, rfl, rfl, hj, hq, hf, ht⟩ := hrel
        have hq0 := hq.nonneg
        by_cases hjl : j < l.length
        · obtain ⟨ib, io, rfl, _, hcell⟩ := hx (by omega)
          have hce := hcell j l[j] (List.getElem?_eq_getElem hjl)
          have hwe := hwf l[j] (List.getElem_mem hjl)
          unfold wf64 at hwe
          obtain ⟨we1, we2⟩ := hwe
          have HM := Lib.hid (List.getElem_mem hjl)
          have HT := Lib.hid (List.take_succ_eq_append_getElem hjl)
          generalize l[j] = e at *
          have HQ := Lib.hid hq
          have HF := Lib.hid hf
          have HTT := Lib.hid ht
          clear hq hf ht hcell hx hwf
          by_cases t1 : q < e
          · by_cases t2 : e - q ≤ 64
            · have hnew : Hid (Reach l e ∧ r < e) := ⟨HQ.out.step HM.out t1 t2, by
                cases b
                · have := (HF.out rfl).1; omega
                · have := (HTT.out rfl).1; omega⟩
              go_wp2
              go_round
              case rel => exact ⟨e, true, j + 1, rfl, rfl, by go_num, by omega, hnew.out.1, by simp, fun _ => ⟨hnew.out.2, HM.out⟩⟩
              case measure => simp [intOf]; omega
            · go_wp2
              go_round
              case rel =>
                refine ⟨q, b, j + 1, rfl, rfl, by go_num, by omega, HQ.out, fun hb => ⟨(HF.out hb).1, fun x hx => ?_⟩, HTT.out⟩
                rw [HT.out, List.mem_append] at hx
                rcases hx with hx | hx
                · exact (HF.out hb).2 x hx
                · obtain rfl : x = e := by simpa using hx
                  have := (HF.out hb).1
                  omega
              case measure => simp [intOf]; omega
          · go_wp2
            go_round
            case rel =>
              refine ⟨q, b, j + 1, rfl, rfl, by go_num, by omega, HQ.out, fun hb => ⟨(HF.out hb).1, fun x hx => ?_⟩, HTT.out⟩
              rw [HT.out, List.mem_append] at hx
              rcases hx with hx | hx
              · exact (HF.out hb).2 x hx
              · obtain rfl : x = e := by simpa using hx
                have := (HF.out hb).1
                omega
            case measure => simp [intOf]; omega
        · have H : Hid (Reach l q ∧ (b = false → Stuck l q) ∧ 2 * above l q + (if b then 1 else 0) < 2 * above l r + 1) := by
            refine ⟨hq, fun hb => ?_, ?_⟩
            · obtain ⟨rfl, h⟩ := hf hb
              rw [List.take_of_length_le (by omega)] at h
              exact h
            · cases b
              · obtain ⟨rfl, _⟩ := hf rfl; simp
              · obtain ⟨h1, h2⟩ := ht rfl
                have := above_lt h1 l h2
                simp; omega
          clear hq hf ht hx
          go_wp2
          go_round
          case rel => exact ⟨q, b, rfl, rfl, H.out.1, H.out.2.1⟩
          case measure =>
            have := H.out.2.2
            cases b <;> simpa [intOf] using this
end Go.Proofs.Ytipklnakihinkaa
