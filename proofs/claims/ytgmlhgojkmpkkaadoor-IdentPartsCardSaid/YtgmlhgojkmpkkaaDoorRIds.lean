/- The reference's Ids, walked. -/
import Derived.Test.YtgmlhgojkmpkkaaDoorIdsWalk
namespace Go.Proofs.YtgmlhgojkmpkkaaDoor
open Go.ChangeShapes Go.WideShapes Go.ChangeAt Go.RowKit Go.Lib
set_option linter.unusedVariables false

theorem quiet_same0 {P : Program} {f : FuncId} {args : Array Value} {w : World} {n : Nat} {v : Value}
    (h : Calls P f args (w.drewN n) (Same v (w.drewN n))) :
    Calls P f args (w.drewN n) fun e w'' => e = .returned v ∧ ∃ m, w'' = w.drewN m :=
  h.mono fun _ _ ⟨he, hm⟩ => ⟨he, n, hm.symm⟩
theorem RowAt.drewN {w : World} {A : Option Addr} {xs : List Value} (h : RowAt w A xs) (n : Nat) : RowAt (w.drewN n) A xs := h
set_option maxRecDepth 100000 in
set_option maxHeartbeats 1000000 in
theorem rids_any (l : List (List UInt8)) (A : Option Addr) (C : Nat) (w : World) (hl : RowAt w A (strs l)) (hn : l.length ≤ 10000000) (hx : ∀ x, x ∈ l → x.length ≤ 281474976) : Calls Tryd.prog 21 #[.slice A l.length C] w (Drew (.bool (idsB l)) w) := by
  go_enter Tryd.func21, Tryd.ntmps21
  go_wp2
  go_loopw [3] (fun v wr => ∃ k : Nat, v = .int .i64 k ∧ k ≤ l.length ∧ Hid (chainB (l.take k) = true) ∧ Hid (∃ n, wr = w.drewN n)) (fun v _ => l.length - (intOf v).toNat)
  case atStart => exact ⟨0, rfl, by omega, rfl, ⟨0, rfl⟩⟩
  case round =>
    obtain ⟨k, rfl, hk, hch, hdr⟩ := hrel
    have hlr : RowAt wr A (strs l) := by obtain ⟨n, e⟩ := hdr.out; rw [e]; exact hl.drewN n
    have hdr2 : ∀ m, Hid (∃ n, wr.drewN m = w.drewN n) := fun m => by obtain ⟨n, e⟩ := hdr.out; exact ⟨n + m, by rw [e, World.drewN_drewN]⟩
    by_cases hlt : k < l.length
    · obtain ⟨b, o, hA, hcell⟩ := hlr (by rw [strs_length]; omega)
      have hc0 := hcell k _ (strs_get (List.getElem?_eq_getElem hlt))
      have hxl := hx (l[k]'hlt) (List.getElem_mem hlt)
      have cr := fun W => rright_any (l[k]'hlt) W (by omega)
      have hgood : Hid (rightB (l[k]'hlt) = true → (∀ h0 : 0 < k, ltB (l[k - 1]'(by omega)) (l[k]'hlt) = true) → chainB (l.take (k + 1)) = true) := fun h1 h2 => chain_step hlt hch.out h1 h2
      have hbad : Hid (rightB (l[k]'hlt) = false → idsB l = false) := fun h => by unfold idsB; rw [chain_bad_right hlt h]; simp
      have bk0 : (k : Int) < (l.length : Int) := by omega
      cases hrb : rightB (l[k]'hlt) with
      | false =>
        have hR := Lib.hid (hbad.out hrb)
        rw [hrb] at cr
        clear hgood hbad hcell
        generalize (l[k]'hlt) = x at *
        clear hrb
        subst hA
        go_wp2
        go_quiet ((go_at_call 15; with_reducible exact quiet_same0 (cr _)))
        go_wp2
        go_ret
        exact ⟨by rw [hR.out]; first | done | rfl, (hdr2 _).out⟩
      | true =>
        rw [hrb] at cr
        by_cases hk0 : k = 0
        · have hn1 : Hid (chainB (l.take (k + 1)) = true) := hgood.out hrb (fun h => absurd hk0 (by omega))
          have d0 : decide (0 < (k : Int)) = false := decide_eq_false (by omega)
          have d0' : decide (0 < k) = false := decide_eq_false (by omega)
          clear hgood hbad hcell
          generalize (l[k]'hlt) = x at *
          clear hrb hk0
          subst hA
          go_wp2
          go_quiet ((go_at_call 15; with_reducible exact quiet_same0 (cr _)))
          go_wp2
          go_roundw
          case rel => exact ⟨k + 1, by go_num, by omega, hn1, hdr2 _⟩
          case measure => simp [intOf]; omega
        · have hk1 : 0 < k := by omega
          have hlt1 : k - 1 < l.length := by omega
          have hc1 := hcell (k - 1) _ (strs_get (List.getElem?_eq_getElem hlt1))
          have hn1 : Hid (ltB (l[k - 1]'hlt1) (l[k]'hlt) = true → chainB (l.take (k + 1)) = true) := fun h => hgood.out hrb (fun _ => h)
          have hb1 : Hid (ltB (l[k - 1]'hlt1) (l[k]'hlt) = false → idsB l = false) := fun h => by unfold idsB; rw [chain_bad_lt hlt hk1 h]; simp
          have e1 := bs_toList (l[k]'hlt)
          have e2 := bs_toList (l[k - 1]'hlt1)
          clear hgood hbad hcell
          generalize (l[k]'hlt) = x at *
          generalize (l[k - 1]'hlt1) = y at *
          clear hrb hk0
          subst hA
          obtain ⟨m, hm⟩ : ∃ m : Nat, (k : Int) - 1 = m := ⟨k - 1, by omega⟩
          rw [show k - 1 = m by omega] at hc1
          have wk : IntKind.i64.wrap (m : Int) = (m : Int) := IntWalk.i64_in _ (by omega)
          have bk2 : (m : Int) < (l.length : Int) := by omega
          have bk3 : m < l.length := by omega
          have d0 : decide (0 < (k : Int)) = true := decide_eq_true (by omega)
          cases hly : ltB y x with
          | true =>
            have hn2 := Lib.hid (hn1.out hly)
            have g1 : Op.bytesLess y x = true := hly
            clear hly hn1 hb1
            go_wp2
            go_quiet ((go_at_call 15; with_reducible exact quiet_same0 (cr _)))
            clear hm
            go_wp2
            go_roundw
            case rel => exact ⟨k + 1, by go_num, by omega, hn2, hdr2 _⟩
            case measure => simp [intOf]; omega
          | false =>
            have hR := Lib.hid (hb1.out hly)
            have g1 : Op.bytesLess y x = false := hly
            clear hly hn1 hb1
            go_wp2
            go_quiet ((go_at_call 15; with_reducible exact quiet_same0 (cr _)))
            go_wp2
            go_ret
            exact ⟨by rw [hR.out]; first | done | rfl, (hdr2 _).out⟩
    · have hR : Hid (idsB l = decide ((l.length : Int) ≤ 64)) := by
        have := hch.out
        rw [List.take_of_length_le (by omega)] at this
        unfold Hid idsB
        rw [this, Bool.and_true, Bool.eq_iff_iff]
        simp
        omega
      go_wp2
      go_ret
      exact ⟨by rw [hR.out]; first | done | rfl, hdr.out⟩
end Go.Proofs.YtgmlhgojkmpkkaaDoor
