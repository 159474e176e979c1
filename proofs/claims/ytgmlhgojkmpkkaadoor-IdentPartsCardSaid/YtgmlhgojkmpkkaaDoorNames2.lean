/- Name, walked. -/
import Derived.Test.YtgmlhgojkmpkkaaDoorNames
namespace Go.Proofs.YtgmlhgojkmpkkaaDoor
open Go.ChangeShapes Go.WideShapes Go.ChangeAt Go.RowKit Go.Lib
set_option linter.unusedVariables false

theorem byte_u8 (c : UInt8) : c.toNat < 256 := UInt8.toNat_lt c
set_option maxRecDepth 100000 in
set_option maxHeartbeats 2000000 in
theorem name_any (l : List UInt8) (w : World) (hl : l.length ≤ 281474976710656) : Calls Tryd.prog 16 #[.string (bs l)] w (BoolPost w (nameB l)) := by
  have hs := bs_size l
  have hlist := bs_toList l
  by_cases h0 : l = []
  · have hR : Hid (nameB l = false) := by subst h0; rfl
    have t0 : (l == []) = true := by subst h0; rfl
    have t1 : l.isEmpty = true := by subst h0; rfl
    clear h0
    go_enter Tryd.func16, Tryd.ntmps16
    go_wp2
    go_ret
    exact ⟨by rw [hR.out]; first | done | rfl, Below.refl _ _⟩
  have h1 : 0 < l.length := List.length_pos_iff.2 h0
  have hne : l.isEmpty = false := by cases l with | nil => exact absurd rfl h0 | cons a r => rfl
  have t0 : (l == []) = false := by cases l with | nil => exact absurd rfl h0 | cons a r => rfl
  by_cases h24 : l.length ≤ 24
  · have d1 : decide (24 < (l.length : Int)) = false := decide_eq_false (by omega)
    have HP : Hid (nameB l = preB l) := by unfold Hid; rw [nameB_pre, hne, decide_eq_true h24]; simp
    clear h0
    go_enter Tryd.func16, Tryd.ntmps16
    go_wp2
    go_loopw [3, 4, 5] (fun v3 v4 v5 wr => ∃ pos : Nat, pos ≤ l.length ∧ wr.heap[w.heap.size]? = some (.stringIter (bs l) pos) ∧ Below w.heap.size w wr ∧ Hid (preB (l.take pos) = true)) (fun _ _ _ wr => l.length - wr.iterPos w.heap.size)
    case atStart => exact ⟨0, by omega, World.iter_heap w (bs l) 0, (Below.refl _ _).alloc (Nat.le_refl _) _, rfl⟩
    case round =>
      obtain ⟨pos, hpos, hit, hbw, hall⟩ := hrel
      have hpos0 := Lib.hid (iterPos_of hit)
      by_cases hp : pos < l.length
      · obtain ⟨z, wd, e1, e2, z0, hz⟩ := dec_at l pos hp
        have hnx := next_at wr w.heap.size l pos hit hp e1 e2
        have hit2 := Lib.iterAt_heap wr w.heap.size (bs l) pos (pos + wd) hit
        have hbw2 := Lib.below_iterAt hbw (k := w.heap.size) (Nat.le_refl _) (bs l) (pos + wd)
        clear e1 e2
        generalize wr.iterAt w.heap.size (bs l) (pos + wd) = W1 at *
        have HIT := Lib.hid hit2
        clear hit2 hit
        by_cases hlet : 97 ≤ z ∧ z ≤ 122
        · obtain ⟨ha, hb⟩ := hlet
          rcases hz with ⟨_, rfl, ez⟩ | ⟨hz, _⟩
          · have hall2 : Hid (preB (l.take (pos + 1)) = true) := by
              unfold Hid
              rcases Nat.eq_zero_or_pos pos with rfl | h
              · rw [pre_take0 hp]; exact (isLc_iff ez).2 ⟨ha, hb⟩
              · rw [pre_take hp h, hall.out, (isNc_iff ez).2 (.inl ⟨ha, hb⟩)]; rfl
            have hm : Hid (W1.iterPos w.heap.size = pos + 1) := iterPos_of HIT.out
            clear ez
            go_wp2
            go_roundw
            case rel => exact ⟨pos + 1, by omega, HIT.out, hbw2, hall2⟩
            case measure => rw [hm.out, hpos0.out]; omega
          · omega
        · -- no letter
          have hno : Hid (pos = 0 → nameB l = false) := by
            intro e
            rw [HP.out]
            subst e
            refine pre_mono (k := 1) ?_
            rw [pre_take0 hp, Bool.eq_false_iff]
            intro hc
            rcases hz with ⟨_, _, ez⟩ | ⟨_, hc2⟩
            · exact hlet ((isLc_iff ez).1 hc)
            · have := (isLc_iff (z := ((l[0]'hp).toNat : Int)) rfl).1 hc; omega
          have hbad : Hid (0 < pos → ¬ ((48 ≤ z ∧ z ≤ 57) ∨ z = 95) → nameB l = false) := by
            intro e hx
            rw [HP.out]
            refine pre_mono (k := pos + 1) ?_
            rw [pre_take hp e, Bool.and_eq_false_iff]
            refine .inr ?_
            rw [Bool.eq_false_iff]
            intro hc
            rcases hz with ⟨_, _, ez⟩ | ⟨_, hc2⟩
            · rcases (isNc_iff ez).1 hc with h | h | h
              · exact hlet h
              · exact hx (.inl h)
              · exact hx (.inr h)
            · have := (isNc_iff (z := ((l[pos]'hp).toNat : Int)) rfl).1 hc; omega
          have hgood : Hid (0 < pos → ((48 ≤ z ∧ z ≤ 57) ∨ z = 95) → preB (l.take (pos + 1)) = true ∧ wd = 1) := by
            intro e hx
            rcases hz with ⟨_, h2, ez⟩ | ⟨h3, _⟩
            · refine ⟨?_, h2⟩
              rw [pre_take hp e, hall.out, (isNc_iff ez).2 (.inr hx)]; rfl
            · omega
          have hl2 : (97 ≤ z ∧ 122 < z) ∨ z < 97 := by omega
          clear hz hlet
          rcases hl2 with ⟨hx, hy⟩ | hx
          · have d2 : decide (z ≤ 122) = false := decide_eq_false (by omega)
            by_cases hp0 : pos = 0
            · have hR : Hid (nameB l = false) := hno.out hp0
              have b0 : ((pos : Int) == 0) = true := by rw [hp0]; rfl
              clear hp0 hp
              go_wp2
              go_ret
              exact ⟨by rw [hR.out]; first | done | rfl, hbw2⟩
            have b0 : ((pos : Int) == 0) = false := by simp; omega
            have hp1 : 0 < pos := by omega
            by_cases hdg : 48 ≤ z ∧ z ≤ 57
            · obtain ⟨ha, hb⟩ := hdg
              have hg := hgood.out hp1 (.inl ⟨ha, hb⟩)
              obtain ⟨hg1, rfl⟩ := hg
              have hall2 := Lib.hid hg1
              have hm : Hid (W1.iterPos w.heap.size = pos + 1) := iterPos_of HIT.out
              have c := fun W => dig_yes z W ha hb
              clear hg1 hp0
              go_wp2_with fail
              refine (c _).mono ?_
              rintro e w' ⟨rfl, rfl⟩
              go_wp2
              go_roundw
              case rel => exact ⟨pos + 1, by omega, HIT.out, hbw2, hall2⟩
              case measure => rw [hm.out, hpos0.out]; omega
            have c := fun W => dig_no z W hdg
            by_cases h95 : z = 95
            · have hg := hgood.out hp1 (.inr h95)
              obtain ⟨hg1, rfl⟩ := hg
              have hall2 := Lib.hid hg1
              have hm : Hid (W1.iterPos w.heap.size = pos + 1) := iterPos_of HIT.out
              have b1 : (z == 95) = true := by rw [h95]; rfl
              have b2 : (z != 95) = false := by rw [h95]; rfl
              clear hg1 hp0 h95 hdg
              go_wp2_with fail
              refine (c _).mono ?_
              rintro e w' ⟨rfl, rfl⟩
              go_wp2
              go_roundw
              case rel => exact ⟨pos + 1, by omega, HIT.out, hbw2, hall2⟩
              case measure => rw [hm.out, hpos0.out]; omega
            have hR : Hid (nameB l = false) := hbad.out hp1 (by omega)
            have b1 : (z == 95) = false := by simp; exact h95
            have b2 : (z != 95) = true := by simp; exact h95
            clear hdg h95 hp0
            go_wp2_with fail
            refine (c _).mono ?_
            rintro e w' ⟨rfl, rfl⟩
            go_wp2
            go_ret
            exact ⟨by rw [hR.out]; first | done | rfl, hbw2⟩
          · have d2 : decide (97 ≤ z) = false := decide_eq_false (by omega)
            by_cases hp0 : pos = 0
            · have hR : Hid (nameB l = false) := hno.out hp0
              have b0 : ((pos : Int) == 0) = true := by rw [hp0]; rfl
              clear hp0 hp
              go_wp2
              go_ret
              exact ⟨by rw [hR.out]; first | done | rfl, hbw2⟩
            have b0 : ((pos : Int) == 0) = false := by simp; omega
            have hp1 : 0 < pos := by omega
            by_cases hdg : 48 ≤ z ∧ z ≤ 57
            · obtain ⟨ha, hb⟩ := hdg
              have hg := hgood.out hp1 (.inl ⟨ha, hb⟩)
              obtain ⟨hg1, rfl⟩ := hg
              have hall2 := Lib.hid hg1
              have hm : Hid (W1.iterPos w.heap.size = pos + 1) := iterPos_of HIT.out
              have c := fun W => dig_yes z W ha hb
              clear hg1 hp0
              go_wp2_with fail
              refine (c _).mono ?_
              rintro e w' ⟨rfl, rfl⟩
              go_wp2
              go_roundw
              case rel => exact ⟨pos + 1, by omega, HIT.out, hbw2, hall2⟩
              case measure => rw [hm.out, hpos0.out]; omega
            have c := fun W => dig_no z W hdg
            by_cases h95 : z = 95
            · have hg := hgood.out hp1 (.inr h95)
              obtain ⟨hg1, rfl⟩ := hg
              have hall2 := Lib.hid hg1
              have hm : Hid (W1.iterPos w.heap.size = pos + 1) := iterPos_of HIT.out
              have b1 : (z == 95) = true := by rw [h95]; rfl
              have b2 : (z != 95) = false := by rw [h95]; rfl
              clear hg1 hp0 h95 hdg
              go_wp2_with fail
              refine (c _).mono ?_
              rintro e w' ⟨rfl, rfl⟩
              go_wp2
              go_roundw
              case rel => exact ⟨pos + 1, by omega, HIT.out, hbw2, hall2⟩
              case measure => rw [hm.out, hpos0.out]; omega
            have hR : Hid (nameB l = false) := hbad.out hp1 (by omega)
            have b1 : (z == 95) = false := by simp; exact h95
            have b2 : (z != 95) = true := by simp; exact h95
            clear hdg h95 hp0
            go_wp2_with fail
            refine (c _).mono ?_
            rintro e w' ⟨rfl, rfl⟩
            go_wp2
            go_ret
            exact ⟨by rw [hR.out]; first | done | rfl, hbw2⟩
      · have hnx : ∀ ty, (Instr.next (.pointer (some ⟨w.heap.size, 0, none⟩)) true ty).run Tryd.prog wr = _ := fun ty => Lib.run_next_end_at wr w.heap.size (bs l) pos ty hit (by rw [bs_size]; exact hp)
        have hR : Hid (nameB l = true) := by
          have := hall.out
          rw [List.take_of_length_le (by omega)] at this
          unfold Hid
          rw [HP.out, this]
        go_wp2
        go_ret
        exact ⟨by rw [hR.out]; first | done | rfl, hbw⟩
  · have d1 : decide (24 < (l.length : Int)) = true := decide_eq_true (by omega)
    have hR : Hid (nameB l = false) := by unfold Hid; rw [nameB_pre, decide_eq_false h24]; simp
    clear h24 h0
    go_enter Tryd.func16, Tryd.ntmps16
    go_wp2
    go_ret
    exact ⟨by rw [hR.out]; first | done | rfl, Below.refl _ _⟩
/-- Handle -/
theorem handle_any (n : List UInt8) (s : Int) (w : World) (hn : n.length ≤ 281474976710656) (hs : wf64 s) (hL : Laid w) : Calls Tryd.prog 18 #[.string (bs n), .int .i64 s] w (StrPost w (handleL n s)) := by
  have cn := name_any n w hn
  cases hb : nameB n with
  | false =>
    rw [hb] at cn
    have hR : Hid (handleL n s = []) := handle_no (by rw [hb]; simp)
    clear hb
    go_enter Tryd.func18, Tryd.ntmps18
    go_wp2_with fail
    refine cn.mono ?_
    rintro e w1 ⟨rfl, hb1⟩
    go_wp2
    go_ret
    exact ⟨by rw [hR.out]; rfl, hb1⟩
  | true =>
    rw [hb] at cn
    have hnl := name_len hb
    by_cases h0 : s < 0
    · have hR : Hid (handleL n s = []) := handle_no (by omega)
      clear hb
      have d0 : decide (s < 0) = true := decide_eq_true h0
      go_enter Tryd.func18, Tryd.ntmps18
      go_wp2_with fail
      refine cn.mono ?_
      rintro e w1 ⟨rfl, hb1⟩
      go_wp2
      go_ret
      exact ⟨by rw [hR.out]; rfl, hb1⟩
    have d0 : decide (s < 0) = false := decide_eq_false h0
    by_cases h20 : s < 20
    · have hR : Hid (handleL n s = n ++ 64 :: itoa s) := handle_yes hb (by omega) h20
      have d1 : decide (20 ≤ s) = false := decide_eq_false (by omega)
      have hil := itoa_length hs.1 hs.2
      have ct := fun (W : World) (hW : Laid W) => text_any s W hs hW
      have a1 := bs_append n [64]
      have a2 := bs_append (n ++ [64]) (itoa s)
      have z1 := bs_size n
      have z2 := bs_size (n ++ [64])
      have z3 := bs_size (itoa s)
      rw [List.length_append, List.length_singleton] at z2
      have n1 : ¬ (9223372036854775807 < n.length + 1) := by omega
      have n2 : ¬ (9223372036854775807 < (bs (n ++ [64])).size + (bs (itoa s)).size) := by rw [z2, z3]; omega
      have e64 : (⟨#[64]⟩ : ByteArray) = bs [64] := rfl
      have z4 := bs_size [64]
      clear hb h0 h20
      generalize itoa s = t at *
      go_enter Tryd.func18, Tryd.ntmps18
      go_wp2_with fail
      refine cn.mono ?_
      rintro e w1 ⟨rfl, hb1⟩
      go_wp2_with fail
      refine (ct _ (hL.below hb1)).mono ?_
      rintro e w2 ⟨rfl, hb2⟩
      go_wp2
      go_ret
      exact ⟨by rw [hR.out]; rfl, hb1.trans (hb2.mono hb1.size)⟩
    · have hR : Hid (handleL n s = []) := handle_no (by omega)
      have d1 : decide (20 ≤ s) = true := decide_eq_true (by omega)
      clear hb h20
      go_enter Tryd.func18, Tryd.ntmps18
      go_wp2_with fail
      refine cn.mono ?_
      rintro e w1 ⟨rfl, hb1⟩
      go_wp2
      go_ret
      exact ⟨by rw [hR.out]; rfl, hb1⟩
end Go.Proofs.YtgmlhgojkmpkkaaDoor
