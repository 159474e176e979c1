/- CodeBack, walked: it answers true. -/
import Derived.Test.YtckgnmloemnkcaaAgainWalk
import Derived.Test.YtckgnmloemnkcaaOpenVal
import Derived.Deep.RegionHeld3
namespace Go.Proofs.Ytckgnmloemnkcaa
open Go.ChangeShapes Go.WideShapes Go.ChangeAt Go.RowKit Go.Lib
set_option linter.unusedVariables false

theorem V.small.len {v : V} (h : v.small) : v.write.length ≤ 102010 := by
  obtain ⟨h1, h2, h3⟩ := h
  have h4 : v.l.length ≤ 100 ∧ ∀ s, s ∈ v.l → s.length ≤ 1000 := by unfold lightB at h3; simpa using h3
  unfold V.write
  split
  · have := numI_length v.n; omega
  · split
    · have := intI_length v.n; omega
    · split
      · have := textL_length v.s; omega
      · split
        · unfold listL
          have h5 := flatMap_take_le textL 1010 v.l v.l.length (fun x hx => by have h1 := textL_length x; have h2 := h4.2 x hx; omega)
          rw [List.take_length] at h5
          have h6 := numF_length 10 v.l.length
          simp only [List.length_append, numL]
          omega
        · unfold numsL
          have h5 := flatMap_take_le intI 1010 v.m v.m.length (fun x hx => by have h1 := intI_length x; omega)
          rw [List.take_length] at h5
          have h6 := numF_length 10 v.m.length
          simp only [List.length_append, numL]
          omega
def encV (x : V × VP) : List UInt8 := x.1.write
theorem V.small.mid' {v : V} (h : v.small) : v.m.length ≤ 100 ∧ v.l.length ≤ 100 := by
  obtain ⟨h1, h2, h3⟩ := h
  have h4 : v.l.length ≤ 100 ∧ ∀ s, s ∈ v.l → s.length ≤ 1000 := by unfold lightB at h3; simpa using h3
  exact ⟨h1, h4.1⟩
theorem read_small {r : Rd} {k : Int} (h : 0 ≤ k ∧ k ≤ 4) {v : V} (hk : v.kind = k) (hs : v.same (r.read k).1) (hm : v.m.length ≤ 100) (hl : v.l.length ≤ 100) :
    (r.read k).1.m.length ≤ 100 ∧ (r.read k).1.l.length ≤ 100 := by
  obtain ⟨_, _, _, h3, h4⟩ := hs
  have hd : k = 0 ∨ k = 1 ∨ k = 2 ∨ k = 3 ∨ k = 4 := by omega
  rcases hd with rfl | rfl | rfl | rfl | rfl
  · exact ⟨Nat.zero_le _, Nat.zero_le _⟩
  · exact ⟨Nat.zero_le _, Nat.zero_le _⟩
  · exact ⟨Nat.zero_le _, Nat.zero_le _⟩
  · exact ⟨Nat.zero_le _, by rw [← h3 hk]; exact hl⟩
  · exact ⟨by rw [← h4 hk]; exact hm, Nat.zero_le _⟩
theorem encs_len (l : List (V × VP)) (B : Nat) (h : ∀ x, x ∈ l → (encV x).length ≤ B) : (l.flatMap encV).length ≤ l.length * B := by
  have := flatMap_take_le encV B l l.length h
  rwa [List.take_length] at this
theorem ValsAt.at {w : World} {A : Option Addr} {l : List (V × VP)} (h : ValsAt w A l) {i : Nat} {x : V × VP} (hx : l[i]? = some x) : ∃ b o, A = some ⟨b, o, none⟩ ∧
    w.cell? ⟨b, o + i * 5, none⟩ = some (.int .i64 x.1.k) ∧ w.cell? ⟨b, o + i * 5 + 1, none⟩ = some (.int .i64 x.1.n) ∧ w.cell? ⟨b, o + i * 5 + 2, none⟩ = some (.string (bs x.1.s)) ∧
    w.cell? ⟨b, o + i * 5 + 3, none⟩ = some (.slice x.2.A x.1.l.length x.2.C) ∧ w.cell? ⟨b, o + i * 5 + 4, none⟩ = some (.slice x.2.B x.1.m.length x.2.D) ∧ VAt w x.1 x.2 := by
  obtain ⟨b, o, hA, hc⟩ := h (by have := (List.getElem?_eq_some_iff.1 hx).1; omega)
  exact ⟨b, o, hA, hc i x hx⟩
set_option maxRecDepth 100000 in
set_option maxHeartbeats 1600000 in
theorem back_any (l : List (V × VP)) (rest : List UInt8) (A : Option Addr) (C : Nat) (w : World) (hl : ValsAt w A l) (hwf : ∀ x, x ∈ l → x.1.wf) :
    Calls Try.prog 5 #[.slice A l.length C, .string (bs rest)] w (BoolPost w true) := by
  have cs := small_any w
  have hss := bs_size rest
  by_cases hl20 : 20 < l.length
  · have hq2 : decide (20 < (l.length : Int)) = true := decide_eq_true (by omega)
    go_enter Try.func5, Try.ntmps5
    go_wp2_with (go_at_call 10; refine cs.mono ?_; rintro e w1 ⟨rfl, hb1⟩)
    go_ret
    exact ⟨rfl, hb1⟩
  have hq2 : decide (20 < (l.length : Int)) = false := decide_eq_false (by omega)
  by_cases hr1000 : 1000 < rest.length
  · have hq : decide (1000 < (rest.length : Int)) = true := decide_eq_true (by omega)
    go_enter Try.func5, Try.ntmps5
    go_wp2_with (go_at_call 10; refine cs.mono ?_; rintro e w1 ⟨rfl, hb1⟩)
    go_ret
    exact ⟨rfl, hb1⟩
  have hq : decide (1000 < (rest.length : Int)) = false := decide_eq_false (by omega)
  have HWF := Lib.hid hwf
  clear hwf
  go_enter Try.func5, Try.ntmps5
  go_wp2_with fail
  refine cs.mono ?_
  rintro e w1 ⟨rfl, hb1⟩
  clear cs
  go_wp2_with fail
  go_loopw [6, 7] (fun v0 v1 wr => ∃ (i : Nat) (out : List UInt8), v0 = .string (bs out) ∧ v1 = .int .i64 i ∧ i ≤ l.length ∧ out = (l.take i).flatMap encV ∧ Hid (∀ j : Nat, ∀ x, j < i → l[j]? = some x → x.1.valid) ∧ Below w.heap.size w wr) (fun _ v1 _ => l.length - (intOf v1).toNat)
  case atStart => exact ⟨0, [], rfl, rfl, by omega, by simp, (by intro j x hj; omega), hb1⟩
  case round =>
    obtain ⟨i, out, rfl, rfl, hi, hout, HJ, hbel⟩ := hrel
    have hol : out.length ≤ 2040200 := by
      have h := encs_len (l.take i) 102010 (fun x hx => by
        obtain ⟨j, hj, he⟩ := List.mem_iff_getElem.1 hx
        have hj' : j < i := by simp at hj; omega
        have hjl : j < l.length := by simp at hj; omega
        exact (HJ.out j x hj' (by rw [List.getElem?_eq_getElem hjl, ← he]; simp)).1.len)
      rw [← hout] at h
      have : (l.take i).length ≤ 20 := by simp; omega
      have := Nat.mul_le_mul_right 102010 this
      omega
    have HOUT := Lib.hid hout
    clear hout
    by_cases hlt : i < l.length
    · obtain ⟨x, hx⟩ : ∃ x, l[i]? = some x := ⟨_, List.getElem?_eq_getElem hlt⟩
      obtain ⟨bx, ox, rfl, c0, c1, c2, c3, c4, hvx⟩ := (hl.below hbel).at hx
      have HX := Lib.hid hx
      have hwx := HWF.out x (List.mem_of_getElem? hx)
      clear hx
      go_wp2_with fail
      refine (valid_any x.1 x.2 wr hvx hwx).mono ?_
      rintro e w3 ⟨rfl, hb3⟩
      have hw3 := hbel.trans (hb3.mono hbel.size)
      obtain ⟨bx', ox', hA', d0, d1, d2, d3, d4, hvx3⟩ := (hl.below hw3).at HX.out
      cases hA'
      cases hval : x.1.validB
      · clear hval
        go_wp2
        go_ret
        exact ⟨rfl, hw3⟩
      · have HVAL := Lib.hid (validB_true hval)
        clear hval hvx c0 c1 c2 c3 c4
        have hwl := HVAL.out.1.len
        have ha := bs_append out x.1.write
        have hno : ¬ (9223372036854775807 < (bs out).size + (bs x.1.write).size) := by rw [bs_size, bs_size]; omega
        go_wp2_with fail
        refine (write_any x.1 x.2 w3 hvx3 hwx HVAL.out.1.mid).mono ?_
        rintro e w4 ⟨rfl, hb4⟩
        have hw4 := hw3.trans (hb4.mono hw3.size)
        go_wp2
        go_roundw
        case rel =>
          refine ⟨i + 1, out ++ x.1.write, rfl, by go_num, by omega, ?_, ?_, hw4⟩
          · rw [HOUT.out, flatMap_take_succ _ _ HX.out]; rfl
          · intro j y hj hjy
            rcases Nat.lt_or_eq_of_le (Nat.le_of_lt_succ hj) with h | h
            · exact HJ.out j y h hjy
            · subst h
              rw [HX.out] at hjy
              simp at hjy
              subst hjy
              exact HVAL.out
        case measure => simp [intOf]; omega
    · have HALL : Hid (∀ x, x ∈ l → x.1.valid) := by
        intro x hx
        obtain ⟨j, hj, he⟩ := List.mem_iff_getElem.1 hx
        exact HJ.out j x (by omega) (by rw [List.getElem?_eq_getElem hj, he])
      have HO2 : Hid (out = l.flatMap encV) := by unfold Hid; rw [HOUT.out, List.take_of_length_le (by omega)]
      have ha := bs_append out rest
      have hno : ¬ (9223372036854775807 < (bs out).size + (bs rest).size) := by rw [bs_size, bs_size]; omega
      have hno2 : ¬ (9223372036854775807 < (bs out).size + rest.length) := by rw [bs_size]; omega
      clear HJ HOUT
      go_wp2_with fail
      refine (open_rd (out ++ rest) wr).mono ?_
      rintro e w2 ⟨rfl, hr2, hb2⟩
      have hw2 := hbel.trans (hb2.mono hbel.size)
      have hp1 : w.heap.size ≤ wr.heap.size := hbel.size
      obtain ⟨p, hp⟩ : ∃ p, p = wr.heap.size := ⟨_, rfl⟩
      rw [← hp] at hr2 hp1 ⊢
      clear hb2 hp hbel ha hno hno2
      obtain ⟨wo, rfl⟩ : ∃ wo : World, wo = wr := ⟨_, rfl⟩
      go_wp2_with fail
      go_loopw [9] (fun v0 wr => ∃ (j : Nat) (r1 : Rd), v0 = .int .i64 j ∧ j ≤ l.length ∧ r1 = ⟨(l.drop j).flatMap encV ++ rest, false⟩ ∧ RdAt wr p 57 r1 ∧ Below w.heap.size w wr) (fun v0 _ => l.length - (intOf v0).toNat)
      case atStart => exact ⟨0, _, rfl, by omega, by rw [List.drop_zero, ← HO2.out], hr2, hw2⟩
      case round =>
        obtain ⟨j, r1, rfl, hj, hre, hr1, hbel⟩ := hrel
        have HRE := Lib.hid hre
        clear hre
        by_cases hlt2 : j < l.length
        · obtain ⟨x, hx⟩ : ∃ x, l[j]? = some x := ⟨_, List.getElem?_eq_getElem hlt2⟩
          obtain ⟨bx, ox, rfl, c0, c1, c2, c3, c4, hvx⟩ := (hl.below hbel).at hx
          have hxm := List.mem_of_getElem? hx
          have HVX := Lib.hid (HALL.out x hxm)
          have HWX := Lib.hid (HWF.out x hxm)
          have hdrop : (l.drop j).flatMap encV = x.1.write ++ (l.drop (j + 1)).flatMap encV := by
            have hx' : l[j] = x := by rw [List.getElem?_eq_getElem hlt2] at hx; simpa using hx
            rw [List.drop_eq_getElem_cons hlt2, hx']; rfl
          obtain ⟨u, hu, hsu⟩ := read_enc (HVX.out.codec HWX.out) ((l.drop (j + 1)).flatMap encV ++ rest)
          rw [← List.append_assoc, ← hdrop, ← HRE.out] at hu
          have hk5 : 0 ≤ x.1.kind ∧ x.1.kind ≤ 4 := by unfold V.kind; omega
          have hsm := read_small (r := r1) hk5 rfl (by rw [hu]; exact hsu) HVX.out.1.mid'.1 HVX.out.1.mid'.2
          rw [hu] at hsm
          have hr1l : r1.rest.length ≤ 1000000000 := by
            rw [HRE.out]
            have h := encs_len (l.drop j) 102010 (fun y hy => (HALL.out y (List.mem_of_mem_drop hy)).1.len)
            have h2 : (l.drop j).length ≤ 20 := by simp; omega
            have := Nat.mul_le_mul_right 102010 h2
            simp only [List.length_append]
            omega
          have cr := fun W hW => read_any p r1 x.1.kind W hW hr1l hk5
          rw [hu] at cr
          have HSU := Lib.hid hsu
          have HX := Lib.hid hx
          clear hx hxm hdrop hu hsu
          unfold V.kind at cr
          go_wp2_with fail
          refine (kind_any x.1.k _ _ _ _ wr).mono ?_
          rintro e w3 ⟨rfl, hb3⟩
          have hr3 := hr1.below hb3
          have hw3 := hbel.trans (hb3.mono hbel.size)
          clear hb3 hr1 hbel c0 c1 c2 c3 c4 hvx
          go_wp2_with fail
          refine (cr w3 hr3).mono ?_
          rintro e w4 ⟨⟨q, rfl, hv4, hqA, hqB⟩, hr4, hch4⟩
          have hw4 := Chg.to_below hw3 hch4 hp1
          clear cr hr3 hch4 hw3 hqA hqB
          simp only at hv4 hr4 ⊢
          have c := (hl.below hw4).at HX.out
          obtain ⟨bx', ox', hA', c0, c1, c2, c3, c4, hvx⟩ := c
          cases hA'
          go_wp2_with fail
          obtain ⟨w5, hw5e⟩ : ∃ w5, w5 = w4.alloc (.cells #[.int .i64 u.k, .int .i64 u.n, .string (bs u.s), .slice q.A u.l.length q.C, .slice q.B u.m.length q.D] 45) := ⟨_, rfl⟩
          have hb5 : Below w4.heap.size w4 w5 := by rw [hw5e]; exact (Below.refl _ _).alloc (Nat.le_refl _) _
          have hv5 : ValAt w5 w4.heap.size u q := by rw [hw5e]; exact ValAt.new w4 u q
          rw [← hw5e]
          have hr5 := hr4.below hb5
          have hw5 := hw4.trans (hb5.mono hw4.size)
          have hu5 : VAt w5 u q := hv4.below hb5
          have hx5 : VAt w5 x.1 x.2 := hvx.below hb5
          have hcs : Hid (∀ W, Below w5.heap.size w5 W → Calls Try.prog 46 #[.agg #[.int .i64 x.1.k, .int .i64 x.1.n, .string (bs x.1.s), .slice x.2.A x.1.l.length x.2.C, .slice x.2.B x.1.m.length x.2.D], .agg #[.int .i64 u.k, .int .i64 u.n, .string (bs u.s), .slice q.A u.l.length q.C, .slice q.B u.m.length q.D]] W (BoolPost W (x.1.sameB u))) :=
            fun W hb => same_any x.1 u x.2 q W (hx5.below hb) (hu5.below hb) HVX.out.1 ⟨by omega, by omega⟩
          obtain ⟨bx', ox', hA', c0, c1, c2, c3, c4, _⟩ := (hl.below hw5).at HX.out
          cases hA'
          obtain ⟨g, hg⟩ : ∃ g, g = w4.heap.size := ⟨_, rfl⟩
          rw [← hg] at hv5 ⊢
          have HKEEP : Hid (∀ W', Below w5.heap.size w5 W' → Below w5.heap.size w5 W' ∧ W'.cell? ⟨bx, ox + j * 5, none⟩ = some (.int .i64 x.1.k) ∧ W'.cell? ⟨bx, ox + j * 5 + 1, none⟩ = some (.int .i64 x.1.n) ∧ W'.cell? ⟨bx, ox + j * 5 + 2, none⟩ = some (.string (bs x.1.s)) ∧ W'.cell? ⟨bx, ox + j * 5 + 3, none⟩ = some (.slice x.2.A x.1.l.length x.2.C) ∧ W'.cell? ⟨bx, ox + j * 5 + 4, none⟩ = some (.slice x.2.B x.1.m.length x.2.D) ∧ W'.cell? ⟨g, 0, none⟩ = some (.int .i64 u.k) ∧ W'.cell? ⟨g, 1, none⟩ = some (.int .i64 u.n) ∧ W'.cell? ⟨g, 2, none⟩ = some (.string (bs u.s)) ∧ W'.cell? ⟨g, 3, none⟩ = some (.slice q.A u.l.length q.C) ∧ W'.cell? ⟨g, 4, none⟩ = some (.slice q.B u.m.length q.D)) := by
            intro W' hb
            have k := fun {p v} (h : w5.cell? p = some v) => (hb.cell (lt_of_cell h)).trans h
            have hv' := hv5.below hb
            exact ⟨hb, k c0, k c1, k c2, k c3, k c4, hv'.f0, hv'.f1, hv'.f2, hv'.f3, hv'.f4⟩
          have hg1 : x.1.sameB u = true := by unfold V.sameB; simpa using HSU.out
          clear hw5e hb5 hg hr4 hw4 hv4 hvx hv5 hu5 hx5 c0 c1 c2 c3 c4
          go_region_held3 (fun W' => Below w5.heap.size w5 W' ∧ W'.cell? ⟨bx, ox + j * 5, none⟩ = some (.int .i64 x.1.k) ∧ W'.cell? ⟨bx, ox + j * 5 + 1, none⟩ = some (.int .i64 x.1.n) ∧ W'.cell? ⟨bx, ox + j * 5 + 2, none⟩ = some (.string (bs x.1.s)) ∧ W'.cell? ⟨bx, ox + j * 5 + 3, none⟩ = some (.slice x.2.A x.1.l.length x.2.C) ∧ W'.cell? ⟨bx, ox + j * 5 + 4, none⟩ = some (.slice x.2.B x.1.m.length x.2.D) ∧ W'.cell? ⟨g, 0, none⟩ = some (.int .i64 u.k) ∧ W'.cell? ⟨g, 1, none⟩ = some (.int .i64 u.n) ∧ W'.cell? ⟨g, 2, none⟩ = some (.string (bs u.s)) ∧ W'.cell? ⟨g, 3, none⟩ = some (.slice q.A u.l.length q.C) ∧ W'.cell? ⟨g, 4, none⟩ = some (.slice q.B u.m.length q.D))
            (first | exact HKEEP.out _ (Below.refl _ _).drew | exact HKEEP.out _ ((Below.refl w5.heap.size w5).drew.trans hb7))
            (first | (go_at_call 46; refine (hcs.out _ (Below.refl _ _).drew).mono ?_; rintro e w7 ⟨rfl, hb7⟩))
          rename_i hH
          have hb := hH.1
          clear hH hb7
          have hr7 := hr5.below hb
          have hw7 := hw5.trans (hb.mono hw5.size)
          go_wp2
          go_roundw
          case rel => exact ⟨j + 1, _, by go_num, by omega, rfl, hr7, hw7⟩
          case measure => simp [intOf]; omega
        · have hjl : l.drop j = [] := List.drop_of_length_le (by omega)
          have HR2 : Hid (r1 = ⟨rest, false⟩) := by unfold Hid; rw [HRE.out, hjl]; rfl
          have e1 := HR2.out
          subst e1
          clear HRE hjl HR2
          have htk : (Rd.mk rest false).take rest.length = (rest, ⟨[], false⟩) := by
            unfold Rd.take
            rw [if_neg (by simp)]
            simp
          have ct := take_rd p ⟨rest, false⟩ rest.length wr hr1 (by simp only; omega)
          rw [htk] at ct
          have htt := bs_toList rest
          have hbb : (rest == rest) = true := by simp
          have d2 : (Rd.mk [] false).done = true := rfl
          go_wp2_with fail
          refine (left_any p _ wr hr1).mono ?_
          rintro e w3 ⟨rfl, rfl⟩
          simp only
          go_wp2_with fail
          refine (Calls.mono ct ?_)
          rintro e w4 ⟨rfl, hr4, hch4⟩
          have hw4 := Chg.to_below hbel hch4 hp1
          go_wp2_with fail
          refine (done_rd p _ w4 hr4).mono ?_
          rintro e w5 ⟨rfl, rfl⟩
          go_wp2
          go_ret
          exact ⟨rfl, hw4⟩
end Go.Proofs.Ytckgnmloemnkcaa
