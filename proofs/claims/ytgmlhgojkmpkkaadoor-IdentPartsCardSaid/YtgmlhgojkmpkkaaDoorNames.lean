/- Ids, names, handles: walked, and the reference's. -/
import Derived.Test.YtgmlhgojkmpkkaaDoorEnc
import Derived.Test.YtgmlhgojkmpkkaaDoorIdentPure
import Derived.Test.YtgmlhgojkmpkkaaDoorRefText
import Derived.Laws.RangeAny
import Derived.Laws.RangeString
import Derived.Lib.OthersKept
import Derived.WalkSpells
namespace Go.Proofs.YtgmlhgojkmpkkaaDoor
open Go.ChangeShapes Go.WideShapes Go.ChangeAt Go.RowKit Go.Lib
set_option linter.unusedVariables false

theorem iterPos_of {w : World} {k : Nat} {s : ByteArray} {p : Nat} (h : w.heap[k]? = some (.stringIter s p)) : w.iterPos k = p := by simp [World.iterPos, h]
/-- a rune of a text -/
theorem dec_at (l : List UInt8) (pos : Nat) (h : pos < l.length) : ∃ (z : Int) (wd : Nat), ((Utf8.decode (bs l) pos).1 : Int) = z ∧ (Utf8.decode (bs l) pos).2 = wd ∧ 0 ≤ z ∧ ((z < 128 ∧ wd = 1 ∧ z = ((l[pos]'h).toNat : Int)) ∨ (128 ≤ z ∧ 128 ≤ (l[pos]'h).toNat)) := by
  have hs : pos < (bs l).size := by rw [bs_size]; exact h
  have e : (bs l)[pos]'hs = l[pos]'h := by rfl
  by_cases ha : (l[pos]'h).toNat < 128
  · have := decode_ascii (bs l) pos hs (by rw [e]; exact ha)
    rw [e] at this
    refine ⟨_, _, rfl, rfl, by omega, .inl ?_⟩
    rw [this]
    exact ⟨by simp only; omega, rfl, rfl⟩
  · have := decode_high (bs l) pos hs (by rw [e]; omega)
    refine ⟨_, _, rfl, rfl, by omega, .inr ⟨by omega, by omega⟩⟩
theorem next_at (w : World) (k : Nat) (l : List UInt8) (pos : Nat) (hk : w.heap[k]? = some (.stringIter (bs l) pos)) (h : pos < l.length) {z : Int} {wd : Nat} (h1 : ((Utf8.decode (bs l) pos).1 : Int) = z) (h2 : (Utf8.decode (bs l) pos).2 = wd) (ty : TypeId) :
    (Instr.next (.pointer (some ⟨k, 0, none⟩)) true ty).run Tryd.prog w = .ok (.tuple #[.bool true, .int .i64 pos, .int .i32 z]) (w.iterAt k (bs l) (pos + wd)) := by
  rw [Lib.run_next_any_at w k (bs l) pos ty hk (by rw [bs_size]; exact h), h1, h2]
theorem isHx_yes {c : UInt8} {z : Int} (e : z = (c.toNat : Int)) (h : (48 ≤ z ∧ z ≤ 57) ∨ (97 ≤ z ∧ z ≤ 102)) : isHx c = true := by
  subst e
  unfold isHx
  simp
  omega
theorem isHx_no {c : UInt8} {z : Int} (e : z = (c.toNat : Int)) (h : ¬ ((48 ≤ z ∧ z ≤ 57) ∨ (97 ≤ z ∧ z ≤ 102))) : isHx c = false := by
  subst e
  unfold isHx
  simp
  omega
theorem all_take_succ {p : UInt8 → Bool} {l : List UInt8} {k : Nat} (h : k < l.length) : (l.take (k + 1)).all p = ((l.take k).all p && p (l[k]'h)) := by
  rw [List.take_succ_eq_append_getElem h, List.all_append]
  simp
theorem all_false {p : UInt8 → Bool} {l : List UInt8} {k : Nat} (h : k < l.length) (hp : p (l[k]'h) = false) : l.all p = false := by
  rw [Bool.eq_false_iff]
  intro ha
  have := List.all_eq_true.1 ha (l[k]'h) (List.getElem_mem h)
  rw [hp] at this
  cases this
theorem dig_yes (z : Int) (w : World) (h0 : 48 ≤ z) (h1 : z ≤ 57) : Calls Tryd.prog 33 #[.int .i32 z] w (Same (.bool true) w) := by
  go_enter Tryd.func33, Tryd.ntmps33
  go_wp2
  go_ret
  exact ⟨rfl, rfl⟩
theorem dig_no (z : Int) (w : World) (h : ¬ (48 ≤ z ∧ z ≤ 57)) : Calls Tryd.prog 33 #[.int .i32 z] w (Same (.bool false) w) := by
  by_cases h1 : 48 ≤ z
  · have h2 : ¬ z ≤ 57 := fun h2 => h ⟨h1, h2⟩
    have d2 : decide (z ≤ 57) = false := decide_eq_false h2
    clear h
    go_enter Tryd.func33, Tryd.ntmps33
    go_wp2
    go_ret
    exact ⟨rfl, rfl⟩
  · have d1 : decide (48 ≤ z) = false := decide_eq_false h1
    clear h
    go_enter Tryd.func33, Tryd.ntmps33
    go_wp2
    go_ret
    exact ⟨rfl, rfl⟩
set_option maxRecDepth 100000 in
set_option maxHeartbeats 1000000 in
theorem right_any (l : List UInt8) (w : World) (hl : l.length ≤ 281474976710656) : Calls Tryd.prog 14 #[.string (bs l)] w (BoolPost w (rightB l)) := by
  have hs := bs_size l
  by_cases h16 : l.length = 16
  · have H16 := Lib.hid h16
    have d1 : ((l.length : Int) == 16) = true := by rw [h16]; rfl
    have d2 : ((l.length : Int) != 16) = false := by rw [h16]; rfl
    clear h16
    go_enter Tryd.func14, Tryd.ntmps14
    go_wp2
    go_loopw [4] (fun v wr => ∃ pos : Nat, pos ≤ l.length ∧ wr.heap[w.heap.size]? = some (.stringIter (bs l) pos) ∧ Below w.heap.size w wr ∧ Hid ((l.take pos).all isHx = true)) (fun _ wr => l.length - wr.iterPos w.heap.size)
    case atStart => exact ⟨0, by omega, World.iter_heap w (bs l) 0, (Below.refl _ _).alloc (Nat.le_refl _) _, rfl⟩
    case round =>
      obtain ⟨pos, hpos, hit, hbw, hall⟩ := hrel
      have hpos0 := Lib.hid (iterPos_of hit)
      by_cases hp : pos < l.length
      · obtain ⟨z, wd, e1, e2, z0, hz⟩ := dec_at l pos hp
        have hnx := next_at wr w.heap.size l pos hit hp e1 e2
        have hit2 := Lib.iterAt_heap wr w.heap.size (bs l) pos (pos + wd) hit
        have hbw2 := Lib.below_iterAt hbw (k := w.heap.size) (Nat.le_refl _) (bs l) (pos + wd)
        clear e1 e2
        generalize wr.iterAt w.heap.size (bs l) (pos + wd) = W1 at *
        have HIT := Lib.hid hit2
        clear hit2 hit
        have hz128 : 128 ≤ z ∨ z < 128 := by omega
        by_cases hok : (48 ≤ z ∧ z ≤ 57) ∨ (97 ≤ z ∧ z ≤ 102)
        · rcases hz with ⟨_, rfl, ez⟩ | ⟨hz, _⟩
          · have hall2 : Hid ((l.take (pos + 1)).all isHx = true) := by unfold Hid; rw [all_take_succ hp, hall.out, isHx_yes ez hok]; rfl
            have hm : Hid (W1.iterPos w.heap.size = pos + 1) := iterPos_of HIT.out
            clear ez hz128
            rcases hok with ⟨ha, hb⟩ | ⟨ha, hb⟩
            · have c := fun W => dig_yes z W ha hb
              go_wp2_with fail
              refine (c _).mono ?_
              rintro e w' ⟨rfl, rfl⟩
              go_wp2
              go_roundw
              case rel => exact ⟨pos + 1, by omega, HIT.out, hbw2, hall2⟩
              case measure => rw [hm.out, hpos0.out]; omega
            · have c := fun W => dig_no z W (by omega)
              have t1 : decide (z < 97) = false := decide_eq_false (by omega)
              have t2 : decide (102 < z) = false := decide_eq_false (by omega)
              go_wp2_with fail
              refine (c _).mono ?_
              rintro e w' ⟨rfl, rfl⟩
              go_wp2
              go_roundw
              case rel => exact ⟨pos + 1, by omega, HIT.out, hbw2, hall2⟩
              case measure => rw [hm.out, hpos0.out]; omega
          · omega
        · have hR : Hid (rightB l = false) := by
            unfold Hid rightB
            rw [all_false hp]
            · simp
            · rcases hz with ⟨_, _, ez⟩ | ⟨_, hc⟩
              · exact isHx_no ez hok
              · exact isHx_no (z := ((l[pos]'hp).toNat : Int)) rfl (by omega)
          have c := fun W => dig_no z W (by omega)
          clear hz hz128
          by_cases h97 : z < 97
          · clear hok
            go_wp2_with fail
            refine (c _).mono ?_
            rintro e w' ⟨rfl, rfl⟩
            go_wp2
            go_ret
            exact ⟨by rw [hR.out]; first | done | rfl, hbw2⟩
          · have t1 : decide (z < 97) = false := decide_eq_false h97
            have t2 : 102 < z := by omega
            clear hok
            go_wp2_with fail
            refine (c _).mono ?_
            rintro e w' ⟨rfl, rfl⟩
            go_wp2
            go_ret
            exact ⟨by rw [hR.out]; first | done | rfl, hbw2⟩
      · have hnx : ∀ ty, (Instr.next (.pointer (some ⟨w.heap.size, 0, none⟩)) true ty).run Tryd.prog wr = _ := fun ty => Lib.run_next_end_at wr w.heap.size (bs l) pos ty hit (by rw [bs_size]; exact hp)
        have hR : Hid (rightB l = true) := by
          have := hall.out
          rw [List.take_of_length_le (by omega)] at this
          unfold Hid rightB
          rw [this, H16.out]
          rfl
        go_wp2
        go_ret
        exact ⟨by rw [hR.out]; first | done | rfl, hbw⟩
  · have d1 : ((l.length : Int) == 16) = false := by simp; omega
    have d2 : ((l.length : Int) != 16) = true := by simp; omega
    have hR : Hid (rightB l = false) := by unfold Hid rightB; rw [decide_eq_false h16]; rfl
    clear h16
    go_enter Tryd.func14, Tryd.ntmps14
    go_wp2
    go_ret
    exact ⟨by rw [hR.out]; first | done | rfl, Below.refl _ _⟩
/-- what stands so far is the beginning of a name -/
def preB : List UInt8 → Bool
  | [] => true
  | c :: r => isLc c && r.all isNc
theorem preB_snoc (a : List UInt8) (c : UInt8) (h : a ≠ []) : preB (a ++ [c]) = (preB a && isNc c) := by
  cases a with
  | nil => exact absurd rfl h
  | cons x r => simp [preB, List.all_append, Bool.and_assoc]
theorem nameB_pre (l : List UInt8) : nameB l = (!l.isEmpty && preB l && decide (l.length ≤ 24)) := by
  unfold nameB
  cases l <;> simp [nameOk, preB]
theorem pre_take {l : List UInt8} {k : Nat} (h : k < l.length) (h0 : 0 < k) : preB (l.take (k + 1)) = (preB (l.take k) && isNc (l[k]'h)) := by
  rw [List.take_succ_eq_append_getElem h, preB_snoc]
  intro e
  have := congrArg List.length e
  rw [List.length_take, List.length_nil] at this
  omega
theorem pre_take0 {l : List UInt8} (h : 0 < l.length) : preB (l.take 1) = isLc (l[0]'h) := by
  cases l with
  | nil => simp at h
  | cons x r => simp [preB]
theorem pre_mono {l : List UInt8} {k : Nat} (h : preB (l.take k) = false) : preB l = false := by
  cases l with
  | nil => simp [preB] at h
  | cons x r =>
    cases k with
    | zero => simp [preB] at h
    | succ k =>
      simp only [List.take_succ_cons, preB] at h ⊢
      rw [Bool.and_eq_false_iff] at h ⊢
      rcases h with h | h
      · exact .inl h
      · refine .inr ?_
        rw [Bool.eq_false_iff] at h ⊢
        intro ha
        refine h ?_
        rw [List.all_eq_true] at ha ⊢
        exact fun c hc => ha c (List.mem_of_mem_take hc)
theorem isLc_iff {c : UInt8} {z : Int} (e : z = (c.toNat : Int)) : isLc c = true ↔ 97 ≤ z ∧ z ≤ 122 := by
  subst e; unfold isLc; simp; omega
theorem isNc_iff {c : UInt8} {z : Int} (e : z = (c.toNat : Int)) : isNc c = true ↔ (97 ≤ z ∧ z ≤ 122) ∨ (48 ≤ z ∧ z ≤ 57) ∨ z = 95 := by
  subst e; unfold isNc isLc; simp; omega
end Go.Proofs.YtgmlhgojkmpkkaaDoor
