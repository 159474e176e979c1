/- bytes as lists; num's Text and Parse, walked. -/
import Derived.Test.YtjcaaiikccnpeaaDoorChecked
import Derived.Test.YtjcaaiikccnpeaaDoorShelf
import Derived.Test.YtjcaaiikccnpeaaDoorPure
import Derived.WalkKit
import Derived.ProofKit
import Derived.OpenShut
import Derived.Outline
import Derived.OwnWalk
import Derived.Below
import Derived.Deep.QuietTactic
import Derived.BigQuiet
import Derived.Lib.Hide
import Derived.Shelf.Unicode.PredsPay
import Derived.Shelf.SlSorted.Search
import Derived.WalkSmall
import Derived.Laws.Strings
namespace Go.Proofs.YtjcaaiikccnpeaaDoor
open Go.ChangeShapes Go.WideShapes Go.ChangeAt Go.RowKit Go.Lib
set_option linter.unusedVariables false

def IntPost (w : World) (n : Int) (e : Ending) (w' : World) : Prop := e = .returned (.int .i64 n) ∧ Below w.heap.size w w'
theorem below_drewN {B : Nat} {a w : World} (h : Below B a w) (n : Nat) : Below B a (w.drewN n) := ⟨h.os, h.tape, h.output, h.size, h.block⟩
def TwoPost (w : World) (n : Int) (ok : Bool) (e : Ending) (w' : World) : Prop := e = .returned (.tuple #[.int .i64 n, .bool ok]) ∧ Below w.heap.size w w'
def BoolPost (w : World) (b : Bool) (e : Ending) (w' : World) : Prop := e = .returned (.bool b) ∧ Below w.heap.size w w'
def Same (v : Value) (w : World) (e : Ending) (w' : World) : Prop := e = .returned v ∧ w = w'
/-- the bytes of a list -/
def bs (l : List UInt8) : ByteArray := ⟨l.toArray⟩
theorem bs_size (l : List UInt8) : (bs l).size = l.length := by simp [bs, ByteArray.size]
theorem bs_append (a b : List UInt8) : bs a ++ bs b = bs (a ++ b) := by
  apply ByteArray.ext
  simp [bs]
theorem bs_form (s : ByteArray) : ∃ l, s = bs l := ⟨s.data.toList, by simp [bs]⟩
theorem bs_toList (l : List UInt8) : (bs l).toList = l := by rw [ByteArray.toList_eq]; simp [bs]
theorem bs_data (l : List UInt8) : (bs l).data.toList = l := by simp [bs]
/-- what the row lists, as the walks want it -/
structure Laid (w : World) : Prop where
  tab : Lib.TabIs Tryd.prog w "internal/strconv.uint64pow10" .u64 Lib.pow10Tab
  syn : ∃ tp p, w.var? Tryd.prog "strconv.ErrSyntax" = some #[.iface tp p]
  ran : ∃ tp p, w.var? Tryd.prog "strconv.ErrRange" = some #[.iface tp p]
  size : 5 ≤ w.heap.size
theorem gSyn : Tryd.prog.globalNamed "strconv.ErrSyntax" = some 1 := by kernel_rfl
theorem gRan : Tryd.prog.globalNamed "strconv.ErrRange" = some 2 := by kernel_rfl
theorem gTab : Tryd.prog.globalNamed "internal/strconv.uint64pow10" = some 5 := by kernel_rfl
theorem Laid.below {w w' : World} (h : Laid w) (hb : Below w.heap.size w w') : Laid w' := by
  have hs := h.size
  refine ⟨?_, ?_, ?_, Nat.le_trans h.size hb.size⟩
  · exact TabIs_below gTab h.tab hb
  · obtain ⟨tp, p, hv⟩ := h.syn
    exact ⟨tp, p, var?_below hb gSyn (by omega) hv⟩
  · obtain ⟨tp, p, hv⟩ := h.ran
    exact ⟨tp, p, var?_below hb gRan (by omega) hv⟩
def StrPost (w : World) (l : List UInt8) (e : Ending) (w' : World) : Prop := e = .returned (.string (bs l)) ∧ Below w.heap.size w w'
theorem text_any (n : Int) (w : World) (hn : wf64 n) (hL : Laid w) : Calls Tryd.prog 28 #[.int .i64 n] w (StrPost w (Lib.itoa n)) := by
  have c : Calls Tryd.prog 47 #[.int .i64 n] w (StrPost w (Lib.itoa n)) := (Tryd.strconv_Itoa n hn.1 hn.2 w hL.tab).mono (by
    rintro e w' ⟨rfl, k, os, rfl⟩
    exact ⟨rfl, below_grown_sl _ w k os (Nat.le_refl _)⟩)
  go_enter Tryd.func28, Tryd.ntmps28
  go_wp2_with (go_at_call 47; refine c.mono ?_; rintro e w1 ⟨rfl, hb⟩)
  go_ret
  exact ⟨rfl, hb⟩
theorem parse_any (l : List UInt8) (lo hi : Int) (w : World) (hl : l.length ≤ 281474976710656) (hL : Laid w) :
    Calls Tryd.prog 27 #[.string (bs l), .int .i64 lo, .int .i64 hi] w (TwoPost w ((parseI l lo hi).getD 0) (parseI l lo hi).isSome) := by
  have hsz : (bs l).size ≤ 281474976710656 := by rw [bs_size]; exact hl
  cases ha : Lib.atoiAll l with
  | ok n =>
    have c : Calls Tryd.prog 46 #[.string (bs l)] w (fun e w' => e = .returned (.tuple #[.int .i64 n, .nilIface]) ∧ Below w.heap.size w w') := (Tryd.strconv_Atoi_ok (bs l) (by omega) n (by rw [bs_data]; exact ha) w).mono (by
      rintro e w' ⟨rfl, h⟩
      refine ⟨rfl, ?_⟩
      rcases h with rfl | ⟨t, rfl⟩
      · exact Below.refl _ _
      · exact ⟨rfl, rfl, rfl, by rw [bytesWorld_size]; omega, fun k hk => bytesWorld_at_old w 5 t k hk⟩)
    have hwf : wf64 n := by have := Lib.atoiAll_bounds ha; exact this
    have ht := bs_toList l
    have ht2 := bs_toList (Lib.itoa n)
    by_cases heq : Lib.itoa n = l
    · have hq : (Lib.itoa n == l) = true := by simpa using heq
      by_cases h1 : n < lo
      · have hP : Hid (parseI l lo hi = none) := by unfold Hid parseI; rw [ha]; simp only; rw [if_neg (by omega)]
        have d1 : decide (n < lo) = true := decide_eq_true h1
        clear heq h1
        go_enter Tryd.func27, Tryd.ntmps27
        go_wp2_with (first | (go_at_call 46; refine c.mono ?_; rintro e w1 ⟨rfl, hb1⟩) | (go_at_call 28; refine (text_any n _ hwf (hL.below hb1)).mono ?_; rintro e w2 ⟨rfl, hb2⟩))
        go_ret2
        exact ⟨by rw [hP.out]; rfl, hb1.trans (hb2.mono hb1.size)⟩
      · have d1 : decide (n < lo) = false := decide_eq_false h1
        by_cases h2 : hi < n
        · have hP : Hid (parseI l lo hi = none) := by unfold Hid parseI; rw [ha]; simp only; rw [if_neg (by omega)]
          have d2 : decide (hi < n) = true := decide_eq_true h2
          clear heq h1 h2
          go_enter Tryd.func27, Tryd.ntmps27
          go_wp2_with (first | (go_at_call 46; refine c.mono ?_; rintro e w1 ⟨rfl, hb1⟩) | (go_at_call 28; refine (text_any n _ hwf (hL.below hb1)).mono ?_; rintro e w2 ⟨rfl, hb2⟩))
          go_ret2
          exact ⟨by rw [hP.out]; rfl, hb1.trans (hb2.mono hb1.size)⟩
        · have hP : Hid (parseI l lo hi = some n) := by unfold Hid parseI; rw [ha]; simp only; rw [if_pos ⟨heq, by omega, by omega⟩]
          have d2 : decide (hi < n) = false := decide_eq_false h2
          clear heq h1 h2
          go_enter Tryd.func27, Tryd.ntmps27
          go_wp2_with (first | (go_at_call 46; refine c.mono ?_; rintro e w1 ⟨rfl, hb1⟩) | (go_at_call 28; refine (text_any n _ hwf (hL.below hb1)).mono ?_; rintro e w2 ⟨rfl, hb2⟩))
          go_ret2
          exact ⟨by rw [hP.out]; rfl, hb1.trans (hb2.mono hb1.size)⟩
    · have hq : (Lib.itoa n == l) = false := by simpa using heq
      have hP : Hid (parseI l lo hi = none) := by unfold Hid parseI; rw [ha]; simp only; rw [if_neg (by rintro ⟨h, _⟩; exact heq h)]
      clear heq
      go_enter Tryd.func27, Tryd.ntmps27
      go_wp2_with (first | (go_at_call 46; refine c.mono ?_; rintro e w1 ⟨rfl, hb1⟩) | (go_at_call 28; refine (text_any n _ hwf (hL.below hb1)).mono ?_; rintro e w2 ⟨rfl, hb2⟩))
      go_ret2
      exact ⟨by rw [hP.out]; rfl, hb1.trans (hb2.mono hb1.size)⟩
  | range =>
    obtain ⟨tp, p, hv⟩ := hL.ran
    have c : Calls Tryd.prog 46 #[.string (bs l)] w (fun e w' => ∃ N : Nat, e = .returned (.tuple #[.int .i64 (Lib.atoiSat l), .iface 91 (.pointer (some ⟨N, 0, none⟩))]) ∧ Below w.heap.size w w') := (Tryd.strconv_Atoi_range_var (bs l) hsz (by rw [bs_data]; exact ha) tp p w hv).mono (by
      rintro e w' ⟨N, rfl, _, _, hb⟩
      exact ⟨N, by rw [bs_data], hb⟩)
    have hP : Hid (parseI l lo hi = none) := by unfold Hid parseI; rw [ha]
    go_enter Tryd.func27, Tryd.ntmps27
    go_wp2_with (go_at_call 46; refine c.mono ?_; rintro e w1 ⟨N, rfl, hb1⟩)
    go_ret2
    exact ⟨by rw [hP.out]; rfl, hb1⟩
  | _ =>
    obtain ⟨tp, p, hv⟩ := hL.syn
    have c : Calls Tryd.prog 46 #[.string (bs l)] w (fun e w' => ∃ N : Nat, e = .returned (.tuple #[.int .i64 0, .iface 91 (.pointer (some ⟨N, 0, none⟩))]) ∧ Below w.heap.size w w') := (Tryd.strconv_Atoi_syntax_var (bs l) hsz (by rw [bs_data]; exact ha) tp p w hv).mono (by
      rintro e w' ⟨N, rfl, _, _, hb⟩
      exact ⟨N, rfl, hb⟩)
    have hP : Hid (parseI l lo hi = none) := by unfold Hid parseI; rw [ha]
    go_enter Tryd.func27, Tryd.ntmps27
    go_wp2_with (go_at_call 46; refine c.mono ?_; rintro e w1 ⟨N, rfl, hb1⟩)
    go_ret2
    exact ⟨by rw [hP.out]; rfl, hb1⟩
end Go.Proofs.YtjcaaiikccnpeaaDoor
