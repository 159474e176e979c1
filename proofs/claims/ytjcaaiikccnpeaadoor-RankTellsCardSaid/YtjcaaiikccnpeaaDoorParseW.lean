/- The weights of a text, walked. -/
import Derived.Test.YtjcaaiikccnpeaaDoorWriteW
import Derived.Test.YtjcaaiikccnpeaaDoorSplitPure
namespace Go.Proofs.YtjcaaiikccnpeaaDoor
open Go.ChangeShapes Go.WideShapes Go.ChangeAt Go.RowKit Go.Lib
set_option linter.unusedVariables false

def fieldW (k t nm : List UInt8) : Option Int := if k = nm then parseI t 0 1125899906842624 else none
def likeN : List UInt8 := [108, 105, 107, 101]
def boostN : List UInt8 := [98, 111, 111, 115, 116]
def replyN : List UInt8 := [114, 101, 112, 108, 121]
def ageN : List UInt8 := [97, 103, 101]
def pickW (x y z t : Option Int) : Option Wts :=
  match x, y, z, t with
  | some a, some b, some c, some d => some ⟨a, b, c, d⟩
  | _, _, _, _ => none
def parseL (l : List (List UInt8)) : Option Wts :=
  match l with
  | [k0, t0, k1, t1, k2, t2, k3, t3] => pickW (fieldW k0 t0 likeN) (fieldW k1 t1 boostN) (fieldW k2 t2 replyN) (fieldW k3 t3 ageN)
  | _ => none
def parseW (s : List UInt8) : Option Wts := parseL (spL s)
def noW : Wts := ⟨0, 0, 0, 0⟩
def WPost (w : World) (o : Option Wts) (e : Ending) (w' : World) : Prop :=
  e = .returned (.tuple #[.agg (cellsW (o.getD noW)), .bool o.isSome]) ∧ Below w.heap.size w w'
theorem parseL_len {l : List (List UInt8)} (h : l.length ≠ 8) : parseL l = none := by
  unfold parseL
  split
  · exact absurd rfl h
  · rfl
theorem results_cell1 {P : Program} {fn : Func} {p a : Tmp} {ty : TypeId} (h : fn.results = #[.cell p ty, .tmp a]) (tmps : Array Value) (w : World) (g : Nat) (t : TypeId) (cs : Array Value) (fr : Nat × Nat) (d : TypeDesc)
    (hp : tmps.getD p undef = .pointer (some ⟨g, 0, none⟩)) (hg : w.heap[g]? = some (.cells cs t fr))
    (hu : P.underlying ty = some d) (hd : (match d with | .struct _ | .array _ _ => true | _ => false) = true) (hi : (P.info? ty).map (·.size) = some cs.size) :
    (results fn tmps).run P w = .ok (.tuple #[.agg cs, tmps.getD a undef]) w := by
  have hp' : tmps[p]?.getD undef = .pointer (some ⟨g, 0, none⟩) := by simpa using hp
  simp [results, h, hp', asAddr, run_loadVar_row w g t ty cs fr d hg hu hd hi]
theorem blk4 {w : World} {T t : Nat} {a0 a1 a2 a3 : Value} (v0 v1 v2 v3 : Value) (h : w.heap[T]? = some (.cells #[a0, a1, a2, a3] t (0, 0))) :
    ((((w.setCell ⟨T, 0, none⟩ v0).setCell ⟨T, 1, none⟩ v1).setCell ⟨T, 2, none⟩ v2).setCell ⟨T, 3, none⟩ v3).heap[T]? = some (.cells #[v0, v1, v2, v3] t (0, 0)) := by
  have h0 := heap_setCell_same _ _ 0 _ _ v0 h
  have h1 := heap_setCell_same _ _ 1 _ _ v1 h0
  have h2 := heap_setCell_same _ _ 2 _ _ v2 h1
  exact heap_setCell_same _ _ 3 _ _ v3 h2
theorem set4_below {B : Nat} {w w1 : World} {T : Nat} (v0 v1 v2 v3 : Value) (h : Below B w w1) (hT : B ≤ T) : Below B w ((((w1.setCell ⟨T, 0, none⟩ v0).setCell ⟨T, 1, none⟩ v1).setCell ⟨T, 2, none⟩ v2).setCell ⟨T, 3, none⟩ v3) :=
  (((h.setCell hT v0).setCell hT v1).setCell hT v2).setCell hT v3
theorem infoW : (Tryd.prog.info? 23).map (·.size) = some 4 := by kernel_rfl
theorem split_any (s : List UInt8) (m : Int) (W : World) (hs : s.length ≤ 281474976710656 ∧ s.length < 4294967281) (hm : W.cell? ⟨0, 0, none⟩ = some (.int .i64 m)) :
    Calls Tryd.prog 26 #[.string (bs s), .string ⟨#[32]⟩] W (fun e w' => e = .returned (.slice (some ⟨W.heap.size, 0, none⟩) (spL s).length (spL s).length) ∧ w' = W.alloc (.cells (((spL s).map bs).map Value.string).toArray 9)) := by
  have := Tryd.strings_Split (bs s) ⟨#[32]⟩ m W (by rw [bs_size]; omega) hm (by decide)
  rw [splitB_bs, countB_bs] at this
  exact this
set_option maxRecDepth 100000 in
set_option maxHeartbeats 1000000 in
theorem parseW_len (s : List UInt8) (m : Int) (w : World) (hs : s.length < 4294967281) (h0 : 0 < w.heap.size) (hm : w.cell? ⟨0, 0, none⟩ = some (.int .i64 m)) (hl : (spL s).length ≠ 8) :
    Calls Tryd.prog 9 #[.string (bs s)] w (WPost w none) := by
  have c0 := fun (W : World) (h : W.cell? ⟨0, 0, none⟩ = some (.int .i64 m)) => split_any s m W ⟨by omega, hs⟩ h
  have d0 : (((spL s).length : Int) == 8) = false := by simp; omega
  have d1 : (((spL s).length : Int) != 8) = true := by simp; omega
  clear hl
  generalize spL s = L at *
  have z8 : (w.alloc (.cells #[.int .i64 0, .int .i64 0, .int .i64 0, .int .i64 0] 23)).heap[w.heap.size]? = some (.cells #[.int .i64 0, .int .i64 0, .int .i64 0, .int .i64 0] 23 (0, 0)) := heap_alloc_new _ _
  have z9 : (w.alloc (.cells #[.int .i64 0, .int .i64 0, .int .i64 0, .int .i64 0] 23)).heap.size = w.heap.size + 1 := by simp
  have zb : Below w.heap.size w (w.alloc (.cells #[.int .i64 0, .int .i64 0, .int .i64 0, .int .i64 0] 23)) := (Below.refl _ _).alloc (Nat.le_refl _) _
  have Z8 := Lib.hid z8
  have Z9 := Lib.hid z9
  have ZB := Lib.hid zb
  clear z8 z9 zb
  go_enter Tryd.func9, Tryd.ntmps9
  go_wp2_with fail
  refine (c0 _ (by rw [World.cell?_alloc_lt _ _ _ h0]; exact hm)).mono ?_
  rintro e w1 ⟨rfl, rfl⟩
  have G : Hid (((w.alloc (.cells #[.int .i64 0, .int .i64 0, .int .i64 0, .int .i64 0] 23)).alloc (Obj.cells (List.map Value.string (List.map bs L)).toArray 9)).heap[w.heap.size]? = some (.cells #[.int .i64 0, .int .i64 0, .int .i64 0, .int .i64 0] 23 (0, 0))) := by
    unfold Hid
    rw [Below.heap_alloc _ _ _ (by rw [Z9.out]; omega)]
    exact Z8.out
  have B : Hid (Below w.heap.size w ((w.alloc (.cells #[.int .i64 0, .int .i64 0, .int .i64 0, .int .i64 0] 23)).alloc (Obj.cells (List.map Value.string (List.map bs L)).toArray 9))) := ZB.out.alloc (by rw [Z9.out]; omega) _
  clear c0
  generalize World.alloc (World.alloc w _) _ = W2 at *
  have q0 : W2.cell? ⟨w.heap.size, 0, none⟩ = some (.int .i64 0) := by rw [cell_of_row _ _ _ _ _ _ G.out]; rfl
  have q1 : W2.cell? ⟨w.heap.size, 1, none⟩ = some (.int .i64 0) := by rw [cell_of_row _ _ _ _ _ _ G.out]; rfl
  have q2 : W2.cell? ⟨w.heap.size, 2, none⟩ = some (.int .i64 0) := by rw [cell_of_row _ _ _ _ _ _ G.out]; rfl
  have q3 : W2.cell? ⟨w.heap.size, 3, none⟩ = some (.int .i64 0) := by rw [cell_of_row _ _ _ _ _ _ G.out]; rfl
  have f0 := frozen_of_row _ _ 0 _ _ G.out
  have f1 := frozen_of_row _ _ 1 _ _ G.out
  have f2 := frozen_of_row _ _ 2 _ _ G.out
  have f3 := frozen_of_row _ _ 3 _ _ G.out
  go_wp2_with fail
  refine bodyPost_ret (results_cell1 rfl _ _ w.heap.size 23 #[.int .i64 0, .int .i64 0, .int .i64 0, .int .i64 0] (0, 0) _ rfl (blk4 _ _ _ _ G.out) Tryd.underlying23 rfl infoW) rfl ?_
  exact ⟨rfl, set4_below _ _ _ _ B.out (Nat.le_refl _)⟩
end Go.Proofs.YtjcaaiikccnpeaaDoor
