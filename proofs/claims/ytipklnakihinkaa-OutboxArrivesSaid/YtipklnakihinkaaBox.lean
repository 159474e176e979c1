/- The walks of the box's methods: each is met by its plain function. -/
import Derived.Test.YtipklnakihinkaaChecked
import Derived.Test.YtipklnakihinkaaBase
import Derived.Test.YtipklnakihinkaaModel
import Derived.WalkKit
import Derived.ProofKit
import Derived.OpenShut
import Derived.Outline
import Derived.Deep.QuietTactic
import Derived.Deep.RegionWith
import Derived.BigQuiet
import Derived.Maps.Own
import Derived.Maps.Views
import Derived.DeepKeys4
import Derived.Lib.Hide
namespace Go.Proofs.Ytipklnakihinkaa
open Go.ChangeShapes Go.WideShapes Go.ChangeAt Go.RowKit
open Go.Maps (Keyed)
set_option linter.unusedVariables false

theorem laidOut : laidOutB Try.prog = true := by kernel_rfl
theorem pairKeyed : Keyed Try.prog 52 := Keyed.of_law (deep_law_laid laidOut (m := Try.prog.types.size + 1) (of_decide_eq_true (by kernel_rfl)) (of_decide_eq_true (by kernel_rfl)) (by kernel_rfl) (by kernel_rfl))
def wf64 (a : Int) : Prop := -9223372036854775808 ≤ a ∧ a ≤ 9223372036854775807
theorem wf_of {a : Int} (h : wf64 a) : (Lit.int .i64 a).wf = true := by
  unfold wf64 at h; simp [Lit.wf, IntKind.min, IntKind.max, IntKind.signed, IntKind.bits]; omega
theorem of_wf {a : Int} (h : (Lit.int .i64 a).wf = true) : wf64 a := by
  unfold wf64; simp [Lit.wf, IntKind.min, IntKind.max, IntKind.signed, IntKind.bits] at h; omega
theorem keyTy : Try.prog.keyType 52 = true := by kernel_rfl
theorem cells52 : Try.prog.cellsOf 52 = 2 := by kernel_rfl
theorem cells3 : Try.prog.cellsOf 3 = 1 := by kernel_rfl
theorem keyLits3 (d : Nat) {p : Int} (hp : wf64 p) : Try.prog.keyLits (d + 1) 3 [.int .i64 p] = some [.int .i64 p] := by
  unfold Program.keyLits
  simp only [Try.underlying3]
  simp [wf_of hp]
theorem keyLits52 (d : Nat) {p l : Int} (hp : wf64 p) (hl : wf64 l) : Try.prog.keyLits (d + 2) 52 [.int .i64 p, .int .i64 l] = some [.int .i64 p, .int .i64 l] := by
  unfold Program.keyLits
  simp only [Try.underlying52, cells52]
  simp [cells3, keyLits3 d hp, keyLits3 d hl]
theorem typesSize : Try.prog.types.size = 76 + 1 := by kernel_rfl
theorem keyOf_pair {p l : Int} (hp : wf64 p) (hl : wf64 l) : ∃ kl, keyOf Try.prog 52 (.agg #[.int .i64 p, .int .i64 l]) = some kl := by
  have h1 : (Value.agg #[.int .i64 p, .int .i64 l]).formed Try.prog 52 = true := by
    simp only [Value.formed, Try.underlying52, cells52]; rfl
  unfold keyOf
  simp only [Try.underlying52, keyTy, h1]
  rw [typesSize, Value.cells, keyLits52 _ hp hl]
  exact ⟨_, rfl⟩

/-- block b is a map of at most n entries that answers f -/
def MapAt (w : World) (b n : Nat) (f : Int → Int → Int) : Prop :=
  ∃ D : DataW Unit, w.ownsMap Try.prog 52 (plainElem Try.prog 3) b n D ∧ Go.Maps.IsMap D ∧
    ∀ (p l : Int) (kl : Lit), wf64 p → wf64 l → keyOf Try.prog 52 (.agg #[.int .i64 p, .int .i64 l]) = some kl → D.atKey kl (.lit (.int .i64 0)) = .lit (.int .i64 (f p l))
theorem zero3 (w : World) : (zeroValue 3).run Try.prog w = .ok (.int .i64 0) w := by kernel_rfl
theorem MapAt.look {w : World} {b n : Nat} {f : Int → Int → Int} (h : MapAt w b n f) {p l : Int} (hp : wf64 p) (hl : wf64 l) :
    (Instr.lookup 48 (.map (some b)) (.agg #[.int .i64 p, .int .i64 l]) false).run Try.prog w = .ok (.int .i64 (f p l)) w ∧ wf64 (f p l) := by
  obtain ⟨D, ho, hm, hf⟩ := h
  obtain ⟨kl, hk⟩ := keyOf_pair hp hl
  obtain ⟨c, hrun, hat, hw⟩ := ho.lookup_int pairKeyed Try.underlying48 Try.underlying3 (zero3 w) hk
  rw [hf p l kl hp hl hk] at hat
  have e : f p l = c := by injection hat with h1; injection h1
  rw [e]
  exact ⟨hrun, of_wf hw⟩
theorem MapAt.upd {w : World} {b n : Nat} {f : Int → Int → Int} (h : MapAt w b n f) (hn : n < maxLen) {p l v : Int} (hp : wf64 p) (hl : wf64 l) (hv : wf64 v) :
    ∃ w', (Instr.mapUpdate 48 (.map (some b)) (.agg #[.int .i64 p, .int .i64 l]) (.int .i64 v)).run Try.prog w = .ok () w' ∧ MapAt w' b (n + 1) (upd f p l v) ∧ Chg [b] w w' := by
  obtain ⟨D, ho, hm, hf⟩ := h
  obtain ⟨kl, hk⟩ := keyOf_pair hp hl
  obtain ⟨w', hrun, ho', hg⟩ := ho.update pairKeyed Try.underlying48 hn hk (plainElem_int Try.underlying3 (wf_of hv))
  refine ⟨w', hrun, ⟨_, ho', hm.put _ _, fun p' l' kl' hp' hl' hk' => ?_⟩, Chg.of_grownBy hg⟩
  unfold Ytipklnakihinkaa.upd
  by_cases e : kl' = kl
  · subst e
    have := pairKeyed.inj hk hk'
    simp at this
    rw [Go.Maps.atKey_put_same hm (pairKeyed.key hk), if_pos ⟨this.1.symm, this.2.symm⟩]
  · rw [Go.Maps.atKey_put_other e, hf p' l' kl' hp' hl' hk', if_neg]
    rintro ⟨rfl, rfl⟩
    rw [hk] at hk'
    injection hk' with hk'
    exact e hk'.symm
theorem MapAt.new (w : World) : MapAt (w.alloc (.map #[] 0)) w.heap.size 0 (fun _ _ => 0) :=
  ⟨.map [], World.ownsMap_made w _ _ _, Go.Maps.isMap_empty, fun _ _ _ _ _ _ => rfl⟩
theorem MapAt.lt {w : World} {b n : Nat} {f : Int → Int → Int} (h : MapAt w b n f) : b < w.heap.size := h.choose_spec.1.lt
theorem MapAt.keep {S : List Nat} {w w' : World} {b n : Nat} {f : Int → Int → Int} (h : MapAt w b n f) (hc : Chg S w w') (hn : b ∉ S) : MapAt w' b n f := by
  have hlt := h.lt
  obtain ⟨D, ⟨es, clock, hb, r⟩, q⟩ := h
  exact ⟨D, ⟨es, clock, (hc.block b hlt hn).trans hb, r⟩, q⟩

/-- the peers' cells -/
def flat : List Peer → List Value
  | [] => []
  | p :: r => .int .i64 p.due :: .int .i64 p.waiting :: .bool p.gone :: flat r
theorem flat_length : ∀ l : List Peer, (flat l).length = l.length * 3
  | [] => rfl
  | p :: r => by simp [flat, flat_length r]; omega
theorem flat_get : ∀ (l : List Peer) (j : Nat) (p : Peer), l[j]? = some p →
    (flat l)[j * 3]? = some (.int .i64 p.due) ∧ (flat l)[j * 3 + 1]? = some (.int .i64 p.waiting) ∧ (flat l)[j * 3 + 2]? = some (.bool p.gone)
  | [], j, p, h => by simp at h
  | q :: r, 0, p, h => by simp at h; subst h; simp [flat]
  | q :: r, j + 1, p, h => by
    have := flat_get r j p (by simpa using h)
    rw [show (j + 1) * 3 = j * 3 + 3 by omega]
    exact this
theorem flat_set0 : ∀ (l : List Peer) (j : Nat) (p : Peer) (x : Int), l[j]? = some p → (flat l).set (j * 3) (.int .i64 x) = flat (l.set j { p with due := x })
  | [], j, p, x, h => by simp at h
  | q :: r, 0, p, x, h => by simp at h; subst h; simp [flat]
  | q :: r, j + 1, p, x, h => by
    have := flat_set0 r j p x (by simpa using h)
    rw [show (j + 1) * 3 = j * 3 + 3 by omega]
    simp [flat, this]
theorem flat_set1 : ∀ (l : List Peer) (j : Nat) (p : Peer) (x : Int), l[j]? = some p → (flat l).set (j * 3 + 1) (.int .i64 x) = flat (l.set j { p with waiting := x })
  | [], j, p, x, h => by simp at h
  | q :: r, 0, p, x, h => by simp at h; subst h; simp [flat]
  | q :: r, j + 1, p, x, h => by
    have := flat_set1 r j p x (by simpa using h)
    rw [show (j + 1) * 3 + 1 = (j * 3 + 1) + 3 by omega]
    simp [flat, this]
theorem flat_set2 : ∀ (l : List Peer) (j : Nat) (p : Peer) (x : Bool), l[j]? = some p → (flat l).set (j * 3 + 2) (.bool x) = flat (l.set j { p with gone := x })
  | [], j, p, x, h => by simp at h
  | q :: r, 0, p, x, h => by simp at h; subst h; simp [flat]
  | q :: r, j + 1, p, x, h => by
    have := flat_set2 r j p x (by simpa using h)
    rw [show (j + 1) * 3 + 2 = (j * 3 + 2) + 3 by omega]
    simp [flat, this]

def boxCells (X : BoxM) (bP bM : Nat) : Array Value := #[.int .i64 X.me, .int .i64 X.budget, .slice (some ⟨bP, 0, none⟩) X.l.length X.l.length, .map (some bM)]
/-- the box X lies in the blocks bB, bP, bM -/
structure BoxAt (w : World) (bB bP bM n : Nat) (X : BoxM) : Prop where
  box : w.heap[bB]? = some (.cells (boxCells X bP bM) 50 (0, 0))
  peers : w.heap[bP]? = some (.cells (flat X.l).toArray 57 (0, 0))
  sizes : MapAt w bM n X.m
  few : X.l.length ≤ 20
  pos : ∀ i log, 0 ≤ X.m i log
theorem BoxAt.keep {S : List Nat} {w w' : World} {bB bP bM n : Nat} {X : BoxM} (h : BoxAt w bB bP bM n X) (hc : Chg S w w') (h1 : bB ∉ S) (h2 : bP ∉ S) (h3 : bM ∉ S) : BoxAt w' bB bP bM n X :=
  ⟨hc.heap_some h1 h.box, hc.heap_some h2 h.peers, h.sizes.keep hc h3, h.few, h.pos⟩
theorem BoxAt.drewN {w : World} {bB bP bM n : Nat} {X : BoxM} (h : BoxAt w bB bP bM n X) (k : Nat) : BoxAt (w.drewN k) bB bP bM n X :=
  h.keep ((Chg.refl [] w).drewN k) (by simp) (by simp) (by simp)
theorem BoxAt.c0 {w : World} {bB bP bM n : Nat} {X : BoxM} (h : BoxAt w bB bP bM n X) : w.cell? ⟨bB, 0, none⟩ = some (.int .i64 X.me) := cell_row h.box 0
theorem BoxAt.c1 {w : World} {bB bP bM n : Nat} {X : BoxM} (h : BoxAt w bB bP bM n X) : w.cell? ⟨bB, 1, none⟩ = some (.int .i64 X.budget) := cell_row h.box 1
theorem BoxAt.c2 {w : World} {bB bP bM n : Nat} {X : BoxM} (h : BoxAt w bB bP bM n X) : w.cell? ⟨bB, 2, none⟩ = some (.slice (some ⟨bP, 0, none⟩) X.l.length X.l.length) := cell_row h.box 2
theorem BoxAt.c3 {w : World} {bB bP bM n : Nat} {X : BoxM} (h : BoxAt w bB bP bM n X) : w.cell? ⟨bB, 3, none⟩ = some (.map (some bM)) := cell_row h.box 3
theorem BoxM.get {X : BoxM} {j : Nat} (hj : j < X.l.length) : X.l[j]? = some (X.at_ j) := by
  simp [BoxM.at_, List.getD, List.getElem?_eq_getElem hj]
theorem BoxAt.p {w : World} {bB bP bM n : Nat} {X : BoxM} (h : BoxAt w bB bP bM n X) {j : Nat} (hj : j < X.l.length) :
    w.cell? ⟨bP, j * 3, none⟩ = some (.int .i64 (X.at_ j).due) ∧ w.cell? ⟨bP, j * 3 + 1, none⟩ = some (.int .i64 (X.at_ j).waiting) ∧ w.cell? ⟨bP, j * 3 + 2, none⟩ = some (.bool (X.at_ j).gone) := by
  have := flat_get X.l j _ (BoxM.get hj)
  simp only [cell_row h.peers, List.getElem?_toArray]
  exact this
theorem BoxAt.fz {w : World} {bB bP bM n : Nat} {X : BoxM} (h : BoxAt w bB bP bM n X) (j : Nat) : w.frozen? ⟨bP, j, none⟩ = false := frozen_row h.peers j

theorem clamp_any (n lo hi : Int) (w : World) :
    Calls Try.prog 23 #[.int .i64 n, .int .i64 lo, .int .i64 hi] w fun e w' => e = .returned (.int .i64 (clampI n lo hi)) ∧ w = w' := by
  unfold clampI
  go_enter Try.func23, Try.ntmps23
  go_wp2
  all_goals go_ret
  all_goals simp [*]
  all_goals omega
theorem clampt_any (n : Int) (w : World) :
    Calls Try.prog 18 #[.int .i64 n] w fun e w' => e = .returned (.int .i64 (clampT n)) ∧ w = w' := by
  unfold clampT
  go_enter Try.func18, Try.ntmps18
  go_wp2_with (go_at_call 23; refine (clamp_any _ _ _ _).mono ?_; rintro e w' ⟨rfl, rfl⟩)
  go_ret
  exact ⟨rfl, rfl⟩
theorem server_any (b : Nat) (v : Option Addr) (n c : Nat) (i : Int) (w : World) (hc : w.cell? ⟨b, 2, none⟩ = some (.slice v n c)) :
    Calls Try.prog 22 #[.pointer (some ⟨b, 0, none⟩), .int .i64 i] w fun e w' => e = .returned (.bool (srvB i n)) ∧ w = w' := by
  unfold srvB
  go_enter Try.func22, Try.ntmps22
  go_wp2
  all_goals go_ret
  all_goals simp [*]
  all_goals omega
theorem peer_any {bB bP bM n : Nat} {X : BoxM} (i : Int) (w : World) (h : BoxAt w bB bP bM n X) :
    Calls Try.prog 21 #[.pointer (some ⟨bB, 0, none⟩), .int .i64 i] w fun e w' => e = .returned (.bool (X.peerB i)) ∧ w = w' := by
  have h0 := h.c0
  have h2 := h.c2
  unfold BoxM.peerB
  cases hs : srvB i X.l.length
  · have hsrv := server_any bB _ _ _ i w h2
    rw [hs] at hsrv
    clear hs h
    go_enter Try.func21, Try.ntmps21
    go_wp2_with (go_at_call 22; refine hsrv.mono ?_; rintro e w' ⟨rfl, rfl⟩)
    go_ret
    exact ⟨rfl, rfl⟩
  · have hsrv := server_any bB _ _ _ i w h2
    rw [hs] at hsrv
    have hs' : 0 ≤ i ∧ i < X.l.length := by simpa [srvB] using hs
    obtain ⟨j, rfl⟩ : ∃ j : Nat, i = j := ⟨i.toNat, by omega⟩
    have hj : j < X.l.length := by omega
    obtain ⟨_, _, hp⟩ := h.p hj
    simp only [Int.toNat_natCast]
    clear hs h hs'
    by_cases hm : (j : Int) = X.me
    · have hm2 : ((j : Int) != X.me) = false := by simp [hm]
      go_enter Try.func21, Try.ntmps21
      clear hm
      go_wp2_with (go_at_call 22; refine hsrv.mono ?_; rintro e w' ⟨rfl, rfl⟩)
      go_ret
      exact ⟨by simp at hm2; simp [hm2], rfl⟩
    · have hm2 : ((j : Int) != X.me) = true := by simp [hm]
      go_enter Try.func21, Try.ntmps21
      clear hm
      go_wp2_with (go_at_call 22; refine hsrv.mono ?_; rintro e w' ⟨rfl, rfl⟩)
      go_ret
      exact ⟨by simp at hm2; simp [hm2], rfl⟩
end Go.Proofs.Ytipklnakihinkaa
