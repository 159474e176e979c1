/- New, Same, walked. -/
import Derived.Test.YtipklnakihinkaaBox5
import Derived.Laws.StructEq
namespace Go.Proofs.Ytipklnakihinkaa
open Go.ChangeShapes Go.WideShapes Go.ChangeAt Go.RowKit
set_option linter.unusedVariables false

def SendsAt (w : World) (v : Value) (l : List Send) : Prop :=
  ∃ a c, v = .slice a l.length c ∧ (0 < l.length → ∃ b o, a = some ⟨b, o, none⟩ ∧ ∀ i s, l[i]? = some s →
    w.cell? ⟨b, o + i * 4, none⟩ = some (.int .i64 s.peer) ∧ w.cell? ⟨b, o + i * 4 + 1, none⟩ = some (.int .i64 s.log) ∧ w.cell? ⟨b, o + i * 4 + 2, none⟩ = some (.int .i64 s.start) ∧ w.cell? ⟨b, o + i * 4 + 3, none⟩ = some (.int .i64 s.count))
def sameB (a b : List Send) : Bool := decide (a.map (fun s => (s.peer, s.log, s.start, s.count)) = b.map (fun s => (s.peer, s.log, s.start, s.count)))

theorem eqGuard34 : Try.prog.eqGuardType Try.prog.depth 34 = false := by kernel_rfl
theorem neq34 (a b c d a' b' c' d' : Int) (w : World) : (binOp .neq 34 (.agg #[.int .i64 a, .int .i64 b, .int .i64 c, .int .i64 d]) (.agg #[.int .i64 a', .int .i64 b', .int .i64 c', .int .i64 d'])).run Try.prog w =
    .ok (.bool (!(a == a' && (b == b' && (c == c' && d == d'))))) w := by
  have u3 := Try.underlying3
  have a3 := Try.isAgg3
  have z3 := Try.sizeOf3
  have hS : Try.prog.underlying 34 = some (.struct (Try.prog.fieldsOf 34)) := by kernel_rfl
  have hp : Try.prog.stoodInHeld 34 = false := by kernel_rfl
  rw [run_neq_struct, show (10000 : Nat) = 9999 + 1 from rfl, run_equalIn_agg w 9999 34 _ _ hS hp]
  simp only [Program.fieldsOf, Try.underlying34]
  go_simp
  by_cases h1 : a = a' <;> by_cases h2 : b = b' <;> by_cases h3 : c = c' <;> by_cases h4 : d = d' <;> simp [h1, h2, h3, h4]
theorem sameB_of_all {a b : List Send} (hl : a.length = b.length) (h : ∀ j, j < a.length → (a.map (fun s => (s.peer, s.log, s.start, s.count)))[j]? = (b.map (fun s => (s.peer, s.log, s.start, s.count)))[j]?) : sameB a b = true := by
  unfold sameB
  rw [decide_eq_true_iff]
  apply List.ext_getElem?
  intro j
  by_cases hj : j < a.length
  · exact h j hj
  · rw [List.getElem?_eq_none (by simp; omega), List.getElem?_eq_none (by simp; omega)]
theorem sameB_of_ne {a b : List Send} {k : Nat} {x y : Send} (ha : a[k]? = some x) (hb : b[k]? = some y) (h : ¬ (x.peer = y.peer ∧ x.log = y.log ∧ x.start = y.start ∧ x.count = y.count)) : sameB a b = false := by
  unfold sameB
  rw [decide_eq_false_iff_not]
  intro e
  have := congrArg (fun l => l[k]?) e
  simp only [List.getElem?_map, ha, hb, Option.map_some, Option.some.injEq, Prod.mk.injEq] at this
  exact h this
theorem same_any (a b : List Send) (va vb : Value) (w : World) (ha : SendsAt w va a) (hb : SendsAt w vb b) (hla : a.length ≤ 9223372036854775807) :
    Calls Try.prog 17 #[va, vb] w fun e w' => e = .returned (.bool (sameB a b)) ∧ ∃ k, w' = w.drewN k := by
  obtain ⟨aa, ca, rfl, ha⟩ := ha
  obtain ⟨ab, cb, rfl, hb⟩ := hb
  by_cases hl : a.length = b.length
  · have hne : ((a.length : Int) != (b.length : Int)) = false := by simp [hl]
    rw [← hl] at hb
    have hl' := Lib.hid hl
    rw [← hl] at hne
    go_enter Try.func17, Try.ntmps17
    rw [← hl]
    clear hl
    go_wp2
    go_loopw [5] (fun i wr => ∃ k : Nat, i = .int .i64 k ∧ k ≤ a.length ∧ (∃ q, wr = w.drewN q) ∧ ∀ j, j < k → (a.map (fun s => (s.peer, s.log, s.start, s.count)))[j]? = (b.map (fun s => (s.peer, s.log, s.start, s.count)))[j]?) (fun i _ => a.length - (intOf i).toNat)
    case atStart => exact ⟨0, rfl, by omega, ⟨0, rfl⟩, fun j hj => by omega⟩
    case round =>
      obtain ⟨k, rfl, hk, ⟨q, rfl⟩, hall⟩ := hrel
      by_cases hlt : k < a.length
      · obtain ⟨ba, oa, rfl, hca⟩ := ha (by omega)
        obtain ⟨bb, ob, rfl, hcb⟩ := hb (by omega)
        obtain ⟨a0, a1, a2, a3⟩ := hca k a[k] (List.getElem?_eq_getElem hlt)
        have hltb : k < b.length := by rw [← hl'.out]; exact hlt
        obtain ⟨b0, b1, b2, b3⟩ := hcb k b[k] (List.getElem?_eq_getElem hltb)
        have HA := Lib.hid hall
        have hxa : a[k]? = some a[k] := List.getElem?_eq_getElem hlt
        have hxb : b[k]? = some b[k] := List.getElem?_eq_getElem hltb
        obtain ⟨x, hx⟩ : ∃ x, x = a[k] := ⟨_, rfl⟩
        obtain ⟨y, hy⟩ : ∃ y, y = b[k] := ⟨_, rfl⟩
        rw [← hx] at a0 a1 a2 a3 hxa
        rw [← hy] at b0 b1 b2 b3 hxb
        have HX := Lib.hid hxa
        have HY := Lib.hid hxb
        have hq := eqGuard34
        have hn := neq34 x.peer x.log x.start x.count y.peer y.log y.start y.count
        clear hall hca hcb ha hb hx hy hxa hxb
        by_cases heq : x.peer = y.peer ∧ x.log = y.log ∧ x.start = y.start ∧ x.count = y.count
        · have ht : (x.peer == y.peer && (x.log == y.log && (x.start == y.start && x.count == y.count))) = true := by simp [heq]
          rw [ht] at hn
          have HE := Lib.hid heq
          clear heq ht
          go_wp2
          go_quiet (fail)
          go_wp2
          go_roundw
          case rel =>
            refine ⟨k + 1, by go_num, by omega, ⟨_, rfl⟩, fun j hj => ?_⟩
            by_cases hjk : j < k
            · exact HA.out j hjk
            · obtain rfl : j = k := by omega
              simp only [List.getElem?_map, HX.out, HY.out, Option.map_some, HE.out]
          case measure => simp [intOf]; omega
        · have ht : (x.peer == y.peer && (x.log == y.log && (x.start == y.start && x.count == y.count))) = false := by
            simp only [Bool.eq_false_iff, ne_eq, Bool.and_eq_true, beq_iff_eq]; exact heq
          rw [ht] at hn
          have hF := Lib.hid (sameB_of_ne HX.out HY.out heq)
          clear heq ht
          go_wp2
          go_quiet (fail)
          go_wp2
          go_ret
          rw [hF.out]
          exact ⟨rfl, _, World.drewN_drewN _ _ _⟩
      · obtain rfl : k = a.length := by omega
        have hF := Lib.hid (sameB_of_all hl'.out hall)
        clear hall ha hb
        go_wp2
        go_ret
        rw [hF.out]
        exact ⟨rfl, _, rfl⟩
  · have hne : ((a.length : Int) != (b.length : Int)) = true := by simp; omega
    have hF : Hid (sameB a b = false) := by
      unfold sameB Hid
      rw [decide_eq_false_iff_not]
      intro e
      have := congrArg List.length e
      simp at this
      exact hl this
    clear hl ha hb
    go_enter Try.func17, Try.ntmps17
    go_wp2
    go_ret
    rw [hF.out]
    exact ⟨rfl, 0, rfl⟩
end Go.Proofs.Ytipklnakihinkaa
