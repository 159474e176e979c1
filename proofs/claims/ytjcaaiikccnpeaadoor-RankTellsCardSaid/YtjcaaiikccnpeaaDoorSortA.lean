/- Sort of any cards, a nil slice too, walked; equality of cards. -/
import Derived.Test.YtjcaaiikccnpeaaDoorStabW
import Derived.Laws.StructEq
namespace Go.Proofs.YtjcaaiikccnpeaaDoor
open Go.ChangeShapes Go.WideShapes Go.ChangeAt Go.RowKit Go.Lib
set_option linter.unusedVariables false

def NilP (w : World) (e : Ending) (w' : World) : Prop := e = .returned (.tuple #[]) ∧ Below w.heap.size w w'
theorem ins_nil (A : Option Addr) (C : Nat) (w : World) : Calls Tryd.prog 70 #[.slice A 0 C, .int .i64 0, .int .i64 0, .func (.func 37) #[] #[]] w (NilP w) := by
  go_enter Tryd.func70, Tryd.ntmps70
  go_wp2
  go_loopw [8] (fun v8 wr => v8 = .int .i64 1 ∧ wr = w) (fun _ _ => 0)
  case atStart => exact ⟨rfl, rfl⟩
  case round =>
    obtain ⟨rfl, rfl⟩ := hrel
    go_wp2
    go_end0
    exact ⟨rfl, Below.refl _ _⟩
theorem stable_nil (A : Option Addr) (C : Nat) (w : World) : Calls Tryd.prog 60 #[.slice A 0 C, .int .i64 0, .func (.func 37) #[] #[]] w (NilP w) := by
  have ci := fun W => ins_nil A C W
  go_enter Tryd.func60, Tryd.ntmps60
  go_wp2
  go_loopw [7, 8] (fun v7 v8 wr => v7 = .int .i64 0 ∧ v8 = .int .i64 20 ∧ wr = w) (fun _ _ _ => 0)
  case atStart => exact ⟨rfl, rfl, rfl⟩
  case round =>
    obtain ⟨rfl, rfl, rfl⟩ := hrel
    go_wp2_with fail
    refine (ci _).mono ?_
    rintro e w1 ⟨rfl, hb⟩
    go_wp2
    obtain ⟨wo, hwo⟩ : ∃ wo : World, wo = w1 := ⟨_, rfl⟩
    go_loopw [6] (fun v6 wr => v6 = .int .i64 20 ∧ wr = w1) (fun _ _ => 0)
    case atStart => exact ⟨rfl, rfl⟩
    case round =>
      obtain ⟨rfl, rfl⟩ := hrel
      go_wp2
      go_end0
      exact ⟨rfl, hb⟩
theorem sortfn_nil (A : Option Addr) (C : Nat) (w : World) : Calls Tryd.prog 44 #[.slice A 0 C, .func (.func 37) #[] #[]] w (NilP w) := by
  have ci := fun W => stable_nil A C W
  go_enter Tryd.func44, Tryd.ntmps44
  go_wp2_with fail
  refine (ci _).mono ?_
  rintro e w1 ⟨rfl, hb⟩
  go_wp2
  go_end0
  exact ⟨rfl, hb⟩
theorem clone_nil (C : Nat) (w : World) : Calls Tryd.prog 43 #[.slice none 0 C] w (fun e w' => e = .returned (.slice none 0 0) ∧ Below w.heap.size w w') := by
  have hnil : ∀ W, (binOp .eql 35 (.slice none 0 C) (.slice none 0 0)).run Tryd.prog W = .ok (.bool true) W := fun W => Lib.run_eql_slice_nil W 35 38 none 0 C 0 0 Tryd.underlying35
  go_enter Tryd.func43, Tryd.ntmps43
  go_wp2
  go_ret
  exact ⟨rfl, Below.refl _ _⟩
/-- sorted cards handed back: a row of their own, or none -/
def SortedP (w : World) (l : List Card) (e : Ending) (w' : World) : Prop := ∃ A C, e = .returned (.slice A l.length C) ∧ CRow w' A l ∧ Below w.heap.size w w'
theorem crow_of_cat {w : World} {g : Nat} {l : List Card} (h : CAt w g l) : CRow w (some ⟨g, 0, none⟩) l := by
  intro _
  refine ⟨g, 0, rfl, fun i v hv => ?_⟩
  have hlt := (List.getElem?_eq_some_iff.1 hv).1
  rw [cardCells_length] at hlt
  obtain ⟨j, t, rfl, ht⟩ : ∃ j t, i = j * 6 + t ∧ t < 6 := ⟨i / 6, i % 6, by omega, by omega⟩
  rw [cardCells_get l j t ht] at hv
  obtain ⟨x, hx, hv⟩ := Option.bind_eq_some_iff.1 hv
  rw [Nat.zero_add]
  exact h j x hx t v hv
theorem sort_some (l : List Card) (b o C : Nat) (w : World) (hn : l.length ≤ 1000000) (hl : CRow w (some ⟨b, o, none⟩) l) : Calls Tryd.prog 21 #[.slice (some ⟨b, o, none⟩) l.length C] w (SortedP w (sortS l)) := by
  have c1 := clone_any l b o C w hn hl
  have c2 := fun g c W hc hg hC hT => sortfn_any l l.length g c W rfl hn hc hg hC hT
  have hlen : (sortS l).length = l.length := sortS_length l
  unfold SortedP
  rw [hlen]
  generalize sortS l = R at *
  clear hl hlen
  go_enter Tryd.func21, Tryd.ntmps21
  go_wp2_with fail
  refine c1.mono ?_
  rintro e w1 ⟨g, c, rfl, h1, h2, h3, h4, h5, h6⟩
  have c3 := c2 g c w1 h1 h3 h4 h5
  clear c1 c2
  go_wp2_with fail
  refine c3.mono ?_
  rintro e w2 ⟨rfl, k1, k2, k3⟩
  have hbel : Below w.heap.size w w2 := h6.grown k3 h6.size (fun x hx => by simp only [Option.some.injEq] at hx; omega)
  have hrow := crow_of_cat k1
  go_wp2
  go_ret
  exact ⟨some ⟨g, 0, none⟩, c, rfl, hrow, hbel⟩
theorem sort_none (C : Nat) (w : World) : Calls Tryd.prog 21 #[.slice none 0 C] w (SortedP w []) := by
  have c1 := clone_nil C w
  have c2 := fun W => sortfn_nil none 0 W
  go_enter Tryd.func21, Tryd.ntmps21
  go_wp2_with fail
  refine c1.mono ?_
  rintro e w1 ⟨rfl, hb1⟩
  go_wp2_with fail
  refine (c2 _).mono ?_
  rintro e w2 ⟨rfl, hb2⟩
  have hb := hb1.trans (hb2.mono hb1.size)
  go_wp2
  go_ret
  exact ⟨none, 0, rfl, fun h => by simp at h, hb⟩
/-- what came in, or was made: nil without cards, else in a block -/
def CIn (w : World) (A : Option Addr) (l : List Card) : Prop := (A = none ∧ l = []) ∨ ∃ b o, A = some ⟨b, o, none⟩ ∧ CRow w A l
theorem sort_any (l : List Card) (A : Option Addr) (C : Nat) (w : World) (hn : l.length ≤ 1000000) (hl : CIn w A l) : Calls Tryd.prog 21 #[.slice A l.length C] w (SortedP w (sortS l)) := by
  rcases hl with ⟨rfl, rfl⟩ | ⟨b, o, rfl, hl⟩
  · exact sort_none C w
  · exact sort_some l b o C w hn hl
theorem bs_inj {a b : List UInt8} (h : bs a = bs b) : a = b := by rw [← bs_toList a, h, bs_toList]
theorem eqb_bs (a b : List UInt8) : ((bs a).toList == (bs b).toList) = decide (a = b) := by
  rw [bs_toList, bs_toList]
  by_cases h : a = b
  · subst h; simp
  · rw [decide_eq_false h]; exact beq_eq_false_iff_ne.2 h
theorem eqb_int (a b : Int) : (a == b) = decide (a = b) := by
  by_cases h : a = b
  · subst h; simp
  · rw [decide_eq_false h]; exact beq_eq_false_iff_ne.2 h
theorem card_eq_iff (c d : Card) : c = d ↔ c.id = d.id ∧ c.by' = d.by' ∧ c.score = d.score ∧ c.time = d.time ∧ c.act = d.act ∧ c.rea = d.rea := by
  constructor
  · rintro rfl; exact ⟨rfl, rfl, rfl, rfl, rfl, rfl⟩
  · obtain ⟨a, b, x, y, z, r⟩ := c
    obtain ⟨a', b', x', y', z', r'⟩ := d
    rintro ⟨rfl, rfl, rfl, rfl, rfl, rfl⟩; rfl
theorem eql_cards (c d : Card) (W : World) : (binOp .eql 38 (.agg (cellsC c)) (.agg (cellsC d))).run Tryd.prog W = .ok (.bool (decide (c = d))) W := by
  have hu : Tryd.prog.underlying 38 = some (.struct (Tryd.prog.fieldsOf 38)) := by kernel_rfl
  have hp : Tryd.prog.stoodInHeld 38 = false := by kernel_rfl
  rw [run_eql_struct, run_equalIn_agg _ _ _ _ _ hu hp]
  unfold Program.fieldsOf
  rw [Tryd.underlying38]
  obtain ⟨a, b, x, y, z, r⟩ := c
  obtain ⟨a', b', x', y', z', r'⟩ := d
  have u3 := Tryd.underlying3
  have u9 := Tryd.underlying9
  simp [Op.eqFields, cellsC, go_sem]
  simp only [bs_toList]
  by_cases h1 : a = a'
  · by_cases h2 : b = b'
    · by_cases h3 : x = x'
      · by_cases h4 : y = y'
        · by_cases h5 : z = z'
          · by_cases h6 : r = r'
            · simp [h1, h2, h3, h4, h5, h6]
            · simp [h1, h2, h3, h4, h5, h6]
          · simp [h1, h2, h3, h4, h5]
        · simp [h1, h2, h3, h4]
      · simp [h1, h2, h3]
    · simp [h1, h2]
  · simp [h1]
theorem neq_of_eql {P : Program} {t : TypeId} {xs ys : Array Value} {W : World} {r : Bool} (h : (binOp .eql t (.agg xs) (.agg ys)).run P W = .ok (.bool r) W) : (binOp .neq t (.agg xs) (.agg ys)).run P W = .ok (.bool (!r)) W := by
  rw [run_eql_struct] at h
  rw [run_neq_struct]
  generalize (Op.equalIn 10000 t (.agg xs) (.agg ys)).run P W = X at *
  cases X with
  | ok b w' =>
    simp only [Result.andThen_ok, Result.ok.injEq, Value.bool.injEq] at h
    obtain ⟨rfl, rfl⟩ := h
    rfl
  | halt x w' => cases h
theorem neq_cards (c d : Card) (W : World) : (binOp .neq 38 (.agg (cellsC c)) (.agg (cellsC d))).run Tryd.prog W = .ok (.bool (!decide (c = d))) W := neq_of_eql (eql_cards c d W)
end Go.Proofs.YtjcaaiikccnpeaaDoor
