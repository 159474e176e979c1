/- A region whose head only reads and calls quietly, and whose tail is forced: the head by the cheap quiet step. -/
import Derived.StillTailTactics
import Derived.BigQuiet
namespace Go.Proofs.YtjcaaiikccnpeaaDoor
section
variable {P : Program} {ops : Array Oper} {w : World}
theorem still_of_quiet {o : Oper} {a : Act} {K : Act → Prop} (h : o.quiet P a (fun w' => w' = w) K) : o.still P a w K := by
  obtain ⟨v, hv, hk⟩ := h
  have h1 := hv w rfl
  unfold Oper.quietAt at h1
  unfold Oper.still
  generalize (execOp a.eval o).run P w = r at *
  cases r with
  | halt x w' => simp [Oper.quietUpon] at h1
  | ok n w' =>
    cases n with
    | value u =>
      obtain ⟨h2, h3⟩ := h1
      subst h2
      subst h3
      exact ⟨rfl, hk⟩
    | skip =>
      obtain ⟨h2, h3⟩ := h1
      subst h2
      subst h3
      exact ⟨rfl, hk⟩
    | enter f args =>
      obtain ⟨h2, h3⟩ := h1
      subst h2
      exact ⟨rfl, v, h3, hk⟩
    | defer d => simp [Oper.quietUpon] at h1
    | row r args => simp [Oper.quietUpon] at h1
    | _ => simp [Oper.quietUpon] at h1
theorem wpStill_of_wpQuiet {Q : Act → Prop} : ∀ (l : List Oper) (a : Act), wpQuiet P ops (fun w' => w' = w) Q l a → wpStill P ops w Q l a
  | [], a, h => h
  | o :: rest, a, h => by
    unfold wpQuiet at h
    unfold wpStill
    split
    · next hw =>
      rw [if_pos hw] at h
      obtain ⟨v, hv, hk⟩ := h
      exact still_of_quiet ⟨v, hv, wpStill_of_wpQuiet rest _ hk⟩
    · next hw =>
      rw [if_neg hw] at h
      exact wpStill_of_wpQuiet rest _ h
end
end Go.Proofs.YtjcaaiikccnpeaaDoor
