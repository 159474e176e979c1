/- OutboxMoves: the plain law. -/
import Derived.Test.YtipklnakihinkaaModel
namespace Go.Proofs.Ytipklnakihinkaa
structure Act where
  kind : Int
  peer : Int
  log : Int
  n : Int
  now : Int
def okB (me : Int) (N : Nat) (p g : Int) : Bool := decide (0 ≤ p ∧ p < N ∧ p ≠ me ∧ 0 ≤ g ∧ g < N ∧ g ≠ p)
/-- the greatest size that was acknowledged for p and g, by the first acts -/
def best (l : List Act) (p g : Int) : Int := l.foldl (fun b x => if x.peer = p ∧ x.log = g then max b x.n else b) 0
theorem best_snoc (l : List Act) (x : Act) (p g : Int) : best (l ++ [x]) p g = if x.peer = p ∧ x.log = g then max (best l p g) x.n else best l p g := by
  unfold best; rw [List.foldl_append]; rfl
theorem best_take (l : List Act) (i : Nat) (h : i < l.length) (p g : Int) : best (l.take (i + 1)) p g = if l[i].peer = p ∧ l[i].log = g then max (best (l.take i) p g) l[i].n else best (l.take i) p g := by
  rw [List.take_succ_eq_append_getElem h]; exact best_snoc _ _ _ _
/-- what is known of the box behind the acts l -/
structure MovesInv (me : Int) (N : Nat) (l : List Act) (X : BoxM) : Prop where
  me_ : X.me = me
  len : X.l.length = N
  gone : ∀ i, (X.at_ i).gone = false
  m : ∀ p g, X.m p g = if okB me N p g then best l p g else 0
theorem MovesInv.new (me : Int) (N : Nat) (budget : Int) : MovesInv me N [] { me := me, budget := budget, l := List.replicate N ⟨0, 0, false⟩, m := fun _ _ => 0 } :=
  ⟨rfl, by simp, fun i => by
    by_cases h : i < N
    · simp [BoxM.at_, List.getD, h]
    · simp [BoxM.at_, List.getD, h], fun p g => by simp [best]⟩
theorem MovesInv.ackB {me : Int} {N : Nat} {l : List Act} {X : BoxM} (h : MovesInv me N l X) (p g size : Int) : X.ackB p g size = (okB me N p g && decide (X.m p g < size)) := by
  unfold BoxM.ackB BoxM.peerB srvB okB
  rw [h.me_, h.len, h.gone]
  simp only [Bool.not_false, Bool.and_true]
  rw [Bool.eq_iff_iff]
  simp only [Bool.and_eq_true, decide_eq_true_eq]
  omega
theorem MovesInv.step {me : Int} {N : Nat} {l : List Act} {X : BoxM} (h : MovesInv me N l X) (x : Act) : MovesInv me N (l ++ [x]) (X.ack x.peer x.log x.n x.now) := by
  unfold BoxM.ack
  rw [h.ackB]
  have hm := h.m
  by_cases hk : okB me N x.peer x.log = true
  · by_cases hs : X.m x.peer x.log < x.n
    · rw [if_pos (by simp [hk, hs])]
      refine ⟨h.me_, by simp [BoxM.acked, h.len], fun i => ?_, fun p g => ?_⟩
      · have := h.gone i
        have h2 := h.gone x.peer.toNat
        simp only [BoxM.acked, BoxM.at_, List.getD, List.getElem?_set] at this h2 ⊢
        by_cases hi : x.peer.toNat = i
        · subst hi
          by_cases hl : x.peer.toNat < X.l.length
          · rw [List.getElem?_eq_getElem hl] at h2
            simpa [hl] using h2
          · simp [hl]
        · simp [hi, this]
      · simp only [BoxM.acked, upd]
        rw [best_snoc]
        by_cases he : p = x.peer ∧ g = x.log
        · obtain ⟨rfl, rfl⟩ := he
          have := hm x.peer x.log
          rw [if_pos hk] at this
          simp only [and_self, if_true, hk]
          omega
        · have he2 : ¬ (x.peer = p ∧ x.log = g) := fun h => he ⟨h.1.symm, h.2.symm⟩
          rw [if_neg he, if_neg he2, hm]
    · rw [if_neg (by simp [hs])]
      refine ⟨h.me_, h.len, h.gone, fun p g => ?_⟩
      rw [best_snoc]
      by_cases he : x.peer = p ∧ x.log = g
      · obtain ⟨rfl, rfl⟩ := he
        have := hm x.peer x.log
        rw [if_pos hk] at this
        simp only [and_self, if_true, hk]
        omega
      · rw [if_neg he, hm]
  · rw [if_neg (by simp [hk])]
    refine ⟨h.me_, h.len, h.gone, fun p g => ?_⟩
    rw [best_snoc, hm]
    by_cases he : x.peer = p ∧ x.log = g
    · obtain ⟨rfl, rfl⟩ := he
      rw [if_neg hk, if_neg hk]
    · rw [if_neg he]
end Go.Proofs.Ytipklnakihinkaa
