/- OutboxWaits: the plain law. -/
import Derived.Test.YtipklnakihinkaaPlanModel
import Derived.Test.YtipklnakihinkaaLastModel
namespace Go.Proofs.Ytipklnakihinkaa

structure WInv (n : Nat) (k : Nat) (next wait : Int) (X : BoxM) : Prop where
  me : X.me = 0
  len : X.l.length = n
  bud : 64 ≤ X.budget ∧ X.budget ≤ 9223372036854775807
  gone : (X.at_ 1).gone = false
  due : (X.at_ 1).due = next
  wt : wait = pauseI ((X.at_ 1).waiting + 1)
  lo : ∀ i, 0 ≤ (X.at_ i).waiting
  hi : ∀ i, (X.at_ i).waiting ≤ k
  nx : 0 ≤ next ∧ next ≤ 1000

theorem pauseI_next (k : Int) (h : 0 ≤ k) : pauseI (k + 1 + 1) = if 16 < 2 * pauseI (k + 1) then 16 else 2 * pauseI (k + 1) := by
  unfold pauseI
  (repeat' split) <;> omega
theorem pauseI_rng (k : Int) : 1 ≤ pauseI k ∧ pauseI k ≤ 16 := by
  unfold pauseI; (repeat' split) <;> omega
theorem WInv.new (n : Nat) (budget : Int) (hb : budget ≤ 9223372036854775807) : WInv n 0 0 1 { me := 0, budget := max budget 64, l := List.replicate n ⟨0, 0, false⟩, m := fun _ _ => 0 } := by
  have hat : ∀ i, (BoxM.at_ { me := 0, budget := max budget 64, l := List.replicate n ⟨0, 0, false⟩, m := fun _ _ => 0 } i) = ⟨0, 0, false⟩ := by
    intro i
    by_cases h : i < n <;> simp [BoxM.at_, List.getD, h]
  exact ⟨rfl, by simp, ⟨by simp only; omega, by simp only; omega⟩, by rw [hat], by rw [hat], by rw [hat]; rfl, fun i => by rw [hat]; simp, fun i => by rw [hat]; simp, by omega⟩
theorem clampT_small {k : Nat} (h : k ≤ 200) : clampT k = k := by
  unfold clampT clampI; rw [if_neg (by omega), if_neg (by omega)]
theorem WInv.peer {n k : Nat} {next wait : Int} {X : BoxM} (h : WInv n k next wait X) (hn : 2 ≤ n) : X.peerB 1 = true := by
  unfold BoxM.peerB srvB
  rw [h.me, h.len]
  have hg : (X.at_ (1 : Int).toNat).gone = false := h.gone
  rw [hg]
  simp; omega
theorem WInv.dueB {n k : Nat} {next wait : Int} {X : BoxM} (h : WInv n k next wait X) (hn : 2 ≤ n) (hk : k ≤ 200) : X.dueB 1 k = decide (next ≤ k) := by
  unfold BoxM.dueB
  rw [h.peer hn, clampT_small hk]
  have hd : (X.at_ (1 : Int).toNat).due = next := h.due
  rw [hd]
  simp
theorem WInv.ackB {n k : Nat} {next wait : Int} {X : BoxM} (h : WInv n k next wait X) (hn : 2 ≤ n) : X.ackB 1 0 1 = decide (X.m 1 0 < 1) := by
  unfold BoxM.ackB
  rw [h.peer hn, h.len]
  unfold srvB
  simp
  intro
  omega
theorem WInv.acked {n k : Nat} {next wait : Int} {X : BoxM} (h : WInv n k next wait X) (hn : 2 ≤ n) (hk : k ≤ 200) : WInv n k k 1 (X.acked 1 0 1 k) := by
  have hat1 : (X.acked 1 0 1 k).at_ 1 = ⟨clampT k, 0, false⟩ := by
    have := h.gone
    have e : (X.at_ (1 : Int).toNat) = X.at_ 1 := rfl
    have hl : 1 < X.l.length := by rw [h.len]; omega
    simp only [BoxM.acked, e, this]
    exact at_set_eq (X := X) _ hl
  have hat : ∀ i, i ≠ 1 → (X.acked 1 0 1 k).at_ i = X.at_ i := fun i hi => at_set_ne' (X := X) _ hi
  refine ⟨h.me, by simp [BoxM.acked, h.len], h.bud, by rw [hat1], by rw [hat1]; exact clampT_small hk, by rw [hat1]; rfl, fun i => ?_, fun i => ?_, by omega⟩
  · by_cases hi : i = 1
    · subst hi; rw [hat1]; simp
    · rw [hat i hi]; exact h.lo i
  · by_cases hi : i = 1
    · subst hi; rw [hat1]; simp
    · rw [hat i hi]; exact h.hi i
/-- is peer 1 planned for? -/
def servedB (l : List Send) : Bool := l.any (fun s => decide (s.peer = 1))
theorem servedB_take (l : List Send) (j : Nat) (h : j < l.length) : servedB (l.take (j + 1)) = (servedB (l.take j) || decide (l[j].peer = 1)) := by
  unfold servedB
  rw [List.take_succ_eq_append_getElem h, List.any_append, List.any_cons, List.any_nil, Bool.or_false]
theorem served_iff {X : BoxM} (now : Int) (ends : List (List Int)) (hb : 0 ≤ X.budget) : servedB (X.plan now ends).2 = decide (sendsOf X (clampT now) ends 1 ≠ []) := by
  obtain ⟨h1, _⟩ := plan_spec X now ends
  rw [h1]
  unfold servedB
  rw [Bool.eq_iff_iff, List.any_eq_true, decide_eq_true_eq]
  constructor
  · rintro ⟨s, hs, hp⟩
    simp only [decide_eq_true_eq] at hp
    obtain ⟨i, _, hi⟩ := List.mem_flatMap.1 hs
    have hne : sendsOf X (clampT now) ends i ≠ [] := fun h => by rw [h] at hi; simp at hi
    obtain ⟨_, hd⟩ := sendsOf_lt hne
    have hi' : s ∈ X.planFor i (clampT now) ends := by simpa [sendsOf, hd] using hi
    have hg := (planFor_good X i (clampT now) ends hb).1 s hi'
    have : i = 1 := by have := hg.1; omega
    rw [← this]; exact hne
  · intro hne
    obtain ⟨hl, hd⟩ := sendsOf_lt hne
    cases hs : sendsOf X (clampT now) ends 1 with
    | nil => exact absurd hs hne
    | cons s r =>
      have hm : s ∈ sendsOf X (clampT now) ends 1 := by rw [hs]; simp
      refine ⟨s, List.mem_flatMap.2 ⟨1, List.mem_range.2 hl, hm⟩, ?_⟩
      have hi' : s ∈ X.planFor 1 (clampT now) ends := by
        unfold sendsOf at hm
        rw [if_pos hd] at hm
        exact hm
      have hg := (planFor_good X 1 (clampT now) ends hb).1 s hi'
      simpa using hg.1
/-- a plan: peer 1 is served only if it is due; if it is due and lacks something, it is served -/
theorem WInv.plan {n k : Nat} {next wait : Int} {X : BoxM} (h : WInv n k next wait X) (hn : 2 ≤ n) (hk : k < 200) (ends : List (List Int)) :
    (servedB (X.plan k ends).2 = true → next ≤ k ∧ WInv n (k + 1) (k + wait) (if 16 < 2 * wait then 16 else 2 * wait) (X.plan k ends).1) ∧
    (servedB (X.plan k ends).2 = false → WInv n (k + 1) next wait (X.plan k ends).1) ∧
    (X.plan k ends).1.m = X.m ∧
    (∀ l, ends.head? = some l → next ≤ k → 0 ≤ X.m 1 0 → X.m 1 0 < lastI l → servedB (X.plan k ends).2 = true) := by
  obtain ⟨_, q1, q2, q3, q4, q5⟩ := plan_spec X k ends
  have hs := served_iff (X := X) k ends (by have := h.bud; omega)
  have hck := clampT_small (k := k) (by omega)
  rw [hck] at hs q5
  have hlo : ∀ i, 0 ≤ ((X.plan k ends).1.at_ i).waiting := by
    intro i
    have := h.lo i
    rw [q5]; split
    · simp only [bumped]; omega
    · exact this
  have hhi : ∀ i, ((X.plan k ends).1.at_ i).waiting ≤ (k + 1 : Nat) := by
    intro i
    have := h.hi i
    rw [q5]; split
    · simp only [bumped]; omega
    · omega
  refine ⟨fun ht => ?_, fun hf => ?_, q3, fun l hl hnx h0 hlt => ?_⟩
  · rw [ht] at hs
    have hne : sendsOf X k ends 1 ≠ [] := by simpa using hs.symm
    have hd := (sendsOf_lt hne).2
    have hd' := h.dueB hn (by omega : k ≤ 200)
    have hd2 : X.dueB 1 k = true := hd
    rw [hd'] at hd2
    have hnx : next ≤ k := by simpa using hd2
    have h1 : (X.plan k ends).1.at_ 1 = bumped k (X.at_ 1) := by rw [q5, if_pos hne]
    have hp := pauseI_rng ((X.at_ 1).waiting + 1)
    have hw := h.wt
    refine ⟨hnx, q1.trans h.me, q4.trans h.len, by rw [q2]; exact h.bud, by rw [h1]; exact h.gone, ?_, ?_, hlo, hhi, by omega⟩
    · rw [h1]; simp only [bumped]; rw [h.wt]
    · rw [h1]; simp only [bumped]
      rw [pauseI_next _ (h.lo 1), h.wt]
  · rw [hf] at hs
    have hnil : ¬ sendsOf X k ends 1 ≠ [] := by simpa using hs.symm
    have h1 : (X.plan k ends).1.at_ 1 = X.at_ 1 := by rw [q5, if_neg hnil]
    exact ⟨q1.trans h.me, q4.trans h.len, by rw [q2]; exact h.bud, by rw [h1]; exact h.gone, by rw [h1]; exact h.due, by rw [h1]; exact h.wt, hlo, hhi, h.nx⟩
  · rw [hs, decide_eq_true_eq]
    have hd : X.dueB 1 k = true := by rw [h.dueB hn (by omega)]; simpa using hnx
    obtain ⟨e, he, he1, he2⟩ := next_of_lt hlt h0
    have hget : ends.getD 0 [] = l := by
      cases ends with
      | nil => simp at hl
      | cons x r => simp at hl; simp [hl]
    have hne : 0 < ends.length := by
      cases ends with
      | nil => simp at hl
      | cons x r => simp
    have := planFor_some (X := X) (peer := 1) k (ends := ends) h.bud.1 (L := 0) (by rw [h.len]; omega) (by omega) hne (e := e) (by rw [hget]; exact he) he1 he2
    have hd' : X.dueB ((1 : Nat) : Int) k = true := hd
    unfold sendsOf
    rw [if_pos hd']
    exact this
end Go.Proofs.Ytipklnakihinkaa
