/- OutboxBudget: the plain law. -/
import Derived.Test.YtipklnakihinkaaWithinModel
namespace Go.Proofs.Ytipklnakihinkaa

structure BInv (me : Int) (N : Nat) (bud : Int) (cnt : Nat) (gone : Nat → Bool) (X : BoxM) : Prop where
  me_ : X.me = me
  len : X.l.length = N
  bud_ : X.budget = max bud 64
  lo : ∀ i, 0 ≤ (X.at_ i).waiting
  hi : ∀ i, (X.at_ i).waiting ≤ cnt
  gone_ : ∀ i : Nat, i < N → (i : Int) ≠ me → (X.at_ i).gone = gone i
section
variable {me bud : Int} {N cnt : Nat} {gone : Nat → Bool} {X : BoxM}
theorem BInv.new (me bud : Int) (N : Nat) : BInv me N bud 0 (fun _ => false) { me := me, budget := max bud 64, l := List.replicate N ⟨0, 0, false⟩, m := fun _ _ => 0 } := by
  have hat : ∀ i, (BoxM.at_ { me := me, budget := max bud 64, l := List.replicate N ⟨0, 0, false⟩, m := fun _ _ => 0 } i) = ⟨0, 0, false⟩ := by
    intro i
    by_cases h : i < N <;> simp [BoxM.at_, List.getD, h]
  exact ⟨rfl, by simp, rfl, fun i => by rw [hat]; simp, fun i => by rw [hat]; simp, fun i _ _ => by rw [hat]⟩
theorem BInv.more (h : BInv me N bud cnt gone X) : BInv me N bud (cnt + 1) gone X := ⟨h.me_, h.len, h.bud_, h.lo, fun i => by have := h.hi i; omega, h.gone_⟩
theorem peerB_iff (h : BInv me N bud cnt gone X) (i : Nat) : X.peerB i = (decide (i < N) && (decide ((i : Int) ≠ me) && !(X.at_ i).gone)) := by
  unfold BoxM.peerB srvB
  rw [h.me_, h.len]
  have : decide (0 ≤ (i : Int) ∧ (i : Int) < N) = decide (i < N) := by
    rw [decide_eq_decide]; omega
  rw [this, Int.toNat_natCast]
theorem BInv.ack (h : BInv me N bud cnt gone X) (p g s now : Int) : BInv me N bud (cnt + 1) gone (X.ack p g s now) := by
  unfold BoxM.ack
  split
  · next hb =>
    have hp : 0 ≤ p ∧ p < N := by
      unfold BoxM.ackB BoxM.peerB srvB at hb
      rw [h.len] at hb
      simp only [Bool.and_eq_true, decide_eq_true_eq] at hb
      exact hb.1.1
    have hat1 : (X.acked p g s now).at_ p.toNat = ⟨clampT now, 0, (X.at_ p.toNat).gone⟩ := at_set_eq (X := X) _ (by rw [h.len]; omega)
    have hat : ∀ i, i ≠ p.toNat → (X.acked p g s now).at_ i = X.at_ i := fun i hi => at_set_ne' (X := X) _ hi
    refine ⟨h.me_, by simp [BoxM.acked, h.len], h.bud_, fun i => ?_, fun i => ?_, fun i hi hne => ?_⟩
    · by_cases e : i = p.toNat
      · rw [e, hat1]; simp
      · rw [hat i e]; exact h.lo i
    · by_cases e : i = p.toNat
      · rw [e, hat1]; simp only; omega
      · rw [hat i e]; have := h.hi i; omega
    · by_cases e : i = p.toNat
      · rw [e, hat1, ← e]; exact h.gone_ i hi hne
      · rw [hat i e]; exact h.gone_ i hi hne
  · exact h.more
def setB (g : Nat → Bool) (j : Nat) (v : Bool) : Nat → Bool := fun i => if i = j then v else g i
theorem BInv.give_in (h : BInv me N bud cnt gone X) (p : Nat) : BInv me N bud (cnt + 1) (setB gone p true) (X.give p) := by
  unfold BoxM.give
  split
  · next hb =>
    have hat1 : (BoxM.at_ { X with l := X.l.set (p : Int).toNat { due := (X.at_ (p : Int).toNat).due, waiting := (X.at_ (p : Int).toNat).waiting, gone := true } } p) = ⟨(X.at_ p).due, (X.at_ p).waiting, true⟩ := by
      rw [Int.toNat_natCast]
      refine at_set_eq (X := X) _ ?_
      rw [peerB_iff h] at hb
      simp only [Bool.and_eq_true, decide_eq_true_eq] at hb
      rw [h.len]; exact hb.1
    have hat : ∀ i, i ≠ p → (BoxM.at_ { X with l := X.l.set (p : Int).toNat { due := (X.at_ (p : Int).toNat).due, waiting := (X.at_ (p : Int).toNat).waiting, gone := true } } i) = X.at_ i := by
      intro i hi
      rw [Int.toNat_natCast]
      exact at_set_ne' (X := X) _ hi
    refine ⟨h.me_, by simp [h.len], h.bud_, fun i => ?_, fun i => ?_, fun i hi hne => ?_⟩
    · by_cases e : i = p
      · subst e; rw [hat1]; exact h.lo i
      · rw [hat i e]; exact h.lo i
    · by_cases e : i = p
      · subst e; rw [hat1]; have := h.hi i; simp only; omega
      · rw [hat i e]; have := h.hi i; omega
    · by_cases e : i = p
      · subst e; rw [hat1]; simp [setB]
      · rw [hat i e, h.gone_ i hi hne]; simp [setB, e]
  · next hb =>
    refine ⟨h.me_, h.len, h.bud_, h.lo, fun i => by have := h.hi i; omega, fun i hi hne => ?_⟩
    by_cases e : i = p
    · subst e
      rw [peerB_iff h] at hb
      have : (X.at_ i).gone = true := by simpa [hi, hne] using hb
      rw [this]; simp [setB]
    · rw [h.gone_ i hi hne]; simp [setB, e]
theorem BInv.give_out (h : BInv me N bud cnt gone X) {p : Int} (hp : ¬ (0 ≤ p ∧ p < N)) : BInv me N bud (cnt + 1) gone (X.give p) := by
  unfold BoxM.give
  rw [if_neg]
  · exact h.more
  · unfold BoxM.peerB srvB
    rw [h.len]
    simp [hp]
theorem due_me (h : BInv me N bud cnt gone X) (now : Int) : X.dueB me now = false := by
  unfold BoxM.dueB BoxM.peerB
  rw [h.me_]
  simp

theorem filter_range (S : Nat → List Send) (p : Int) (hS : ∀ i s, s ∈ S i → s.peer = i) : ∀ n : Nat, ((List.range n).flatMap S).filter (fun s => decide (s.peer = p)) = if 0 ≤ p ∧ p < n then S p.toNat else []
  | 0 => by simp; intro h; omega
  | n + 1 => by
    rw [List.range_succ, List.flatMap_append, List.filter_append, filter_range S p hS n]
    simp only [List.flatMap_cons, List.flatMap_nil, List.append_nil]
    by_cases hp : p = n
    · subst hp
      rw [if_neg (by omega), if_pos (by omega)]
      rw [Int.toNat_natCast, List.nil_append, List.filter_eq_self]
      intro s hs
      simpa using hS n s hs
    · have : (S n).filter (fun s => decide (s.peer = p)) = [] := by
        rw [List.filter_eq_nil_iff]
        intro s hs
        have := hS n s hs
        simp; omega
      rw [this, List.append_nil]
      by_cases h2 : 0 ≤ p ∧ p < n
      · rw [if_pos h2, if_pos (by omega)]
      · rw [if_neg h2, if_neg (by omega)]
theorem BInv.good (h : BInv me N bud cnt gone X) (now : Int) (ends : List (List Int)) {i : Nat} {s : Send} (hs : s ∈ sendsOf X now ends i) : Good X i ends s ∧ X.dueB i now = true := by
  unfold sendsOf at hs
  split at hs
  · next hd =>
    refine ⟨(planFor_good X i now ends ?_).1 s hs, hd⟩
    rw [h.bud_]; omega
  · simp at hs
theorem dueB_peer {i : Int} {now : Int} (h : X.dueB i now = true) : X.peerB i = true := by
  unfold BoxM.dueB at h
  simp only [Bool.and_eq_true] at h
  exact h.1
/-- what a plan is -/
theorem BInv.plan (h : BInv me N bud cnt gone X) (hN : N ≤ 20) (hm : ∀ i g, 0 ≤ X.m i g) (now : Int) (ends : List (List Int)) :
    BInv me N bud (cnt + 1) gone (X.plan now ends).1 ∧ WithinOk me bud ends (X.plan now ends).1 (X.plan now ends).2 ∧
    ∀ s, s ∈ (X.plan now ends).2 → ∃ i : Nat, s.peer = i ∧ i < N ∧ X.dueB i now = true ∧ gone i = false ∧ (X.plan now ends).1.dueB i now = false := by
  obtain ⟨q1, q2, q3, q4, q5, q6⟩ := plan_spec X now ends
  have hS : ∀ i s, s ∈ sendsOf X (clampT now) ends i → s.peer = i := fun i s hs => (h.good _ _ hs).1.1
  have hck : clampT (clampT now) = clampT now := by unfold clampT clampI; (repeat' split) <;> omega
  have hdd : ∀ i : Int, X.dueB i (clampT now) = X.dueB i now := fun i => by unfold BoxM.dueB; rw [hck]
  refine ⟨⟨q2.trans h.me_, q5.trans h.len, q3.trans h.bud_, fun i => ?_, fun i => ?_, fun i hi hne => ?_⟩, ⟨?_, fun s hs => ?_, fun p => ?_, fun p => ?_⟩, fun s hs => ?_⟩
  · rw [q6]; split
    · have := h.lo i; simp only [bumped]; omega
    · exact h.lo i
  · rw [q6]; split
    · have := h.hi i; simp only [bumped]; omega
    · have := h.hi i; omega
  · rw [q6]; split
    · exact h.gone_ i hi hne
    · exact h.gone_ i hi hne
  · have hp : (X.plan now ends).2.Pairwise (fun a b => a.peer ≤ b.peer) := by
      rw [q1, List.pairwise_flatMap]
      refine ⟨fun i _ => ?_, ?_⟩
      · rw [List.pairwise_iff_getElem]
        intro a b ha hb hab
        have h1 := hS i _ (List.getElem_mem ha)
        have h2 := hS i _ (List.getElem_mem hb)
        omega
      · refine List.Pairwise.imp ?_ List.pairwise_lt_range
        intro a b hab x hx y hy
        have h1 := hS a x hx
        have h2 := hS b y hy
        omega
    intro i j a b hij ha hb
    rw [List.pairwise_iff_getElem] at hp
    obtain ⟨ha1, ha2⟩ := List.getElem?_eq_some_iff.1 ha
    obtain ⟨hb1, hb2⟩ := List.getElem?_eq_some_iff.1 hb
    have := hp i j ha1 hb1 hij
    rw [ha2, hb2] at this
    exact this
  · rw [q1] at hs
    obtain ⟨i, hi, hsi⟩ := List.mem_flatMap.1 hs
    obtain ⟨⟨g1, L, g2, g3, g4, g5, g6, g7, g8, g9⟩, hd⟩ := h.good _ _ hsi
    have hi' : i < N := by rw [← h.len]; simpa using hi
    have hpe := dueB_peer hd
    rw [peerB_iff h] at hpe
    simp only [Bool.and_eq_true, decide_eq_true_eq] at hpe
    have hm0 := hm i L
    refine ⟨by rw [g1]; exact hpe.2.1, by rw [g1, g2]; omega, by omega, by omega, L, g2, g4, by rw [h.len] at g5; omega, ?_, by omega, g8, g9, by rw [g6]; exact hm0⟩
    rw [q4, g1]; exact g6
  · unfold manyOf
    rw [q1, filter_range _ p hS]
    split
    · unfold sendsOf
      split
      · have := (planFor_good X p.toNat (clampT now) ends (by rw [h.bud_]; omega)).2.2.1
        omega
      · simp
    · simp
  · unfold entOf
    rw [q1, filter_range _ p hS]
    split
    · unfold sendsOf
      split
      · have := (planFor_good X p.toNat (clampT now) ends (by rw [h.bud_]; omega)).2.1
        rw [h.bud_] at this
        omega
      · simp [total]
    · simp [total]
  · rw [q1] at hs
    obtain ⟨i, hi, hsi⟩ := List.mem_flatMap.1 hs
    obtain ⟨⟨g1, _⟩, hd⟩ := h.good _ _ hsi
    have hi' : i < N := by rw [← h.len]; simpa using hi
    have hpe := dueB_peer hd
    rw [peerB_iff h] at hpe
    simp only [Bool.and_eq_true, decide_eq_true_eq] at hpe
    have hgn := h.gone_ i hi' hpe.2.1
    refine ⟨i, g1, hi', by rw [← hdd]; exact hd, ?_, ?_⟩
    · rw [← hgn]; simpa using hpe.2.2
    · have hne : sendsOf X (clampT now) ends i ≠ [] := fun e => by rw [e] at hsi; simp at hsi
      have ha := q6 i
      rw [if_pos hne] at ha
      have hpz : 1 ≤ pauseI ((X.at_ i).waiting + 1) := by unfold pauseI; (repeat' split) <;> omega
      unfold BoxM.dueB
      have hnd : decide (((X.plan now ends).1.at_ (i : Int).toNat).due ≤ clampT now) = false := by
        rw [Int.toNat_natCast, ha]
        rw [decide_eq_false_iff_not]
        simp only [bumped]
        omega
      rw [hnd, Bool.and_false]
end
end Go.Proofs.Ytipklnakihinkaa
