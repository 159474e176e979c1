/- OutboxArrives: the plain law. -/
import Derived.Test.YtipklnakihinkaaBudgetModel
import Derived.Test.YtipklnakihinkaaLastModel
namespace Go.Proofs.Ytipklnakihinkaa

def endsAt (ends : List (List Int)) (g : Nat) : List Int := ends.getD g []
/-- a peer lacks a log -/
noncomputable def lacksAt (X : BoxM) (me : Int) (ends : List (List Int)) (p g : Nat) : Bool := decide ((p : Int) ≠ me) && (decide (p ≠ g) && decide (X.m p g < lastI (endsAt ends g)))
noncomputable def lacksUpto (X : BoxM) (me : Int) (ends : List (List Int)) (p k : Nat) : Bool := (List.range k).any (lacksAt X me ends p)
noncomputable def lacksB (X : BoxM) (me : Int) (ends : List (List Int)) (N p : Nat) : Bool := lacksUpto X me ends p (min N ends.length)
theorem lacksUpto_succ (X : BoxM) (me : Int) (ends : List (List Int)) (p k : Nat) : lacksUpto X me ends p (k + 1) = (lacksUpto X me ends p k || lacksAt X me ends p k) := by
  unfold lacksUpto
  rw [List.range_succ, List.any_append, List.any_cons, List.any_nil, Bool.or_false]
/-- how many steps may be left for a peer -/
def phiUpto (X : BoxM) (ends : List (List Int)) (p : Nat) : Nat → Nat
  | 0 => 0
  | k + 1 => phiUpto X ends p k + above (endsAt ends k) (X.m p k)
def allUpto (ends : List (List Int)) : Nat → Nat
  | 0 => 0
  | k + 1 => allUpto ends k + (endsAt ends k).length
theorem phi_le (X : BoxM) (ends : List (List Int)) (p : Nat) : ∀ k, phiUpto X ends p k ≤ allUpto ends k
  | 0 => Nat.le_refl 0
  | k + 1 => by
    have := phi_le X ends p k
    have := above_le (X.m p k) (endsAt ends k)
    simp only [phiUpto, allUpto]
    omega
theorem phi_mono {X Y : BoxM} {ends : List (List Int)} {p : Nat} (h : ∀ g : Nat, X.m p g ≤ Y.m p g) : ∀ k, phiUpto Y ends p k ≤ phiUpto X ends p k
  | 0 => Nat.le_refl 0
  | k + 1 => by
    have := phi_mono (ends := ends) h k
    have := above_mono (h k) (endsAt ends k)
    simp only [phiUpto]
    omega
theorem phi_lt {X Y : BoxM} {ends : List (List Int)} {p g : Nat} (h : ∀ g : Nat, X.m p g ≤ Y.m p g) (hg : X.m p g < Y.m p g) (hm : Y.m p g ∈ endsAt ends g) : ∀ k, g < k → phiUpto Y ends p k < phiUpto X ends p k
  | 0, hk => by omega
  | k + 1, hk => by
    simp only [phiUpto]
    by_cases e : g = k
    · subst e
      have := phi_mono (ends := ends) h g
      have := above_lt hg (endsAt ends g) hm
      omega
    · have := phi_lt h hg hm k (by omega)
      have := above_mono (h k) (endsAt ends k)
      omega
structure AInv (me bud now : Int) (N : Nat) (ends : List (List Int)) (cnt : Nat) (X : BoxM) : Prop where
  b : BInv me N bud cnt (fun _ => false) X
  reach : ∀ p g : Nat, p < N → (p : Int) ≠ me → p ≠ g → g < N → g < ends.length → Reach (endsAt ends g) (X.m p g)
def Dued (now : Int) (N : Nat) (X : BoxM) : Prop := ∀ p : Nat, p < N → (X.at_ p).due ≤ clampT now
section
variable {me bud now : Int} {N cnt : Nat} {ends : List (List Int)} {X : BoxM}
theorem AInv.new (me bud now : Int) (N : Nat) (ends : List (List Int)) : AInv me bud now N ends 0 { me := me, budget := max bud 64, l := List.replicate N ⟨0, 0, false⟩, m := fun _ _ => 0 } :=
  ⟨BInv.new me bud N, fun _ _ _ _ _ _ _ => Reach.zero _⟩
theorem Dued.new (me bud now : Int) (N : Nat) : Dued now N { me := me, budget := max bud 64, l := List.replicate N ⟨0, 0, false⟩, m := fun _ _ => 0 } := by
  intro p hp
  have : (BoxM.at_ { me := me, budget := max bud 64, l := List.replicate N ⟨0, 0, false⟩, m := fun _ _ => 0 } p) = ⟨0, 0, false⟩ := by simp [BoxM.at_, List.getD, hp]
  rw [this]
  unfold clampT clampI
  (repeat' split) <;> simp <;> omega
theorem AInv.due (h : AInv me bud now N ends cnt X) (hd : Dued now N X) {p : Nat} (hp : p < N) : X.dueB p now = decide ((p : Int) ≠ me) := by
  unfold BoxM.dueB
  rw [peerB_iff h.b]
  have h1 := hd p hp
  rw [Int.toNat_natCast]
  by_cases hme : (p : Int) = me
  · simp [hme]
  · have := h.b.gone_ p hp hme
    simp [hp, hme, this, h1]
theorem clampT_idem (now : Int) : clampT (clampT now) = clampT now := by unfold clampT clampI; (repeat' split) <;> omega
/-- a peer is planned for exactly if it lacks something -/
theorem AInv.sends (h : AInv me bud now N ends cnt X) (hd : Dued now N X) {p : Nat} (hp : p < N) : sendsOf X (clampT now) ends p ≠ [] ↔ lacksB X me ends N p = true := by
  have hdd : X.dueB p (clampT now) = X.dueB p now := by unfold BoxM.dueB; rw [clampT_idem]
  have hbud : 64 ≤ X.budget := by rw [h.b.bud_]; omega
  have hlen := h.b.len
  unfold sendsOf lacksB lacksUpto
  rw [hdd, h.due hd hp, List.any_eq_true]
  by_cases hme : (p : Int) = me
  · simp [hme, lacksAt]
  · rw [if_pos (by simpa using hme)]
    constructor
    · intro hne
      cases hs : X.planFor p (clampT now) ends with
      | nil => exact absurd hs hne
      | cons s r =>
        obtain ⟨g1, L, g2, g3, g4, g5, g6, g7, g8, g9⟩ := (planFor_good X p (clampT now) ends (by omega)).1 s (by rw [hs]; simp)
        refine ⟨L, by simp; omega, ?_⟩
        have hr := h.reach p L hp hme (Ne.symm g3) (by omega) g4
        have hin : s.start + s.count ∈ endsAt ends L := g9
        have := reach_le_last (hr.step hin (by omega) (by omega))
        simp only [lacksAt, Bool.and_eq_true, decide_eq_true_eq]
        exact ⟨hme, Ne.symm g3, by omega⟩
    · rintro ⟨g, hg, hl⟩
      simp only [lacksAt, Bool.and_eq_true, decide_eq_true_eq] at hl
      obtain ⟨_, h2, h3⟩ := hl
      have hg' : g < N ∧ g < ends.length := by simp at hg; omega
      have hr := h.reach p g hp hme h2 hg'.1 hg'.2
      obtain ⟨e, he, he1, he2⟩ := next_of_lt h3 hr.nonneg
      exact planFor_some (clampT now) hbud (L := g) (by omega) (Ne.symm h2) hg'.2 (e := e) he he1 he2
/-- what is left to acknowledge of a plan: X is the box behind the plan's first elements, Z the box ahead of it -/
structure Part (me bud now : Int) (N : Nat) (ends : List (List Int)) (cnt : Nat) (Z X : BoxM) (r : List Send) : Prop where
  a : AInv me bud now N ends cnt X
  each : ∀ s, s ∈ r → ∃ p g : Nat, s.peer = p ∧ s.log = g ∧ p < N ∧ (p : Int) ≠ me ∧ g ≠ p ∧ g < N ∧ g < ends.length ∧ s.start = X.m p g ∧ 0 < s.count ∧ s.count ≤ 64 ∧ s.start + s.count ∈ endsAt ends g
  apart : r.Pairwise (fun s t => ¬ (s.peer = t.peer ∧ s.log = t.log))
  due : ∀ p : Nat, p < N → (X.at_ p).due ≤ clampT now ∨ ∃ s, s ∈ r ∧ s.peer = p
  more : ∀ p g : Nat, Z.m p g ≤ X.m p g
  done : ∀ p : Nat, p < N → lacksB Z me ends N p = true → (∃ s, s ∈ r ∧ s.peer = p) ∨ ∃ g : Nat, g < ends.length ∧ Z.m p g < X.m p g ∧ X.m p g ∈ endsAt ends g
theorem Part.acks {Z : BoxM} {s : Send} {r : List Send} (h : Part me bud now N ends cnt Z X (s :: r)) : X.ackB s.peer s.log (s.start + s.count) = true := by
  obtain ⟨p, g, e1, e2, hp, hme, hgp, hg, hge, hst, hc, _, _⟩ := h.each s (by simp)
  unfold BoxM.ackB
  rw [e1, e2, peerB_iff h.a.b, h.a.b.gone_ p hp hme, h.a.b.len]
  unfold srvB
  have h1 : decide ((g : Int) ≠ (p : Int)) = true := by simp; omega
  have h2 : decide (X.m p g < s.start + s.count) = true := by simp; omega
  have h3 : decide (0 ≤ (g : Int) ∧ (g : Int) < N) = true := by simp; omega
  rw [h1, h2, h3]
  simp [hp, hme]
theorem Part.step {Z : BoxM} {s : Send} {r : List Send} (h : Part me bud now N ends cnt Z X (s :: r)) : Part me bud now N ends (cnt + 1) Z (X.ack s.peer s.log (s.start + s.count) now) r := by
  have hack := h.acks
  obtain ⟨p, g, e1, e2, hp, hme, hgp, hg, hge, hst, hc, hc2, hin⟩ := h.each s (by simp)
  have hX : X.ack s.peer s.log (s.start + s.count) now = X.acked p g (s.start + s.count) now := by unfold BoxM.ack; rw [if_pos hack, e1, e2]
  have hb := h.a.b.ack s.peer s.log (s.start + s.count) now
  rw [hX] at hb ⊢
  have hm : ∀ a b : Int, (X.acked p g (s.start + s.count) now).m a b = if a = p ∧ b = g then s.start + s.count else X.m a b := fun a b => rfl
  have hmle : ∀ a b : Nat, X.m a b ≤ (X.acked p g (s.start + s.count) now).m a b := by
    intro a b
    rw [hm]; split
    · next e => rw [e.1, e.2]; omega
    · omega
  have hat1 : (X.acked p g (s.start + s.count) now).at_ p = ⟨clampT now, 0, (X.at_ p).gone⟩ := at_set_eq (X := X) _ (by rw [h.a.b.len]; exact hp)
  have hat : ∀ i, i ≠ p → (X.acked p g (s.start + s.count) now).at_ i = X.at_ i := fun i hi => at_set_ne' (X := X) _ hi
  have hap := List.pairwise_cons.1 h.apart
  refine ⟨⟨hb, fun a b ha hame hab hbN hbe => ?_⟩, fun t ht => ?_, hap.2, fun a ha => ?_, fun a b => Int.le_trans (h.more a b) (hmle a b), fun a ha hl => ?_⟩
  · rw [hm]; split
    · next e =>
      have ea : a = p := by omega
      have eb : b = g := by omega
      subst ea; subst eb
      have := h.a.reach a b ha hame hab hbN hbe
      exact this.step hin (by omega) (by omega)
    · exact h.a.reach a b ha hame hab hbN hbe
  · obtain ⟨a, b, f1, f2, f3, f4, f5, f6, f7, f8, f9⟩ := h.each t (by simp [ht])
    refine ⟨a, b, f1, f2, f3, f4, f5, f6, f7, ?_, f9⟩
    rw [hm, if_neg]
    · exact f8
    · intro e
      have := hap.1 t ht
      omega
  · by_cases e : a = p
    · left; subst e; rw [hat1]; exact Int.le_refl _
    · rw [hat a e]
      rcases h.due a ha with h1 | ⟨t, ht, htp⟩
      · exact .inl h1
      · rcases List.mem_cons.1 ht with rfl | ht
        · omega
        · exact .inr ⟨t, ht, htp⟩
  · by_cases e : a = p
    · right
      subst e
      refine ⟨g, hge, ?_, ?_⟩
      · rw [hm, if_pos ⟨rfl, rfl⟩]
        have := h.more a g
        omega
      · rw [hm, if_pos ⟨rfl, rfl⟩]; exact hin
    · rcases h.done a ha hl with ⟨t, ht, htp⟩ | ⟨b, h1, h2, h3⟩
      · rcases List.mem_cons.1 ht with rfl | ht
        · omega
        · exact .inl ⟨t, ht, htp⟩
      · have hsame : (X.acked p g (s.start + s.count) now).m a b = X.m a b := by
          rw [hm, if_neg]; intro he; omega
        exact .inr ⟨b, h1, by rw [hsame]; exact h2, by rw [hsame]; exact h3⟩
theorem Part.end_ {Z : BoxM} (h : Part me bud now N ends cnt Z X []) : Dued now N X ∧ (∀ p : Nat, p < N → lacksB Z me ends N p = true → phiUpto X ends p ends.length < phiUpto Z ends p ends.length) ∧ ∀ p : Nat, phiUpto X ends p ends.length ≤ phiUpto Z ends p ends.length := by
  refine ⟨fun p hp => ?_, fun p hp hl => ?_, fun p => phi_mono (fun g => h.more p g) _⟩
  · rcases h.due p hp with h1 | ⟨s, hs, _⟩
    · exact h1
    · simp at hs
  · rcases h.done p hp hl with ⟨s, hs, _⟩ | ⟨g, hg, h1, h2⟩
    · simp at hs
    · exact phi_lt (fun g => h.more p g) h1 h2 _ hg
/-- a plan begins -/
theorem AInv.plan (h : AInv me bud now N ends cnt X) (hd : Dued now N X) (hN : N ≤ 20) (hm : ∀ i g, 0 ≤ X.m i g) :
    Part me bud now N ends (cnt + 1) X (X.plan now ends).1 (X.plan now ends).2 ∧
    (∀ s, s ∈ (X.plan now ends).2 → ∃ p : Nat, s.peer = p ∧ p < N ∧ lacksB X me ends N p = true) ∧
    (∀ p : Nat, p < N → ((X.plan now ends).2.any (fun s => decide (s.peer = p))) = lacksB X me ends N p) ∧ (X.plan now ends).2.length ≤ 160 := by
  obtain ⟨q1, q2, q3, q4, q5, q6⟩ := plan_spec X now ends
  obtain ⟨hb, _, _⟩ := h.b.plan hN hm now ends
  have hdd : ∀ i : Int, X.dueB i (clampT now) = X.dueB i now := fun i => by unfold BoxM.dueB; rw [clampT_idem]
  have hmem : ∀ s, s ∈ (X.plan now ends).2 → ∃ i : Nat, i < N ∧ s ∈ sendsOf X (clampT now) ends i ∧ Good X i ends s ∧ X.dueB i now = true := by
    intro s hs
    rw [q1] at hs
    obtain ⟨i, hi, hsi⟩ := List.mem_flatMap.1 hs
    obtain ⟨hg, hdu⟩ := h.b.good _ _ hsi
    exact ⟨i, by rw [← h.b.len]; simpa using hi, hsi, hg, by rw [← hdd]; exact hdu⟩
  have hbud : 0 ≤ X.budget := by rw [h.b.bud_]; omega
  have hin : ∀ p : Nat, p < N → lacksB X me ends N p = true → ∃ s, s ∈ (X.plan now ends).2 ∧ s.peer = p := by
    intro p hp hl
    have hne := (h.sends hd hp).2 hl
    cases hs : sendsOf X (clampT now) ends p with
    | nil => exact absurd hs hne
    | cons s r =>
      have hsm : s ∈ sendsOf X (clampT now) ends p := by rw [hs]; simp
      refine ⟨s, ?_, (h.b.good _ _ hsm).1.1⟩
      rw [q1]
      exact List.mem_flatMap.2 ⟨p, by rw [List.mem_range, h.b.len]; exact hp, hsm⟩
  refine ⟨⟨⟨hb, fun p g h1 h2 h3 h4 h5 => by rw [q4]; exact h.reach p g h1 h2 h3 h4 h5⟩, fun s hs => ?_, ?_, fun p hp => ?_, fun p g => by rw [q4]; exact Int.le_refl _, fun p hp hl => .inl (hin p hp hl)⟩, fun s hs => ?_, fun p hp => ?_, ?_⟩
  · obtain ⟨i, hi, _, ⟨g1, L, g2, g3, g4, g5, g6, g7, g8, g9⟩, hdu⟩ := hmem s hs
    rw [h.due hd hi] at hdu
    exact ⟨i, L, g1, g2, hi, by simpa using hdu, g3, by rw [h.b.len] at g5; exact g5, g4, by rw [q4]; exact g6, g7, g8, g9⟩
  · rw [q1, List.pairwise_flatMap]
    refine ⟨fun i _ => ?_, ?_⟩
    · have hnd : ((sendsOf X (clampT now) ends i).map (·.log)).Nodup := by
        unfold sendsOf
        split
        · exact (planFor_good X i (clampT now) ends hbud).2.2.2
        · simp
      rw [List.Nodup, List.pairwise_map] at hnd
      exact hnd.imp (fun hne he => hne he.2)
    · refine List.Pairwise.imp ?_ List.pairwise_lt_range
      intro a b hab x hx y hy he
      have h1 := (h.b.good _ _ hx).1.1
      have h2 := (h.b.good _ _ hy).1.1
      omega
  · rw [q6]
    split
    · next hne =>
      exact .inr (hin p hp ((h.sends hd hp).1 hne))
    · exact .inl (hd p hp)
  · obtain ⟨i, hi, hsi, ⟨g1, _⟩, _⟩ := hmem s hs
    exact ⟨i, g1, hi, (h.sends hd hi).1 (fun e => by rw [e] at hsi; simp at hsi)⟩
  · rw [Bool.eq_iff_iff, List.any_eq_true]
    constructor
    · rintro ⟨s, hs, hsp⟩
      obtain ⟨i, hi, hsi, ⟨g1, _⟩, _⟩ := hmem s hs
      have e : i = p := by simp at hsp; omega
      subst e
      exact (h.sends hd hp).1 (fun e => by rw [e] at hsi; simp at hsi)
    · intro hl
      obtain ⟨s, hs, hsp⟩ := hin p hp hl
      exact ⟨s, hs, by simpa using hsp⟩
  · rw [q1, h.b.len]
    have hlen : ∀ n : Nat, ((List.range n).flatMap (sendsOf X (clampT now) ends)).length ≤ n * 8 := by
      intro n
      induction n with
      | zero => simp
      | succ n ih =>
        rw [List.range_succ, List.flatMap_append, List.length_append]
        have : (List.flatMap (sendsOf X (clampT now) ends) [n]).length ≤ 8 := by
          simp only [List.flatMap_cons, List.flatMap_nil, List.append_nil]
          unfold sendsOf
          split
          · exact (planFor_good X n (clampT now) ends hbud).2.2.1
          · simp
        omega
    have := hlen N
    omega
/-- nothing lacks: all is there -/
theorem AInv.full (h : AInv me bud now N ends cnt X) (hd : Dued now N X) (hno : ∀ p : Nat, p < N → lacksB X me ends N p = false) :
    (X.plan now ends).2 = [] ∧ ∀ p g : Nat, p < N → g < N → g < ends.length → (p : Int) ≠ me → p ≠ g → X.m p g = lastI (endsAt ends g) := by
  refine ⟨?_, fun p g hp hg hge hme hpg => ?_⟩
  · rw [(plan_spec X now ends).1, List.flatMap_eq_nil_iff]
    intro i hi
    have hi' : i < N := by rw [← h.b.len]; simpa using hi
    by_cases he : sendsOf X (clampT now) ends i = []
    · exact he
    · have := (h.sends hd hi').1 he
      rw [hno i hi'] at this
      cases this
  · have h1 := hno p hp
    unfold lacksB lacksUpto at h1
    rw [List.any_eq_false] at h1
    have h2 := h1 g (by simp; omega)
    have h3 := reach_le_last (h.reach p g hp hme hpg hg hge)
    have h4 : ¬ X.m p g < lastI (endsAt ends g) := by
      intro hlt
      apply h2
      simp only [lacksAt, Bool.and_eq_true, decide_eq_true_eq]
      exact ⟨hme, hpg, hlt⟩
    omega
end
end Go.Proofs.Ytipklnakihinkaa
