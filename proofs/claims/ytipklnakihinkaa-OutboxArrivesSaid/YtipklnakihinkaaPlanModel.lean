/- What a plan holds: plain mathematics. -/
import Derived.Test.YtipklnakihinkaaModel
namespace Go.Proofs.Ytipklnakihinkaa

/-- the log that round i of planFor looks at -/
def logAt (n : Nat) (now : Int) (i : Nat) : Nat := ((now % (n : Int) + i) % (n : Int)).toNat
theorem logAt_lt {n : Nat} (now : Int) (i : Nat) (h : 0 < n) : logAt n now i < n := by
  unfold logAt
  have h1 := Int.emod_nonneg (now % (n : Int) + i) (b := (n : Int)) (by omega)
  have h2 := Int.emod_lt_of_pos (now % (n : Int) + i) (b := (n : Int)) (by omega)
  omega
theorem logAt_inj {n : Nat} (now : Int) {i j : Nat} (hi : i < n) (hj : j < n) (h : logAt n now i = logAt n now j) : i = j := by
  unfold logAt at h
  have a1 := Int.emod_nonneg (now % (n : Int) + i) (b := (n : Int)) (by omega)
  have b1 := Int.emod_nonneg (now % (n : Int) + j) (b := (n : Int)) (by omega)
  have h' : (now % (n : Int) + i) % (n : Int) = (now % (n : Int) + j) % (n : Int) := by omega
  have h3 := Int.emod_nonneg now (b := (n : Int)) (by omega)
  have h4 := Int.emod_lt_of_pos now (b := (n : Int)) (by omega)
  generalize now % (n : Int) = r at *
  have key : ∀ x : Int, 0 ≤ x → x < 2 * n → x % (n : Int) = if x < n then x else x - n := by
    intro x h0 h2
    split
    · exact Int.emod_eq_of_lt h0 (by assumption)
    · rw [← Int.sub_emod_right x n]
      exact Int.emod_eq_of_lt (by omega) (by omega)
  rw [key _ (by omega) (by omega), key _ (by omega) (by omega)] at h'
  split at h' <;> split at h' <;> omega
theorem logAt_onto {n : Nat} (now : Int) {L : Nat} (hL : L < n) : ∃ i, i < n ∧ logAt n now i = L := by
  have h3 := Int.emod_nonneg now (b := (n : Int)) (by omega)
  have h4 := Int.emod_lt_of_pos now (b := (n : Int)) (by omega)
  unfold logAt
  generalize now % (n : Int) = r at *
  by_cases h : r ≤ L
  · refine ⟨(L - r).toNat, by omega, ?_⟩
    rw [show r + ((L - r).toNat : Int) = L by omega, Int.emod_eq_of_lt (by omega) (by omega)]
    omega
  · refine ⟨(L + n - r).toNat, by omega, ?_⟩
    rw [show r + ((L + n - r).toNat : Int) = L + n by omega, Int.add_emod_right, Int.emod_eq_of_lt (by omega) (by omega)]
    omega

def skipAt (X : BoxM) (peer : Nat) (now : Int) (ends : List (List Int)) (i : Nat) : Prop := logAt X.l.length now i = peer ∨ ends.length ≤ logAt X.l.length now i
theorem planStep_skip {X : BoxM} {peer : Nat} {now : Int} {ends : List (List Int)} {i : Nat} (st : Int × List Send) (h : skipAt X peer now ends i) : X.planStep peer now ends i st = st := by
  unfold BoxM.planStep
  exact if_pos h
theorem planStep_go {X : BoxM} {peer : Nat} {now : Int} {ends : List (List Int)} {i : Nat} (st : Int × List Send) (h : ¬ skipAt X peer now ends i) : X.planStep peer now ends i st =
    if 0 < cnt (X.m peer (logAt X.l.length now i)) st.1 (ends.getD (logAt X.l.length now i) []) then
      (st.1 - cnt (X.m peer (logAt X.l.length now i)) st.1 (ends.getD (logAt X.l.length now i) []),
        st.2 ++ [⟨peer, logAt X.l.length now i, X.m peer (logAt X.l.length now i), cnt (X.m peer (logAt X.l.length now i)) st.1 (ends.getD (logAt X.l.length now i) [])⟩]) else st := by
  unfold BoxM.planStep
  exact if_neg h
theorem planGo_0 {X : BoxM} {peer : Nat} {now : Int} {ends : List (List Int)} {k i : Nat} {st : Int × List Send} (h : skipAt X peer now ends i) :
    X.planGo peer now ends (k + 1) i st = X.planGo peer now ends k (i + 1) st := by
  rw [BoxM.planGo]; exact if_pos h
theorem planGo_1 {X : BoxM} {peer : Nat} {now : Int} {ends : List (List Int)} {k i : Nat} {st : Int × List Send} (h : ¬ skipAt X peer now ends i) (h8 : 8 ≤ st.2.length) :
    X.planGo peer now ends (k + 1) i st = st.2 := by
  rw [BoxM.planGo]; exact (if_neg h).trans (if_pos h8)
theorem planGo_2 {X : BoxM} {peer : Nat} {now : Int} {ends : List (List Int)} {k i : Nat} {st : Int × List Send} (h : ¬ skipAt X peer now ends i) (h8 : ¬ 8 ≤ st.2.length) :
    X.planGo peer now ends (k + 1) i st = X.planGo peer now ends k (i + 1) (X.planStep peer now ends i st) := by
  rw [BoxM.planGo]; exact (if_neg h).trans (if_neg h8)
/-- whatever each round keeps holds at the end -/
theorem planGo_ind {X : BoxM} {peer : Nat} {now : Int} {ends : List (List Int)} (I : Nat → Int × List Send → Prop)
    (hs : ∀ i st, i < X.l.length → I i st → (skipAt X peer now ends i ∨ st.2.length < 8) → I (i + 1) (X.planStep peer now ends i st)) :
    ∀ (k i : Nat) (st : Int × List Send), i + k = X.l.length → I i st → ∃ j st', I j st' ∧ X.planGo peer now ends k i st = st'.2 ∧ (j = X.l.length ∨ 8 ≤ st'.2.length)
  | 0, i, st, hk, h => ⟨i, st, h, rfl, .inl (by omega)⟩
  | k + 1, i, st, hk, h => by
    by_cases hsk : skipAt X peer now ends i
    · rw [planGo_0 hsk]
      have := hs i st (by omega) h (.inl hsk)
      rw [planStep_skip st hsk] at this
      exact planGo_ind I hs k (i + 1) st (by omega) this
    · by_cases h8 : 8 ≤ st.2.length
      · rw [planGo_1 hsk h8]
        exact ⟨i, st, h, rfl, .inr h8⟩
      · rw [planGo_2 hsk h8]
        exact planGo_ind I hs k (i + 1) _ (by omega) (hs i st (by omega) h (.inr (by omega)))

theorem cnt_fold_mem (start left : Int) : ∀ (l : List Int) (c : Int), 0 ≤ c →
    let r := l.foldl (fun c e => if start < e ∧ e - start ≤ min 64 left then max c (e - start) else c) c
    c ≤ r ∧ (r = c ∨ (start + r ∈ l ∧ r ≤ min 64 left)) ∧ ∀ e, e ∈ l → start < e → e - start ≤ min 64 left → e - start ≤ r
  | [], c, h0 => by simp
  | e :: r, c, h0 => by
    simp only [List.foldl_cons]
    have ih := cnt_fold_mem start left r (if start < e ∧ e - start ≤ min 64 left then max c (e - start) else c) (by split <;> omega)
    simp only at ih
    generalize List.foldl _ _ r = R at *
    obtain ⟨i1, i2, i3⟩ := ih
    by_cases hc : start < e ∧ e - start ≤ min 64 left
    · rw [if_pos hc] at i1 i2
      refine ⟨by omega, ?_, fun x hx h1 h2 => ?_⟩
      · rcases i2 with i2 | ⟨i2, i2'⟩
        · by_cases hm : c ≤ e - start
          · right
            have : start + R = e := by omega
            rw [this]
            exact ⟨by simp, by omega⟩
          · left; omega
        · right; exact ⟨by simp [i2], i2'⟩
      · rcases List.mem_cons.1 hx with rfl | hx
        · omega
        · exact i3 x hx h1 h2
    · rw [if_neg hc] at i1 i2
      refine ⟨i1, ?_, fun x hx h1 h2 => ?_⟩
      · rcases i2 with i2 | ⟨i2, i2'⟩
        · exact .inl i2
        · exact .inr ⟨by simp [i2], i2'⟩
      · rcases List.mem_cons.1 hx with rfl | hx
        · exact absurd ⟨h1, h2⟩ hc
        · exact i3 x hx h1 h2
theorem cnt_pos {start left : Int} {l : List Int} (h : 0 < cnt start left l) : start + cnt start left l ∈ l ∧ cnt start left l ≤ min 64 left := by
  have := cnt_fold_mem start left l 0 (by omega)
  simp only at this
  obtain ⟨_, h2, _⟩ := this
  unfold cnt at h ⊢
  rcases h2 with h2 | h2
  · omega
  · exact h2
theorem cnt_ge {start left : Int} {l : List Int} {e : Int} (he : e ∈ l) (h1 : start < e) (h2 : e - start ≤ min 64 left) : e - start ≤ cnt start left l := by
  have := cnt_fold_mem start left l 0 (by omega)
  simp only at this
  exact this.2.2 e he h1 h2

/-- what each element of a plan for a peer is -/
def Good (X : BoxM) (peer : Nat) (ends : List (List Int)) (s : Send) : Prop :=
  s.peer = peer ∧ ∃ L : Nat, s.log = L ∧ L ≠ peer ∧ L < ends.length ∧ L < X.l.length ∧ s.start = X.m peer L ∧ 0 < s.count ∧ s.count ≤ 64 ∧ s.start + s.count ∈ ends.getD L []
def total (l : List Send) : Int := (l.map (·.count)).sum
theorem total_snoc (l : List Send) (s : Send) : total (l ++ [s]) = total l + s.count := by simp [total]
theorem planFor_good (X : BoxM) (peer : Nat) (now : Int) (ends : List (List Int)) (hb : 0 ≤ X.budget) :
    (∀ s, s ∈ X.planFor peer now ends → Good X peer ends s) ∧ total (X.planFor peer now ends) ≤ X.budget ∧ (X.planFor peer now ends).length ≤ 8 ∧ ((X.planFor peer now ends).map (·.log)).Nodup := by
  obtain ⟨j, st', ⟨h1, h2, h3, h4, h5, _⟩, he, _⟩ := planGo_ind (X := X) (peer := peer) (now := now) (ends := ends)
    (fun i st => (∀ s, s ∈ st.2 → Good X peer ends s) ∧ 0 ≤ st.1 ∧ total st.2 + st.1 ≤ X.budget ∧ st.2.length ≤ 8 ∧ (st.2.map (·.log)).Nodup ∧ ∀ s, s ∈ st.2 → ∃ j, j < i ∧ s.log = logAt X.l.length now j)
    (fun i st hi ⟨g, l0, tb, l8, nd, src⟩ hor => by
      by_cases hsk : skipAt X peer now ends i
      · rw [planStep_skip st hsk]
        exact ⟨g, l0, tb, l8, nd, fun s hs => by obtain ⟨j, hj, e⟩ := src s hs; exact ⟨j, by omega, e⟩⟩
      · have hl8 : st.2.length < 8 := by rcases hor with h | h; exact absurd h hsk; exact h
        rw [planStep_go st hsk]
        have hsk' : logAt X.l.length now i ≠ peer ∧ logAt X.l.length now i < ends.length := by
          unfold skipAt at hsk; omega
        have hlt := logAt_lt now i (n := X.l.length) (by omega)
        split
        · next hc =>
          obtain ⟨c1, c2⟩ := cnt_pos hc
          refine ⟨fun s hs => ?_, by simp only; omega, ?_, by simp; omega, ?_, fun s hs => ?_⟩
          · rcases List.mem_append.1 hs with hs | hs
            · exact g s hs
            · obtain rfl := List.mem_singleton.1 hs
              exact ⟨rfl, _, rfl, hsk'.1, hsk'.2, hlt, rfl, hc, by simp only; omega, c1⟩
          · simp only [total_snoc]; omega
          · simp only [List.map_append, List.map_cons, List.map_nil]
            rw [List.nodup_append]
            refine ⟨nd, by simp, fun a ha b hb => ?_⟩
            obtain ⟨s, hs, rfl⟩ := List.mem_map.1 ha
            obtain ⟨j, hj, e⟩ := src s hs
            have hb' : b = (logAt X.l.length now i : Int) := by simpa using hb
            rw [hb', e]
            intro he
            have := logAt_inj now (i := j) (j := i) (by omega) hi (by omega)
            omega
          · rcases List.mem_append.1 hs with hs | hs
            · obtain ⟨j, hj, e⟩ := src s hs; exact ⟨j, by omega, e⟩
            · obtain rfl := List.mem_singleton.1 hs
              exact ⟨i, by omega, rfl⟩
        · exact ⟨g, l0, tb, l8, nd, fun s hs => by obtain ⟨j, hj, e⟩ := src s hs; exact ⟨j, by omega, e⟩⟩)
    X.l.length 0 (X.budget, []) (by omega) ⟨by simp, hb, by simp [total], by simp, by simp, by simp⟩
  unfold BoxM.planFor
  rw [he]
  exact ⟨h1, by omega, h4, h5⟩
/-- a log that has a next end for the peer: the plan is not empty -/
theorem planFor_some {X : BoxM} {peer : Nat} (now : Int) {ends : List (List Int)} (hb : 64 ≤ X.budget) {L : Nat} (hL : L < X.l.length) (hne : L ≠ peer) (hLe : L < ends.length) {e : Int} (he : e ∈ ends.getD L []) (h1 : X.m peer L < e) (h2 : e - X.m peer L ≤ 64) :
    X.planFor peer now ends ≠ [] := by
  obtain ⟨i0, hi0, hlog⟩ := logAt_onto now hL
  obtain ⟨j, st', ⟨h3, h4⟩, heq, hj⟩ := planGo_ind (X := X) (peer := peer) (now := now) (ends := ends)
    (fun i st => (st.2 = [] → st.1 = X.budget) ∧ (i0 < i → st.2 ≠ []))
    (fun i st hi ⟨g, g2⟩ hor => by
      by_cases hsk : skipAt X peer now ends i
      · rw [planStep_skip st hsk]
        refine ⟨g, fun h => ?_⟩
        by_cases hii : i = i0
        · subst hii
          unfold skipAt at hsk
          rw [hlog] at hsk
          omega
        · exact g2 (by omega)
      · rw [planStep_go st hsk]
        by_cases hc : 0 < cnt (X.m peer (logAt X.l.length now i)) st.1 (ends.getD (logAt X.l.length now i) [])
        · rw [if_pos hc]
          exact ⟨fun h => by simp at h, fun _ => by simp⟩
        · rw [if_neg hc]
          refine ⟨g, fun h => ?_⟩
          by_cases hii : i = i0
          · subst hii
            intro hnil
            rw [hlog, g hnil] at hc
            have := cnt_ge (left := X.budget) he h1 (by omega)
            omega
          · exact g2 (by omega))
    X.l.length 0 (X.budget, []) (by omega) ⟨fun _ => rfl, fun h => by omega⟩
  unfold BoxM.planFor
  rw [heq]
  rcases hj with hj | hj
  · exact h4 (by omega)
  · intro h
    rw [h] at hj
    simp at hj

/-! ### Plan -/
theorem planFor_congr {X Y : BoxM} (hm : Y.m = X.m) (hb : Y.budget = X.budget) (hl : Y.l.length = X.l.length) (peer : Nat) (now : Int) (ends : List (List Int)) : Y.planFor peer now ends = X.planFor peer now ends := by
  have key : ∀ (k i : Nat) (st : Int × List Send), Y.planGo peer now ends k i st = X.planGo peer now ends k i st := by
    intro k
    induction k with
    | zero => intro i st; rfl
    | succ k ih =>
      intro i st
      rw [BoxM.planGo, BoxM.planGo]
      simp only [hl, ih]
      have : Y.planStep peer now ends i st = X.planStep peer now ends i st := by
        unfold BoxM.planStep
        simp only [hl, hm]
      rw [this]
  unfold BoxM.planFor
  rw [key, hb, hl]
/-- what is planned for peer i -/
def sendsOf (X : BoxM) (now : Int) (ends : List (List Int)) (i : Nat) : List Send := if X.dueB i now then X.planFor i now ends else []
theorem dueB_at {X Y : BoxM} {i : Nat} {now : Int} (hme : Y.me = X.me) (hl : Y.l.length = X.l.length) (h : Y.at_ i = X.at_ i) : Y.dueB i now = X.dueB i now := by
  unfold BoxM.dueB BoxM.peerB
  simp only [hme, hl, Int.toNat_natCast, h]
theorem at_set_eq {X : BoxM} {j : Nat} (p : Peer) (h : j < X.l.length) : (X.setPeer j p).at_ j = p := by
  simp [BoxM.at_, BoxM.setPeer, List.getD, h]
theorem at_set_ne' {X : BoxM} {i j : Nat} (p : Peer) (h : i ≠ j) : (X.setPeer j p).at_ i = X.at_ i := by
  simp [BoxM.at_, BoxM.setPeer, List.getD, Ne.symm h]
def bumped (now : Int) (p : Peer) : Peer := { due := now + pauseI (p.waiting + 1), waiting := p.waiting + 1, gone := p.gone }
theorem bump_eq (X : BoxM) (j : Nat) (now : Int) : X.bump j now = X.setPeer j (bumped now (X.at_ j)) := rfl
theorem sendsOf_lt {X : BoxM} {now : Int} {ends : List (List Int)} {i : Nat} (h : sendsOf X now ends i ≠ []) : i < X.l.length ∧ X.dueB i now = true := by
  unfold sendsOf at h
  split at h
  · next hd =>
    refine ⟨?_, hd⟩
    unfold BoxM.dueB BoxM.peerB srvB at hd
    simp only [Bool.and_eq_true, decide_eq_true_eq] at hd
    omega
  · exact absurd rfl h
theorem planAll_spec {X : BoxM} {now : Int} {ends : List (List Int)} : ∀ (k j : Nat) (Y : BoxM) (l : List Send), Y.me = X.me → Y.budget = X.budget → Y.m = X.m → Y.l.length = X.l.length → (∀ i, j ≤ i → Y.at_ i = X.at_ i) →
    (BoxM.planAll now ends k j (Y, l)).2 = l ++ (List.range' j k).flatMap (sendsOf X now ends) ∧
    (BoxM.planAll now ends k j (Y, l)).1.me = X.me ∧ (BoxM.planAll now ends k j (Y, l)).1.budget = X.budget ∧ (BoxM.planAll now ends k j (Y, l)).1.m = X.m ∧ (BoxM.planAll now ends k j (Y, l)).1.l.length = X.l.length ∧
    ∀ i, (BoxM.planAll now ends k j (Y, l)).1.at_ i = if j ≤ i ∧ i < j + k ∧ sendsOf X now ends i ≠ [] then bumped now (X.at_ i) else Y.at_ i
  | 0, j, Y, l, h1, h2, h3, h4, h5 => by
    refine ⟨by simp [BoxM.planAll], h1, h2, h3, h4, fun i => ?_⟩
    rw [if_neg (by omega)]
    rfl
  | k + 1, j, Y, l, h1, h2, h3, h4, h5 => by
    have hd : Y.dueB j now = X.dueB j now := dueB_at h1 h4 (h5 j (Nat.le_refl j))
    have hp : Y.planFor j now ends = X.planFor j now ends := planFor_congr h3 h2 h4 j now ends
    have hsk : sendsOf X now ends j = [] → BoxM.planAll now ends (k + 1) j (Y, l) = BoxM.planAll now ends k (j + 1) (Y, l) := by
      intro hs
      rw [BoxM.planAll]
      simp only [hd, hp]
      by_cases hf : X.dueB j now = false
      · rw [if_pos hf]
      · rw [if_neg hf]
        have ht : X.dueB j now = true := by simpa using hf
        have : X.planFor j now ends = [] := by simpa [sendsOf, ht] using hs
        rw [if_pos this]
    have hgo : sendsOf X now ends j ≠ [] → BoxM.planAll now ends (k + 1) j (Y, l) = BoxM.planAll now ends k (j + 1) (Y.bump j now, l ++ sendsOf X now ends j) := by
      intro hs
      obtain ⟨_, ht⟩ := sendsOf_lt hs
      rw [BoxM.planAll]
      simp only [hd, hp]
      rw [if_neg (by simp [ht])]
      have he : sendsOf X now ends j = X.planFor j now ends := by simp [sendsOf, ht]
      rw [he] at hs ⊢
      rw [if_neg hs]
    by_cases hs : sendsOf X now ends j = []
    · rw [hsk hs]
      obtain ⟨r1, r2, r3, r4, r5, r6⟩ := planAll_spec k (j + 1) Y l h1 h2 h3 h4 (fun i hi => h5 i (by omega))
      refine ⟨?_, r2, r3, r4, r5, fun i => ?_⟩
      · rw [r1, List.range'_succ, List.flatMap_cons, hs]
        simp
      · rw [r6]
        by_cases hij : i = j
        · subst hij
          rw [if_neg (by omega), if_neg (by simp [hs])]
        · by_cases hc : j + 1 ≤ i ∧ i < j + 1 + k ∧ sendsOf X now ends i ≠ []
          · rw [if_pos hc, if_pos ⟨by omega, by omega, hc.2.2⟩]
          · rw [if_neg hc, if_neg (fun h => hc ⟨by omega, by omega, h.2.2⟩)]
    · rw [hgo hs]
      obtain ⟨hjl, _⟩ := sendsOf_lt hs
      have hsame : ∀ i, i ≠ j → (Y.bump j now).at_ i = Y.at_ i := fun i hi => at_set_ne' (X := Y) _ hi
      obtain ⟨r1, r2, r3, r4, r5, r6⟩ := planAll_spec k (j + 1) (Y.bump j now) (l ++ sendsOf X now ends j) h1 h2 h3 (by simpa [BoxM.bump] using h4) (fun i hi => (hsame i (by omega)).trans (h5 i (by omega)))
      refine ⟨?_, r2, r3, r4, r5, fun i => ?_⟩
      · rw [r1, List.range'_succ, List.flatMap_cons]
        simp
      · rw [r6]
        by_cases hij : i = j
        · subst hij
          rw [if_neg (by omega), if_pos ⟨Nat.le_refl _, by omega, hs⟩, bump_eq, at_set_eq _ (by omega), h5 i (Nat.le_refl i)]
        · by_cases hc : j + 1 ≤ i ∧ i < j + 1 + k ∧ sendsOf X now ends i ≠ []
          · rw [if_pos hc, if_pos ⟨by omega, by omega, hc.2.2⟩]
          · rw [if_neg hc, if_neg (fun h => hc ⟨by omega, by omega, h.2.2⟩), hsame i hij]
theorem plan_spec (X : BoxM) (now : Int) (ends : List (List Int)) :
    (X.plan now ends).2 = (List.range X.l.length).flatMap (sendsOf X (clampT now) ends) ∧
    (X.plan now ends).1.me = X.me ∧ (X.plan now ends).1.budget = X.budget ∧ (X.plan now ends).1.m = X.m ∧ (X.plan now ends).1.l.length = X.l.length ∧
    ∀ i, (X.plan now ends).1.at_ i = if sendsOf X (clampT now) ends i ≠ [] then bumped (clampT now) (X.at_ i) else X.at_ i := by
  obtain ⟨r1, r2, r3, r4, r5, r6⟩ := planAll_spec (X := X) (now := clampT now) (ends := ends) X.l.length 0 X [] rfl rfl rfl rfl (fun _ _ => rfl)
  refine ⟨?_, r2, r3, r4, r5, fun i => ?_⟩
  · unfold BoxM.plan
    rw [r1, List.range_eq_range']
    simp
  · unfold BoxM.plan
    rw [r6]
    by_cases h : sendsOf X (clampT now) ends i ≠ []
    · rw [if_pos h, if_pos ⟨by omega, by have := (sendsOf_lt h).1; omega, h⟩]
    · rw [if_neg h, if_neg (fun hh => h hh.2.2)]
end Go.Proofs.Ytipklnakihinkaa
