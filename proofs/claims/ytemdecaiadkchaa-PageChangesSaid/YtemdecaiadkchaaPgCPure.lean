/- The walk over lists that change; plain. -/
import Derived.Test.YtemdecaiadkchaaPgPPure
namespace Go.Proofs.Ytemdecaiadkchaa
open Go.ChangeShapes Go.WideShapes Go.ChangeAt Go.RowKit Go.Lib
set_option linter.unusedVariables false

theorem mem_sortS {l : List Card} {c : Card} : c ∈ sortS l ↔ c ∈ l := by
  have h := (sort_SS l).2 c
  have h1 : ∀ r : List Card, c ∈ r ↔ c ∈ r.filter (eqk c) := fun r => by rw [List.mem_filter]; exact ⟨fun h => ⟨h, eqk_self c⟩, fun h => h.1⟩
  rw [h1 (sortS l), h, ← h1]
theorem dif_pair {l : List Card} : Dif l ↔ l.Pairwise (fun x y => x.id ≠ y.id) := by
  rw [List.pairwise_iff_getElem]
  constructor
  · intro h i j hi hj hij e
    exact h j i _ _ hij (List.getElem?_eq_getElem hj) (List.getElem?_eq_getElem hi) e.symm
  · intro h i j x y hji hx hy e
    obtain ⟨hi, rfl⟩ := List.getElem?_eq_some_iff.1 hx
    obtain ⟨hj, rfl⟩ := List.getElem?_eq_some_iff.1 hy
    exact h j i hj hi hji e.symm
theorem dif_sub {l m : List Card} (h : Dif m) (hs : l.Sublist m) : Dif l := dif_pair.2 ((dif_pair.1 h).sublist hs)
/-- the others that are there in a round, of the first n -/
def pickO (i : Nat) (o : List Card) : Nat → List Card
  | 0 => []
  | j + 1 => pickO i o j ++ (match o[j]? with | some c => if (i + j) % 3 ≠ 0 then [c] else [] | none => [])
theorem pick_sub (i : Nat) (o : List Card) : ∀ n, (pickO i o n).Sublist (o.take n)
  | 0 => by simp [pickO]
  | n + 1 => by
    have ih := pick_sub i o n
    unfold pickO
    cases h : o[n]? with
    | none => simp only [List.append_nil]; exact ih.trans (List.take_sublist_take_left (by omega))
    | some c =>
      rw [List.take_add_one, h]
      refine ih.append ?_
      simp only [Option.toList]
      split
      · exact List.Sublist.refl _
      · exact List.nil_sublist _
theorem pick_all (i : Nat) (o : List Card) : (pickO i o o.length).Sublist o := by
  have := pick_sub i o o.length
  rwa [List.take_length] at this
theorem pick_yes {i j : Nat} {o : List Card} {c : Card} (h : o[j]? = some c) (hm : (i + j) % 3 ≠ 0) : pickO i o (j + 1) = pickO i o j ++ [c] := by
  show pickO i o j ++ _ = _
  rw [h]; simp only; rw [if_pos hm]
theorem pick_no {i j : Nat} {o : List Card} (hm : ¬ (i + j) % 3 ≠ 0) : pickO i o (j + 1) = pickO i o j := by
  show pickO i o j ++ _ = _
  cases h : o[j]? with
  | none => simp
  | some c => simp only; rw [if_neg hm, List.append_nil]
def nowC (i : Nat) (l o : List Card) : List Card := l ++ pickO i o o.length
theorem now_sub (i : Nat) (l o : List Card) : (nowC i l o).Sublist (l ++ o) := (List.Sublist.refl l).append (pick_all i o)
theorem now_dif {i : Nat} {l o : List Card} (h : Dif (l ++ o)) : Dif (nowC i l o) := dif_sub h (now_sub i l o)
/-- the state of the walk between two pages -/
structure Walk (l o : List Card) (i : Nat) (seen : List Card) (k : Mk) (more : Bool) : Prop where
  str : seen.Pairwise (fun x y => lessC x y = true)
  mem : ∀ c ∈ seen, c ∈ l ++ o
  km : k = nextM (beginM 0) seen
  go : more = true → i ≤ seen.length ∧ ∀ c ∈ l, passB k c = true ∨ c ∈ seen
  fin : more = false → ∀ c ∈ l, c ∈ seen
theorem walk_start (l o : List Card) : Walk l o 0 [] (beginM 0) true :=
  ⟨List.Pairwise.nil, by simp, rfl, fun _ => ⟨Nat.zero_le _, fun c _ => .inl rfl⟩, by simp⟩
theorem str_nodup {s : List Card} (h : s.Pairwise (fun x y => lessC x y = true)) : s.Nodup :=
  h.imp (fun {a b} hab e => by subst e; rw [less_irrefl] at hab; simp at hab)
theorem nodup_le : ∀ {s t : List Card}, s.Nodup → (∀ c ∈ s, c ∈ t) → s.length ≤ t.length
  | [], _, _, _ => Nat.zero_le _
  | a :: s, t, hn, hm => by
    have ha := hm a (by simp)
    obtain ⟨t1, t2, rfl⟩ := List.append_of_mem ha
    have hn' := List.nodup_cons.1 hn
    have := nodup_le (s := s) (t := t1 ++ t2) hn'.2 (fun c hc => by
      have h1 := hm c (List.mem_cons_of_mem _ hc)
      simp only [List.mem_append, List.mem_cons] at h1 ⊢
      rcases h1 with h1 | h1 | h1
      · exact .inl h1
      · subst h1; exact absurd hc hn'.1
      · exact .inr h1)
    simp only [List.length_append, List.length_cons] at this ⊢
    omega
theorem Walk.len {l o : List Card} {i : Nat} {seen : List Card} {k : Mk} {more : Bool} (h : Walk l o i seen k more) : seen.length ≤ l.length + o.length := by
  have := nodup_le (str_nodup h.str) h.mem
  rwa [List.length_append] at this
theorem pass_seen {seen : List Card} {k : Mk} (hs : seen.Pairwise (fun x y => lessC x y = true)) (hk : k = nextM (beginM 0) seen) {c : Card} (hc : passB k c = true) : ∀ s ∈ seen, lessC s c = true := by
  intro s hm
  have hne : seen ≠ [] := by intro e; subst e; simp at hm
  obtain ⟨T, u, rfl⟩ : ∃ T u, seen = T ++ [u] := ⟨seen.dropLast, seen.getLast hne, (List.dropLast_concat_getLast hne).symm⟩
  rw [nextM_snoc] at hk
  subst hk
  rw [pass_mark] at hc
  rcases List.mem_append.1 hm with hm | hm
  · obtain ⟨_, _, h3⟩ := List.pairwise_append.1 hs
    exact less_trans (h3 s hm u (by simp)) hc
  · simp at hm; subst hm; exact hc
/-- one page more -/
theorem walk_page {l o : List Card} (hd : Dif (l ++ o)) {i : Nat} {seen : List Card} {k : Mk} (h : Walk l o i seen k true) {q : Nat} (hq : 1 ≤ q) :
    (seen ++ pageL k (sortS (nowC i l o)) q).Pairwise (fun x y => lessC x y = true) ∧ (∀ c ∈ pageL k (sortS (nowC i l o)) q, c ∈ nowC i l o) ∧
      Walk l o (i + 1) (seen ++ pageL k (sortS (nowC i l o)) q) (nextM k (pageL k (sortS (nowC i l o)) q)) (moreB k (sortS (nowC i l o)) q) := by
  obtain ⟨X, hX⟩ : ∃ X, sortS (nowC i l o) = X := ⟨_, rfl⟩
  have hXs : X.Pairwise (fun x y => lessC x y = true) := by rw [← hX]; exact str_sorted (now_dif hd)
  have hXm : ∀ c, c ∈ X ↔ c ∈ nowC i l o := fun c => by rw [← hX]; exact mem_sortS
  rw [hX]
  have hpm : ∀ c ∈ pageL k X q, c ∈ X ∧ passB k c = true := fun c hc => List.mem_filter.1 (List.mem_of_mem_take hc)
  have hps : (pageL k X q).Pairwise (fun x y => lessC x y = true) := (hXs.filter (passB k)).sublist (List.take_sublist _ _)
  have hall : (seen ++ pageL k X q).Pairwise (fun x y => lessC x y = true) :=
    List.pairwise_append.2 ⟨h.str, hps, fun s hs c hc => pass_seen h.str h.km (hpm c hc).2 s hs⟩
  have hin : ∀ c ∈ pageL k X q, c ∈ nowC i l o := fun c hc => (hXm c).1 (hpm c hc).1
  refine ⟨hall, hin, hall, ?_, by rw [h.km, nextM_app], ?_, ?_⟩
  · intro c hc
    rcases List.mem_append.1 hc with hc | hc
    · exact h.mem c hc
    · exact (now_sub i l o).subset (hin c hc)
  · intro hm
    have hlt : q < (X.filter (passB k)).length := of_decide_eq_true hm
    have hpl : (pageL k X q).length = q := by unfold pageL; rw [List.length_take]; omega
    refine ⟨by rw [List.length_append, hpl]; have := (h.go rfl).1; omega, fun c hc => ?_⟩
    rcases (h.go rfl).2 c hc with hp | hs
    · have hcF : c ∈ X.filter (passB k) := List.mem_filter.2 ⟨(hXm c).2 (List.mem_append_left _ hc), hp⟩
      rw [← List.take_append_drop q (X.filter (passB k))] at hcF
      rcases List.mem_append.1 hcF with h1 | h1
      · exact .inr (List.mem_append_right _ h1)
      · left
        have hne : (X.filter (passB k)).take q ≠ [] := by intro e; have := congrArg List.length e; rw [List.length_take, List.length_nil] at this; omega
        have e := filter_next hXs k hne
        rw [← e] at h1
        exact (List.mem_filter.1 h1).2
    · exact .inr (List.mem_append_left _ hs)
  · intro hm c hc
    have hle : ¬ q < (X.filter (passB k)).length := of_decide_eq_false hm
    rcases (h.go rfl).2 c hc with hp | hs
    · refine List.mem_append_right _ ?_
      unfold pageL
      rw [List.take_of_length_le (by omega)]
      exact List.mem_filter.2 ⟨(hXm c).2 (List.mem_append_left _ hc), hp⟩
    · exact List.mem_append_left _ hs
/-- what the law asks of each card of a page -/
theorem page_card {seen pg : List Card} (h : (seen ++ pg).Pairwise (fun x y => lessC x y = true)) {j : Nat} {c : Card} (hc : pg[j]? = some c) :
    decide (c ∈ seen ++ pg.take j) = false ∧ ∀ u, (seen ++ pg.take j).getLast? = some u → lessC u c = true := by
  have hs : seen ++ pg = (seen ++ pg.take j) ++ (c :: pg.drop (j + 1)) := by
    obtain ⟨hj, rfl⟩ := List.getElem?_eq_some_iff.1 hc
    rw [List.append_assoc, ← List.drop_eq_getElem_cons hj, List.take_append_drop]
  rw [hs] at h
  obtain ⟨_, _, h3⟩ := List.pairwise_append.1 h
  refine ⟨decide_eq_false fun hm => ?_, fun u hu => h3 u (List.mem_of_getLast? hu) c (by simp)⟩
  have := h3 c hm c (by simp)
  rw [less_irrefl] at this
  simp at this
end Go.Proofs.Ytemdecaiadkchaa
