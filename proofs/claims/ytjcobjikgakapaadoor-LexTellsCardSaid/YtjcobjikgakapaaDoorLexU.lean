/- Lists of tokens in memory; the laws' own helpers, walked. -/
import Derived.Test.YtjcobjikgakapaaDoorLexScan
import Derived.Laws.StructEq
namespace Go.Proofs.YtjcobjikgakapaaDoor
open Go.ChangeShapes Go.WideShapes Go.ChangeAt Go.RowKit Go.Lib
set_option linter.unusedVariables false

/-- the tokens lie from A on -/
def TokR (w : World) (A : Option Addr) (ts : List Tok) : Prop :=
  ∀ (i : Nat) (t : Tok), ts[i]? = some t → ∃ g o, A = some ⟨g, o, none⟩ ∧ g < w.heap.size ∧ w.cell? ⟨g, o + i * 4, none⟩ = some (.int .i64 t.kind) ∧ w.cell? ⟨g, o + i * 4 + 1, none⟩ = some (.string (bs t.text)) ∧ w.cell? ⟨g, o + i * 4 + 2, none⟩ = some (.int .i64 t.n) ∧ w.cell? ⟨g, o + i * 4 + 3, none⟩ = some (.int .i64 t.off)
theorem TokR.below {w w' : World} {A : Option Addr} {ts : List Tok} (h : TokR w A ts) (hb : Below w.heap.size w w') : TokR w' A ts := by
  intro i t hi
  obtain ⟨g, o, rfl, hg, h0, h1, h2, h3⟩ := h i t hi
  exact ⟨g, o, rfl, Nat.lt_of_lt_of_le hg hb.size, by rw [hb.cell (p := ⟨g, _, none⟩) hg, h0], by rw [hb.cell (p := ⟨g, _, none⟩) hg, h1], by rw [hb.cell (p := ⟨g, _, none⟩) hg, h2], by rw [hb.cell (p := ⟨g, _, none⟩) hg, h3]⟩
theorem TokR.drewN {w : World} {A : Option Addr} {ts : List Tok} (h : TokR w A ts) (n : Nat) : TokR (w.drewN n) A ts := h
theorem tokCells_at : ∀ (ts : List Tok) (i : Nat) (t : Tok), ts[i]? = some t → (tokCells ts)[i * 4]? = some (.int .i64 t.kind) ∧ (tokCells ts)[i * 4 + 1]? = some (.string (bs t.text)) ∧ (tokCells ts)[i * 4 + 2]? = some (.int .i64 t.n) ∧ (tokCells ts)[i * 4 + 3]? = some (.int .i64 t.off) := by
  intro ts
  induction ts with
  | nil => intro i t h; simp at h
  | cons u ts ih =>
    intro i t h
    cases i with
    | zero =>
      simp at h
      subst h
      simp [tokCells]
    | succ i =>
      have := ih i t (by simpa using h)
      rw [show (i + 1) * 4 = i * 4 + 4 by omega]
      simpa [tokCells, Nat.add_right_comm] using this
theorem TokR.of_own {w : World} {base e : Nat} {a : Option Addr} {c : Nat} {ts : List Tok} (h : w.ownsRow base e 4 (.slice a ts.length c) ts.length (tokCells ts)) : TokR w a ts := by
  intro i t hi
  have hlt : i < ts.length := (List.getElem?_eq_some_iff.1 hi).1
  rcases h.2 with ⟨_, h0⟩ | ⟨g, cap, cur, hv, hg, hh, _⟩
  · omega
  · have ha : a = some ⟨g, 0, none⟩ := by injection hv
    have hc : ∀ j u, (tokCells ts)[j]? = some u → w.cell? ⟨g, j, none⟩ = some u := by
      intro j u hu
      have := World.ownsRow.cells h (g := g) (by rw [ha]; rfl) j u hu
      have hadd : (⟨g, 0, none⟩ : Addr).add j = ⟨g, j, none⟩ := by unfold Addr.add; split <;> simp_all
      rwa [hadd] at this
    obtain ⟨h0, h1, h2, h3⟩ := tokCells_at ts i t hi
    refine ⟨g, 0, ha, (Array.getElem?_eq_some_iff.1 hh).1, ?_, ?_, ?_, ?_⟩
    · rw [Nat.zero_add]; exact hc _ _ h0
    · rw [Nat.zero_add]; exact hc _ _ h1
    · rw [Nat.zero_add]; exact hc _ _ h2
    · rw [Nat.zero_add]; exact hc _ _ h3
/-- Scan's answer, opened -/
theorem scan_open {R : List Tok × Int × Int} {w w' : World} {e : Ending} (h : ScanPost R w e w') : ∃ a c, e = .returned (.tuple #[.slice a R.1.length c, .int .i64 R.2.1, .int .i64 R.2.2]) ∧ TokR w' a R.1 ∧ Below w.heap.size w w' := by
  obtain ⟨v, rfl, ho, hb⟩ := h
  obtain ⟨a, c, rfl⟩ := own_form ho
  exact ⟨a, c, rfl, TokR.of_own ho, hb⟩
set_option maxRecDepth 100000 in
set_option maxHeartbeats 1000000 in
theorem same_true (A B : Option Addr) (n c d : Nat) (xs ys : List Tok) (w : World) (hA : TokR w A xs) (hB : TokR w B ys) (hn : xs.length = n) (hn' : ys.length = n) (he : xs.map er = ys.map er) (hlim : n ≤ 1000000) :
    Calls Tryd.prog 17 #[.slice A n c, .slice B n d] w (BoolPost w true) := by
  go_enter Tryd.func17, Tryd.ntmps17
  go_wp2
  go_loopw [5] (fun v wr => ∃ k q : Nat, k ≤ n ∧ v = .int .i64 k ∧ wr = w.drewN q) (fun v _ => n - (intOf v).toNat)
  case atStart => exact ⟨0, 0, by omega, rfl, rfl⟩
  case round =>
    obtain ⟨k, q, hk, rfl, rfl⟩ := hrel
    by_cases hlt : k < n
    · obtain ⟨t, ht⟩ : ∃ t, xs[k]? = some t := ⟨_, List.getElem?_eq_getElem (by omega)⟩
      obtain ⟨u, hu⟩ : ∃ u, ys[k]? = some u := ⟨_, List.getElem?_eq_getElem (by omega)⟩
      have heq : er t = er u := by
        have h1 := congrArg (fun l => l[k]?) he
        simpa [ht, hu] using h1
      obtain ⟨g, o, rfl, _, a0, a1, a2, _⟩ := hA k t ht
      obtain ⟨g', o', rfl, _, b0, b1, b2, _⟩ := hB k u hu
      obtain ⟨tk, tt, tn, to⟩ := t
      obtain ⟨uk, ut, un, uo⟩ := u
      simp only [er, Tok.mk.injEq] at heq
      obtain ⟨rfl, rfl, rfl, _⟩ := heq
      have htl := bs_toList tt
      clear ht hu he hA hB hn hn'
      go_wp2
      go_quiet (fail)
      go_wp2
      go_roundw
      case rel => exact ⟨k + 1, _, by omega, by go_num, by first | rfl | (simp; rfl)⟩
      case measure => simp [intOf]; omega
    · have hkn : k = n := by omega
      subst hkn
      clear hn hn' he
      go_wp2
      go_ret
      exact ⟨rfl, below_drewN (Below.refl _ _) _⟩
def blankB (l : List UInt8) : Bool := l.all isSp
set_option maxHeartbeats 1000000 in
theorem blank_any (l : List UInt8) (w : World) (hl : l.length ≤ 281474976710656) : Calls Tryd.prog 16 #[.string (bs l)] w (Same (.bool (blankB l)) w) := by
  have hs := bs_size l
  go_enter Tryd.func16, Tryd.ntmps16
  go_wp2
  go_loop [3] (fun v => ∃ k : Nat, k ≤ l.length ∧ v = .int .i64 k ∧ Hid (blankB l = blankB (l.drop k))) (fun v => l.length - (intOf v).toNat)
  case atStart => exact ⟨0, by omega, rfl, rfl⟩
  case round =>
    obtain ⟨k, hk, rfl, HA⟩ := hrel
    by_cases hlt : k < l.length
    · have hg := bs_at l hlt
      have hx : l[k].toNat < 256 := l[k].toNat_lt
      have HD : Hid (blankB l = (isSp l[k] && blankB (l.drop (k + 1)))) := by
        unfold Hid
        rw [HA.out, List.drop_eq_getElem_cons hlt]
        rfl
      have e9 : l[k] = 9 ↔ l[k].toNat = 9 := ⟨fun h => by rw [h]; rfl, fun h => UInt8.toNat_inj.1 h⟩
      have e10 : l[k] = 10 ↔ l[k].toNat = 10 := ⟨fun h => by rw [h]; rfl, fun h => UInt8.toNat_inj.1 h⟩
      have e13 : l[k] = 13 ↔ l[k].toNat = 13 := ⟨fun h => by rw [h]; rfl, fun h => UInt8.toNat_inj.1 h⟩
      have e32 : l[k] = 32 ↔ l[k].toNat = 32 := ⟨fun h => by rw [h]; rfl, fun h => UInt8.toNat_inj.1 h⟩
      have hi : isSp l[k] = true ↔ l[k].toNat = 9 ∨ l[k].toNat = 10 ∨ l[k].toNat = 13 ∨ l[k].toNat = 32 := by
        rw [← e9, ← e10, ← e13, ← e32]
        simp [isSp, or_assoc]
      clear e9 e10 e13 e32
      obtain ⟨x, hxe⟩ : ∃ x, l[k].toNat = x := ⟨_, rfl⟩
      rw [hxe] at hg hi hx
      clear hxe
      by_cases hsp : x = 9 ∨ x = 10 ∨ x = 13 ∨ x = 32
      · have H : Hid (blankB l = blankB (l.drop (k + 1))) := by unfold Hid; rw [HD.out, hi.2 hsp]; rfl
        clear HD hi
        rcases hsp with rfl | rfl | rfl | rfl
        all_goals
          go_wp2
          go_round
          case rel => exact ⟨k + 1, by omega, by go_num, H⟩
          case measure => simp [intOf]; omega
      · have hf : isSp l[k] = false := by
          cases h : isSp l[k] with
          | false => rfl
          | true => exact absurd (hi.1 h) hsp
        have H : Hid (blankB l = false) := by unfold Hid; rw [HD.out, hf]; rfl
        have n9 : ((x : Int) == 9) = false := beq_eq_false_iff_ne.2 (by omega)
        have n10 : ((x : Int) == 10) = false := beq_eq_false_iff_ne.2 (by omega)
        have n13 : ((x : Int) == 13) = false := beq_eq_false_iff_ne.2 (by omega)
        have n32 : ((x : Int) == 32) = false := beq_eq_false_iff_ne.2 (by omega)
        have m9 : ((x : Int) != 9) = true := by rw [bne, n9]; rfl
        have m10 : ((x : Int) != 10) = true := by rw [bne, n10]; rfl
        have m13 : ((x : Int) != 13) = true := by rw [bne, n13]; rfl
        have m32 : ((x : Int) != 32) = true := by rw [bne, n32]; rfl
        clear HD hi hf hsp
        go_wp2
        go_ret
        exact ⟨by rw [H.out]; rfl, rfl⟩
    · have H : Hid (blankB l = true) := by unfold Hid; rw [HA.out, List.drop_eq_nil_of_le (by omega)]; rfl
      clear HA
      go_wp2
      go_ret
      exact ⟨by rw [H.out]; rfl, rfl⟩
end Go.Proofs.YtjcobjikgakapaaDoor
