/- LexLimits, walked: it answers true. -/
import Derived.Test.YtjcobjikgakapaaDoorWritesWalk
import Derived.Deep.DeepCutAuto
namespace Go.Proofs.YtjcobjikgakapaaDoor
open Go.ChangeShapes Go.WideShapes Go.ChangeAt Go.RowKit Go.Lib
set_option linter.unusedVariables false

/-- k letters a -/
def asL (k : Nat) : List UInt8 := List.replicate k 97
theorem asL_len (k : Nat) : (asL k).length = k := by simp [asL]
theorem asL_snoc (k : Nat) : asL k ++ [97] = asL (k + 1) := by simp [asL, List.replicate_succ']
/-- whether the first k bytes are printable -/
def prB (l : List UInt8) (k : Nat) : Bool := (l.take k).all printB
theorem prB_succ {l : List UInt8} {k : Nat} (h : k < l.length) : prB l (k + 1) = (prB l k && printB l[k]) := by
  unfold prB
  rw [List.take_succ_eq_append_getElem h, List.all_append]
  simp only [List.all_cons, List.all_nil, Bool.and_true]
structure LimF (M : Nat) (x t : List UInt8) (n : Int) (pr : Bool) (na ta ia : List Tok) (ne te ie : Int) : Prop where
  hN : (decide (M ≤ 24) = true ∧ ne = 0 ∧ ∃ e, na = [⟨0, x, 0, 0⟩, e]) ∨ (decide (M ≤ 24) = false ∧ ne = 2 ∧ na = [])
  hT : pr = false ∨ (pr = true ∧ decide (t.length ≤ 24) = true ∧ te = 0 ∧ ∃ e, ta = [⟨2, t, 0, 0⟩, e]) ∨ (pr = true ∧ decide (t.length ≤ 24) = false ∧ te = 2 ∧ ta = [])
  hI : (decide (n < 0) = true ∧ ((decide (-1125899906842624 ≤ n) = true ∧ ie = 0 ∧ ∃ e f, ia = [⟨3, [45], 0, 0⟩, e, f]) ∨ (decide (-1125899906842624 ≤ n) = false ∧ ie = 2 ∧ ia = []))) ∨
    (decide (n < 0) = false ∧ ((decide (n ≤ 1125899906842624) = true ∧ ie = 0 ∧ ∃ e, ia = [⟨1, [], n, 0⟩, e]) ∨ (decide (n ≤ 1125899906842624) = false ∧ ie = 2 ∧ ia = [])))
set_option maxRecDepth 100000 in
set_option maxHeartbeats 1000000 in
theorem limits_out (n m : Int) (t : List UInt8) (w : World) (h : 100 < t.length ∨ (t.length ≤ 100 ∧ m < 1) ∨ (t.length ≤ 100 ∧ 1 ≤ m ∧ 100 < m)) (hl : t.length ≤ 281474976710656) (cs : Calls Tryd.prog 9 #[] w (BoolPost w true)) :
    Calls Tryd.prog 8 #[.int .i64 n, .int .i64 m, .string (bs t)] w (BoolPost w true) := by
  have hs := bs_size t
  rcases h with h | ⟨h, h2⟩ | ⟨h, h2, h3⟩
  · have d1 : decide (100 < (t.length : Int)) = true := decide_eq_true (by omega)
    go_enter Tryd.func8, Tryd.ntmps8
    go_wp2_with fail
    refine cs.mono ?_
    rintro e w1 ⟨rfl, hb1⟩
    go_wp2
    go_ret
    exact ⟨rfl, hb1⟩
  · have d1 : decide (100 < (t.length : Int)) = false := decide_eq_false (by omega)
    have d2 : decide (m < 1) = true := decide_eq_true h2
    go_enter Tryd.func8, Tryd.ntmps8
    go_wp2_with fail
    refine cs.mono ?_
    rintro e w1 ⟨rfl, hb1⟩
    go_wp2
    go_ret
    exact ⟨rfl, hb1⟩
  · have d1 : decide (100 < (t.length : Int)) = false := decide_eq_false (by omega)
    have d2 : decide (m < 1) = false := decide_eq_false (by omega)
    have d3 : decide (100 < m) = true := decide_eq_true h3
    go_enter Tryd.func8, Tryd.ntmps8
    go_wp2_with fail
    refine cs.mono ?_
    rintro e w1 ⟨rfl, hb1⟩
    go_wp2
    go_ret
    exact ⟨rfl, hb1⟩
set_option maxRecDepth 100000 in
set_option maxHeartbeats 4000000 in
theorem limits_go (n : Int) (M : Nat) (t : List UInt8) (na ta ia : List Tok) (ne nk te tk ie ik : Int) (w : World) (hM1 : 1 ≤ M) (hM2 : M ≤ 100) (ht : t.length ≤ 100) (wn : wf64 n) (hL : Laid w)
    (hF : LimF M (asL M) t n (prB t t.length) na ta ia ne te ie) (r1 : scanR (asL M) = (na, ne, nk)) (r2 : scanR (34 :: (t ++ [34])) = (ta, te, tk)) (r3 : scanR (itoa n) = (ia, ie, ik)) :
    Calls Tryd.prog 8 #[.int .i64 n, .int .i64 (M : Nat), .string (bs t)] w (BoolPost w true) := by
  have hs := bs_size t
  have d1 : decide (100 < (t.length : Int)) = false := decide_eq_false (by omega)
  have d2 : decide ((M : Int) < 1) = false := decide_eq_false (by omega)
  have d3 : decide (100 < (M : Int)) = false := decide_eq_false (by omega)
  have hil := itoa_length wn.1 wn.2
  have cs := small_any w hL
  have c1 := fun W hW => scan_o (asL M) _ r1 (by rw [asL_len]; omega) W hW
  have c2 := fun W hW => scan_o (34 :: (t ++ [34])) _ r2 (by simp; omega) W hW
  have c3 := fun W hW => scan_o (itoa n) _ r3 (by omega) W hW
  have cT := fun W hW => text_any n W wn hW
  have hx0 : (⟨#[]⟩ : ByteArray) = bs (asL 0) := rfl
  have q1 : (⟨#[34]⟩ : ByteArray) ++ bs t = bs (34 :: t) := bs_append [34] t
  have q2 : bs (34 :: t) ++ (⟨#[34]⟩ : ByteArray) = bs (34 :: (t ++ [34])) := bs_append (34 :: t) [34]
  have q3 := bs_size (34 :: t)
  rw [List.length_cons] at q3
  have HF := Lib.hid hF
  have HX0 := Lib.hid hx0
  clear r1 r2 r3 hF hx0
  generalize itoa n = itn at *
  go_enter Tryd.func8, Tryd.ntmps8
  go_wp2_with fail
  refine cs.mono ?_
  rintro e w1 ⟨rfl, hb1⟩
  go_wp2_with fail
  go_loop [8, 9] (fun v8 v9 => ∃ k : Nat, k ≤ M ∧ v9 = .int .i64 k ∧ v8 = .string (bs (asL k))) (fun _ v9 => M - (intOf v9).toNat)
  case atStart => exact ⟨0, by omega, rfl, by rw [HX0.out]⟩
  case round =>
    obtain ⟨k, hk, rfl, rfl⟩ := hrel
    by_cases hlt : k < M
    · have p1 : bs (asL k) ++ (⟨#[97]⟩ : ByteArray) = bs (asL (k + 1)) := by rw [← asL_snoc]; exact bs_append (asL k) [97]
      have p2 : (bs (asL k)).size = k := by rw [bs_size, asL_len]
      go_wp2_with fail
      go_round
      case rel => exact ⟨k + 1, by omega, by go_num, rfl⟩
      case measure => simp [intOf]; omega
    · have hkM : k = M := by omega
      subst hkM
      clear hlt hk
      go_wp2_with fail
      go_loop [10, 11] (fun v10 v11 => ∃ j : Nat, j ≤ t.length ∧ v11 = .int .i64 j ∧ v10 = .bool (prB t j)) (fun _ v11 => t.length - (intOf v11).toNat)
      case atStart => exact ⟨0, by omega, rfl, rfl⟩
      case round =>
        obtain ⟨j, hj, rfl, rfl⟩ := hrel
        by_cases hlt : j < t.length
        · have hg := bs_at t hlt
          have hx : t[j].toNat < 256 := t[j].toNat_lt
          have HS := Lib.hid (prB_succ hlt)
          have e34 : t[j] = 34 ↔ t[j].toNat = 34 := ⟨fun h => by rw [h]; rfl, fun h => UInt8.toNat_inj.1 h⟩
          have e92 : t[j] = 92 ↔ t[j].toNat = 92 := ⟨fun h => by rw [h]; rfl, fun h => UInt8.toNat_inj.1 h⟩
          have HP : Hid (printB t[j] = true ↔ 32 ≤ t[j].toNat ∧ t[j].toNat ≤ 126 ∧ t[j].toNat ≠ 34 ∧ t[j].toNat ≠ 92) := by
            unfold Hid
            simp [printB, e34, e92, and_assoc]
          obtain ⟨x, hxe⟩ : ∃ x, t[j].toNat = x := ⟨_, rfl⟩
          rw [hxe] at hg HP hx
          clear hxe e34 e92
          cases hp : prB t j with
          | false =>
            have H : Hid (prB t (j + 1) = false) := by unfold Hid; rw [HS.out, hp]; rfl
            clear HS HP hp
            go_wp2_with fail
            go_round
            case rel => exact ⟨j + 1, by omega, by go_num, by rw [H.out]⟩
            case measure => simp [intOf]; omega
          | true =>
            have HQ : Hid (prB t (j + 1) = printB t[j]) := by unfold Hid; rw [HS.out, hp]; rfl
            clear HS hp
            have no : ¬ (32 ≤ x ∧ x ≤ 126 ∧ x ≠ 34 ∧ x ≠ 92) → Hid (prB t (j + 1) = false) := by
              intro h
              unfold Hid
              rw [HQ.out]
              cases hpp : printB t[j] with
              | false => rfl
              | true => exact absurd (HP.out.1 hpp) h
            by_cases h1 : 32 ≤ x
            · have b1 : decide (32 ≤ (x : Int)) = true := decide_eq_true (by omega)
              by_cases h2 : x ≤ 126
              · have b2 : decide ((x : Int) ≤ 126) = true := decide_eq_true (by omega)
                by_cases h3 : x = 34
                · have H := no (by omega)
                  subst h3
                  clear HP HQ no b1 b2
                  go_wp2_with fail
                  go_round
                  case rel => exact ⟨j + 1, by omega, by go_num, by rw [H.out]⟩
                  case measure => simp [intOf]; omega
                · have b3 : ((x : Int) == 34) = false := beq_eq_false_iff_ne.2 (by omega)
                  have b3' : ((x : Int) != 34) = true := by rw [bne, b3]; rfl
                  by_cases h4 : x = 92
                  · have H := no (by omega)
                    subst h4
                    clear HP HQ no b1 b2 b3 b3'
                    go_wp2_with fail
                    go_round
                    case rel => exact ⟨j + 1, by omega, by go_num, by rw [H.out]⟩
                    case measure => simp [intOf]; omega
                  · have b4 : ((x : Int) == 92) = false := beq_eq_false_iff_ne.2 (by omega)
                    have b4' : ((x : Int) != 92) = true := by rw [bne, b4]; rfl
                    have H : Hid (prB t (j + 1) = true) := by unfold Hid; rw [HQ.out]; exact HP.out.2 ⟨h1, h2, h3, h4⟩
                    clear HP HQ no h1 h2 h3 h4
                    go_wp2_with fail
                    go_round
                    case rel => exact ⟨j + 1, by omega, by go_num, by rw [H.out]⟩
                    case measure => simp [intOf]; omega
              · have b2 : decide ((x : Int) ≤ 126) = false := decide_eq_false (by omega)
                have H := no (by omega)
                clear HP HQ no h1 h2
                go_wp2_with fail
                go_round
                case rel => exact ⟨j + 1, by omega, by go_num, by rw [H.out]⟩
                case measure => simp [intOf]; omega
            · have b1 : decide (32 ≤ (x : Int)) = false := decide_eq_false (by omega)
              have H := no (by omega)
              clear HP HQ no h1
              go_wp2_with fail
              go_round
              case rel => exact ⟨j + 1, by omega, by go_num, by rw [H.out]⟩
              case measure => simp [intOf]; omega
        · obtain rfl : j = t.length := by omega
          clear hlt hj
          generalize prB t t.length = pr at *
          generalize asL k = x at *
          go_wp2_with fail
          refine (Calls.mono (c1 _ (hL.below hb1)) ?_)
          rintro e w2 ⟨a1, k1, rfl, hT1, hbx⟩
          have hb2 := hb1.trans (hbx.mono hb1.size)
          have HT1 := Lib.hid hT1
          clear hbx hb1 c1 hT1
          go_wp2_with fail
          refine (Calls.mono (c2 _ (hL.below hb2)) ?_)
          rintro e w3 ⟨a2, k2, rfl, hT2, hbx⟩
          have hb3 := hb2.trans (hbx.mono hb2.size)
          have HT1' := Lib.hid (HT1.out.below hbx)
          have HT2 := Lib.hid hT2
          clear hbx hb2 c2 hT2 HT1
          go_wp2_with fail
          refine (Calls.mono (cT _ (hL.below hb3)) ?_)
          rintro e w4 ⟨rfl, hbx⟩
          have hb4 := hb3.trans (hbx.mono hb3.size)
          have HT1 := Lib.hid (HT1'.out.below hbx)
          have HT2' := Lib.hid (HT2.out.below hbx)
          clear hbx hb3 cT HT2 HT1'
          go_wp2_with fail
          refine (Calls.mono (c3 _ (hL.below hb4)) ?_)
          rintro e w5 ⟨a3, k3, rfl, hT3, hbx⟩
          have hb5 := hb4.trans (hbx.mono hb4.size)
          have HT1' := Lib.hid (HT1.out.below hbx)
          have HT2 := Lib.hid (HT2'.out.below hbx)
          have HT3 := Lib.hid hT3
          clear hbx hb4 c3 HT1 HT2' hT3
          go_upto_region 17 with fail
          have tx := bs_toList x
          have tt := bs_toList t
          have j2 : t.length ≤ 100 := ht
          go_cut [114] (fun s wx => s = .bool false ∧ w5 = wx)
          case first =>
            rcases HF.out.hN with ⟨d, rfl, e, rfl⟩ | ⟨d, rfl, rfl⟩
            · have hk24 := of_decide_eq_true d
              have dI : decide ((k : Int) ≤ 24) = true := decide_eq_true (by omega)
              obtain ⟨g, o, rfl, _, z0, z1, z2, z3⟩ := HT1'.out 0 _ rfl
              rw [Nat.zero_mul, Nat.add_zero] at z1
              clear HF HT1' HT2 HT3 z0 z2 z3 hk24
              go_wp2_with fail
              go_meet
              exact ⟨rfl, rfl⟩
            · have hk24 := of_decide_eq_false d
              have dI : decide ((k : Int) ≤ 24) = false := decide_eq_false (by omega)
              clear HF HT1' HT2 HT3 hk24
              go_wp2_with fail
              go_meet
              exact ⟨rfl, rfl⟩
          case rest =>
            obtain ⟨rfl, rfl⟩ := hcut
            go_upto_region 19 with fail
            go_cut [140] (fun s wx => s = .bool false ∧ w5 = wx)
            case first =>
              rcases HF.out.hT with rfl | ⟨rfl, d, rfl, e, rfl⟩ | ⟨rfl, d, rfl, rfl⟩
              · clear HF HT1' HT2 HT3
                go_wp2_with fail
                go_meet
                exact ⟨rfl, rfl⟩
              · have hk24 := of_decide_eq_true d
                have dI : decide ((t.length : Int) ≤ 24) = true := decide_eq_true (by omega)
                obtain ⟨g, o, rfl, _, z0, z1, z2, z3⟩ := HT2.out 0 _ rfl
                rw [Nat.zero_mul, Nat.add_zero] at z1
                clear HF HT1' HT2 HT3 z0 z2 z3 hk24
                go_wp2_with fail
                go_meet
                exact ⟨rfl, rfl⟩
              · have hk24 := of_decide_eq_false d
                have dI : decide ((t.length : Int) ≤ 24) = false := decide_eq_false (by omega)
                clear HF HT1' HT2 HT3 hk24
                go_wp2_with fail
                go_meet
                exact ⟨rfl, rfl⟩
            case rest =>
              obtain ⟨rfl, rfl⟩ := hcut
              rcases HF.out.hI with ⟨d0, ⟨d, rfl, e, f, rfl⟩ | ⟨d, rfl, rfl⟩⟩ | ⟨d0, ⟨d, rfl, e, rfl⟩ | ⟨d, rfl, rfl⟩⟩
              · obtain ⟨g, o, rfl, _, z0, z1, z2, z3⟩ := HT3.out 0 _ rfl
                rw [Nat.zero_mul, Nat.add_zero] at z1
                replace z1 : w5.cell? ⟨g, o + 1, none⟩ = some (.string ⟨#[45]⟩) := z1
                clear HF HT1' HT2 HT3 z0 z2 z3
                go_wp2
                go_ret
                exact ⟨rfl, hb5⟩
              · clear HF HT1' HT2 HT3
                go_wp2
                go_ret
                exact ⟨rfl, hb5⟩
              · obtain ⟨g, o, rfl, _, z0, z1, z2, z3⟩ := HT3.out 0 _ rfl
                rw [Nat.zero_mul, Nat.add_zero] at z2
                clear HF HT1' HT2 HT3 z0 z1 z3
                go_wp2
                go_ret
                exact ⟨rfl, hb5⟩
              · clear HF HT1' HT2 HT3
                go_wp2
                go_ret
                exact ⟨rfl, hb5⟩
theorem limits_any (n m : Int) (t : List UInt8) (w : World) (wn : wf64 n) (wm : wf64 m) (hl : t.length ≤ 281474976710656) (hL : Laid w) : Calls Tryd.prog 8 #[.int .i64 n, .int .i64 m, .string (bs t)] w (BoolPost w true) := by
  by_cases h1 : 100 < t.length
  · exact limits_out n m t w (.inl h1) hl (small_any w hL)
  by_cases h2 : m < 1
  · exact limits_out n m t w (.inr (.inl ⟨by omega, h2⟩)) hl (small_any w hL)
  by_cases h3 : 100 < m
  · exact limits_out n m t w (.inr (.inr ⟨by omega, by omega, h3⟩)) hl (small_any w hL)
  obtain ⟨M, rfl⟩ : ∃ M : Nat, m = (M : Int) := ⟨m.toNat, by omega⟩
  have r1 := sc_as M (by omega)
  have r3 := sc_itoa wn
  have hil := itoa_length wn.1 wn.2
  have hNN : ∃ na ne nk, scanR (asL M) = (na, ne, nk) ∧ ((decide (M ≤ 24) = true ∧ ne = 0 ∧ ∃ e, na = [⟨0, asL M, 0, 0⟩, e]) ∨ (decide (M ≤ 24) = false ∧ ne = 2 ∧ na = [])) := by
    by_cases h : M ≤ 24
    · rw [if_pos h] at r1
      exact ⟨_, _, _, scanR_ok (l := asL M) (by rw [asL_len]; omega) r1, .inl ⟨decide_eq_true h, rfl, _, rfl⟩⟩
    · rw [if_neg h] at r1
      exact ⟨_, _, _, scanR_err (l := asL M) (by rw [asL_len]; omega) r1, .inr ⟨decide_eq_false h, rfl, rfl⟩⟩
  obtain ⟨na, ne, nk, R1, hN⟩ := hNN
  have hTT : ∃ ta te tk, scanR (34 :: (t ++ [34])) = (ta, te, tk) ∧ (prB t t.length = false ∨ (prB t t.length = true ∧ decide (t.length ≤ 24) = true ∧ te = 0 ∧ ∃ e, ta = [⟨2, t, 0, 0⟩, e]) ∨ (prB t t.length = true ∧ decide (t.length ≤ 24) = false ∧ te = 2 ∧ ta = [])) := by
    cases hp : prB t t.length with
    | false => exact ⟨_, _, _, rfl, .inl rfl⟩
    | true =>
      have hall : ∀ c ∈ t, printB c = true := by
        unfold prB at hp
        rw [List.take_length] at hp
        exact List.all_eq_true.1 hp
      have r2 := sc_text t hall
      by_cases h : t.length ≤ 24
      · rw [if_pos h] at r2
        exact ⟨_, _, _, scanR_ok (by simp; omega) r2, .inr (.inl ⟨rfl, decide_eq_true h, rfl, _, rfl⟩)⟩
      · rw [if_neg h] at r2
        exact ⟨_, _, _, scanR_err (by simp; omega) r2, .inr (.inr ⟨rfl, decide_eq_false h, rfl, rfl⟩)⟩
  obtain ⟨ta, te, tk, R2, hT⟩ := hTT
  have hII : ∃ ia ie ik, scanR (itoa n) = (ia, ie, ik) ∧ ((decide (n < 0) = true ∧ ((decide (-1125899906842624 ≤ n) = true ∧ ie = 0 ∧ ∃ e f, ia = [⟨3, [45], 0, 0⟩, e, f]) ∨ (decide (-1125899906842624 ≤ n) = false ∧ ie = 2 ∧ ia = []))) ∨
    (decide (n < 0) = false ∧ ((decide (n ≤ 1125899906842624) = true ∧ ie = 0 ∧ ∃ e, ia = [⟨1, [], n, 0⟩, e]) ∨ (decide (n ≤ 1125899906842624) = false ∧ ie = 2 ∧ ia = [])))) := by
    by_cases h0 : n < 0
    · rw [if_pos h0] at r3
      by_cases h : -1125899906842624 ≤ n
      · rw [if_pos h] at r3
        exact ⟨_, _, _, scanR_ok (by omega) r3, .inl ⟨decide_eq_true h0, .inl ⟨decide_eq_true h, rfl, _, _, rfl⟩⟩⟩
      · rw [if_neg h] at r3
        exact ⟨_, _, _, scanR_err (by omega) r3, .inl ⟨decide_eq_true h0, .inr ⟨decide_eq_false h, rfl, rfl⟩⟩⟩
    · rw [if_neg h0] at r3
      by_cases h : n ≤ 1125899906842624
      · rw [if_pos h] at r3
        exact ⟨_, _, _, scanR_ok (by omega) r3, .inr ⟨decide_eq_false h0, .inl ⟨decide_eq_true h, rfl, _, rfl⟩⟩⟩
      · rw [if_neg h] at r3
        exact ⟨_, _, _, scanR_err (by omega) r3, .inr ⟨decide_eq_false h0, .inr ⟨decide_eq_false h, rfl, rfl⟩⟩⟩
  obtain ⟨ia, ie, ik, R3, hI⟩ := hII
  exact limits_go n M t na ta ia ne nk te tk ie ik w (by omega) (by omega) (by omega) wn hL ⟨hN, hT, hI⟩ R1 R2 R3
end Go.Proofs.YtjcobjikgakapaaDoor
