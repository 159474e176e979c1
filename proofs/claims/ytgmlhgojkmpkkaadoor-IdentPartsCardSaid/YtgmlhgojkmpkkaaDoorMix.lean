/- The state after a block, walked. -/
import Derived.Test.YtgmlhgojkmpkkaaDoorSched
namespace Go.Proofs.YtgmlhgojkmpkkaaDoor
open Go.ChangeShapes Go.WideShapes Go.ChangeAt Go.RowKit Go.Lib
set_option linter.unusedVariables false

/-- the eight cells of a state -/
def cells8 (s : St) : Array Value := #[.int .u32 s.a, .int .u32 s.b, .int .u32 s.c, .int .u32 s.d, .int .u32 s.e, .int .u32 s.f, .int .u32 s.g, .int .u32 s.h]
/-- the round constants lie where they should -/
def KAt (w : World) : Prop := ∀ j, j < 64 → w.cell? ⟨1, j, none⟩ = some (.int .u32 (kI j))
theorem quiet_same {P : Program} {f : FuncId} {args : Array Value} {w : World} {a n : Nat} {v : Value}
    (h : Calls P f args (w.drewN (a + n)) (Same v (w.drewN (a + n)))) :
    Calls P f args (w.drewN (a + n)) fun e w'' => e = .returned v ∧ ∃ m, w'' = w.drewN (a + m) :=
  h.mono fun _ _ ⟨he, hm⟩ => ⟨he, n, hm.symm⟩
theorem arr8_one (a b c d e f g h : Int) : (#[Value.int .u32 a, .int .u32 b, .int .u32 c, .int .u32 d, .int .u32 e, .int .u32 f, .int .u32 g, .int .u32 h]).all (·.oneCell') = true := by simp [Value.oneCell']
theorem info8 : (Tryd.prog.info? 43).map (·.size) = some 8 := by kernel_rfl
set_option maxRecDepth 100000 in
set_option maxHeartbeats 4000000 in
theorem mix_any (s : St) (hs : s.Ok) (l : List UInt8) (hl : l.length = 64) (w : World) (hK : KAt w) : Calls Tryd.prog 36 #[.agg (cells8 s), .string (bs l)] w (fun e w' => e = .returned (.agg (cells8 (mixS s l))) ∧ Below w.heap.size w w') := by
  obtain ⟨B, hB⟩ : ∃ B, w.heap.size = B := ⟨_, rfl⟩
  rw [hB]
  have cs := fun W => sched_any l hl W
  unfold cells8
  go_enter Tryd.func36, Tryd.ntmps36
  go_wp2_with fail
  refine (cs _).mono ?_
  rintro e w1 ⟨rfl, hb1⟩
  obtain ⟨W2, hW2⟩ : ∃ W2, W2 = (w.alloc (.cells #[.int .u32 s.a, .int .u32 s.b, .int .u32 s.c, .int .u32 s.d, .int .u32 s.e, .int .u32 s.f, .int .u32 s.g, .int .u32 s.h] 43)).alloc (.cells #[.int .u32 0, .int .u32 0, .int .u32 0, .int .u32 0, .int .u32 0, .int .u32 0, .int .u32 0, .int .u32 0] 43) := ⟨_, rfl⟩
  rw [← hW2] at hb1
  have s1 : (w.alloc (.cells #[.int .u32 s.a, .int .u32 s.b, .int .u32 s.c, .int .u32 s.d, .int .u32 s.e, .int .u32 s.f, .int .u32 s.g, .int .u32 s.h] 43)).heap.size = B + 1 := by simp [hB]
  have s2 : W2.heap.size = B + 2 := by rw [hW2]; simp [hB]
  have t0 : w1.heap[B]? = some (.cells (cells8 s) 43 (0, 0)) := by
    rw [hb1.block B (by omega), hW2, Below.heap_alloc _ _ _ (by omega), ← hB, heap_alloc_new]; rfl
  have tR : w1.heap[B + 1]? = some (.cells #[.int .u32 0, .int .u32 0, .int .u32 0, .int .u32 0, .int .u32 0, .int .u32 0, .int .u32 0, .int .u32 0] 43 (0, 0)) := by
    rw [hb1.block (B + 1) (by omega), hW2, ← s1, heap_alloc_new]
  have hbw : Below B w w1 := Below.trans (by rw [hW2]; exact ((Below.refl _ _).alloc (by omega) _).alloc (by omega) _) (hb1.mono (by omega))
  have hsz1 : B + 2 ≤ w1.heap.size := by have := hb1.size; omega
  clear hb1 s1 s2 hW2
  obtain ⟨C, hC⟩ : ∃ C, w1.heap.size = C := ⟨_, rfl⟩
  have z64e := zero64 l
  have tC : (w1.alloc (.cells (tabW 64 (part l 0)) 55)).heap[C]? = some (.cells (tabW 64 (part l 0)) 55 (0, 0)) := by rw [← hC, heap_alloc_new]
  obtain ⟨w3, hw3⟩ : ∃ w3, w3 = (w1.alloc (.cells (tabW 64 (part l 0)) 55)).setRow C (tabW 64 (sch l)) := ⟨_, rfl⟩
  have g0 : w3.heap[B]? = some (.cells (cells8 s) 43 (0, 0)) := by
    rw [hw3, setRow_other _ _ _ _ (by omega), Below.heap_alloc _ _ _ (by omega), t0]
  have gR : w3.heap[B + 1]? = some (.cells #[.int .u32 0, .int .u32 0, .int .u32 0, .int .u32 0, .int .u32 0, .int .u32 0, .int .u32 0, .int .u32 0] 43 (0, 0)) := by
    rw [hw3, setRow_other _ _ _ _ (by omega), Below.heap_alloc _ _ _ (by omega), tR]
  have gC : w3.heap[C]? = some (.cells (tabW 64 (sch l)) 55 (0, 0)) := by
    rw [hw3]; exact setRow_heap _ C _ _ 55 (0, 0) tC
  have g3 : Below B w w3 := by rw [hw3]; exact below_setRow (hbw.alloc (by omega) _) (by omega) _
  go_wp2_with (first
    | (refine wpList_store_row rfl 55 (.tmp 5) (.tmp 18) rfl C (tabW 64 (sch l)) rfl rfl 55 (tabW 64 (part l 0)) tC (by rw [tabW_size]; exact info64) (by rw [tabW_size, tabW_size]) (tabW_one _ _) ?_))
  rw [← hw3]
  have q0 : w3.cell? ⟨B, 0, none⟩ = some (.int .u32 s.a) := by rw [cell_of_row w3 B 0 _ _ _ g0]; rfl
  have q1 : w3.cell? ⟨B, 1, none⟩ = some (.int .u32 s.b) := by rw [cell_of_row w3 B 1 _ _ _ g0]; rfl
  have q2 : w3.cell? ⟨B, 2, none⟩ = some (.int .u32 s.c) := by rw [cell_of_row w3 B 2 _ _ _ g0]; rfl
  have q3 : w3.cell? ⟨B, 3, none⟩ = some (.int .u32 s.d) := by rw [cell_of_row w3 B 3 _ _ _ g0]; rfl
  have q4 : w3.cell? ⟨B, 4, none⟩ = some (.int .u32 s.e) := by rw [cell_of_row w3 B 4 _ _ _ g0]; rfl
  have q5 : w3.cell? ⟨B, 5, none⟩ = some (.int .u32 s.f) := by rw [cell_of_row w3 B 5 _ _ _ g0]; rfl
  have q6 : w3.cell? ⟨B, 6, none⟩ = some (.int .u32 s.g) := by rw [cell_of_row w3 B 6 _ _ _ g0]; rfl
  have q7 : w3.cell? ⟨B, 7, none⟩ = some (.int .u32 s.h) := by rw [cell_of_row w3 B 7 _ _ _ g0]; rfl
  have hKw : KAt w3 := fun j hj => by rw [g3.cell (p := ⟨1, j, none⟩) (by have := World.block_lt_of_cell? w _ (hK j hj); simpa [hB] using this)]; exact hK j hj
  have hWc : ∀ j, j < 64 → w3.cell? ⟨C, j, none⟩ = some (.int .u32 (sch l j)) := fun j hj => by rw [cell_of_row w3 C j _ _ _ gC, tabW_get _ hj]
  have HH := Lib.hid (And.intro hKw (And.intro hWc (And.intro gR (And.intro g3 hs))))
  clear hKw hWc gR g3 hs gC g0 hw3 tC t0 tR hbw hsz1 hK z64e cs
  go_quiet (fail)
  go_wp2
  go_quiet (fail)
  go_wp2
  rw [World.drewN_drewN]
  obtain ⟨n0, hn0⟩ : ∃ n0 : Nat, n0 = n0 := ⟨0, rfl⟩
  clear n0 hn0
  go_loopw [6, 7, 8, 9, 10, 11, 12, 13, 35] (fun v6 v7 v8 v9 v10 v11 v12 v13 v35 wr => ∃ (k n : Nat) (r : St), k ≤ 64 ∧ Hid (r = rnds (sch l) s k) ∧ v6 = .int .u32 r.a ∧ v7 = .int .u32 r.b ∧ v8 = .int .u32 r.c ∧ v9 = .int .u32 r.d ∧ v10 = .int .u32 r.e ∧ v11 = .int .u32 r.f ∧ v12 = .int .u32 r.g ∧ v13 = .int .u32 r.h ∧ v35 = .int .i64 k ∧ wr = w3.drewN n) (fun _ _ _ _ _ _ _ _ v _ => 64 - (intOf v).toNat)
  case atStart => exact ⟨0, _, s, by omega, rfl, rfl, rfl, rfl, rfl, rfl, rfl, rfl, rfl, rfl, rfl⟩
  case round =>
    obtain ⟨k, n, r, hk, hr, rfl, rfl, rfl, rfl, rfl, rfl, rfl, rfl, rfl, rfl⟩ := hrel
    obtain ⟨hKw, hWc, gR, g3, hs⟩ := HH.out
    have hro : Hid (r.Ok) := by rw [Hid, hr.out]; exact rnds_ok hs k
    have c6 := fun W => turn_6 r.e W hro.out.e0 hro.out.e1
    have c11 := fun W => turn_11 r.e W hro.out.e0 hro.out.e1
    have c25 := fun W => turn_25 r.e W hro.out.e0 hro.out.e1
    have c2 := fun W => turn_2 r.a W hro.out.a0 hro.out.a1
    have c13 := fun W => turn_13 r.a W hro.out.a0 hro.out.a1
    have c22 := fun W => turn_22 r.a W hro.out.a0 hro.out.a1
    by_cases hlt : k < 64
    · have qk := hKw k hlt
      have qw := hWc k hlt
      clear hKw hWc gR g3 hs
      obtain ⟨ra, rb, rc, rd, re, rf, rg, rh⟩ := r
      simp only at c6 c11 c25 c2 c13 c22
      go_wp2
      go_quiet (first | (go_at_call 45; exact quiet_same (c6 _)) | (go_at_call 45; exact quiet_same (c11 _)) | (go_at_call 45; exact quiet_same (c25 _)))
      go_wp2_with fail
      (with_reducible refine (c2 _).mono ?_)
      rintro e w' ⟨rfl, rfl⟩
      go_wp2_with fail
      (with_reducible refine (c13 _).mono ?_)
      rintro e w' ⟨rfl, rfl⟩
      go_wp2_with fail
      (with_reducible refine (c22 _).mono ?_)
      rintro e w' ⟨rfl, rfl⟩
      go_wp2
      go_roundw
      case rel =>
        refine ⟨k + 1, n + nq, rnd (sch l) k ⟨ra, rb, rc, rd, re, rf, rg, rh⟩, by omega, ?_, ?_, rfl, rfl, rfl, ?_, rfl, rfl, rfl, by go_num, rfl⟩
        · unfold Hid; rw [hr.out]; rfl
        · simp only [rnd, tOne, tTwo, bg0, bg1, cho, maj]
        · simp only [rnd, tOne, tTwo, bg0, bg1, cho, maj]
      case measure => simp [intOf]; omega
    · have hk64 : k = 64 := by omega
      have HR := Lib.hid (show r = rnds (sch l) s 64 by rw [hr.out, hk64])
      have dk : decide ((k : Int) < 64) = false := decide_eq_false (by omega)
      clear hk64 hk hlt hKw hWc hr hro c6 c11 c25 c2 c13 c22
      generalize (k : Int) = kz at *
      obtain ⟨ra, rb, rc, rd, re, rf, rg, rh⟩ := r
      simp only
      have gW : (w3.drewN n).heap[B + 1]? = some (.cells #[.int .u32 0, .int .u32 0, .int .u32 0, .int .u32 0, .int .u32 0, .int .u32 0, .int .u32 0, .int .u32 0] 43 (0, 0)) := gR
      have hBW := below_drewN g3 n
      have p0 : (w3.drewN n).cell? ⟨B, 0, none⟩ = some (.int .u32 s.a) := q0
      have p1 : (w3.drewN n).cell? ⟨B, 1, none⟩ = some (.int .u32 s.b) := q1
      have p2 : (w3.drewN n).cell? ⟨B, 2, none⟩ = some (.int .u32 s.c) := q2
      have p3 : (w3.drewN n).cell? ⟨B, 3, none⟩ = some (.int .u32 s.d) := q3
      have p4 : (w3.drewN n).cell? ⟨B, 4, none⟩ = some (.int .u32 s.e) := q4
      have p5 : (w3.drewN n).cell? ⟨B, 5, none⟩ = some (.int .u32 s.f) := q5
      have p6 : (w3.drewN n).cell? ⟨B, 6, none⟩ = some (.int .u32 s.g) := q6
      have p7 : (w3.drewN n).cell? ⟨B, 7, none⟩ = some (.int .u32 s.h) := q7
      clear q0 q1 q2 q3 q4 q5 q6 q7 gR g3
      generalize w3.drewN n = wz at *
      have hM : Hid (mixS s l = s.add ⟨ra, rb, rc, rd, re, rf, rg, rh⟩) := by unfold Hid mixS; rw [← HR.out]
      obtain ⟨sa, sb, sc, sd, se, sf, sg, sh⟩ := s
      simp only at p0 p1 p2 p3 p4 p5 p6 p7
      have GW := Lib.hid gW
      have HBW := Lib.hid hBW
      clear hBW HR hs HH
      go_wp2_with (refine wpList_store_row rfl 43 (.tmp 4) (.tmp 130) rfl (B + 1) #[.int .u32 ((sa + ra) % 4294967296), .int .u32 ((sb + rb) % 4294967296), .int .u32 ((sc + rc) % 4294967296), .int .u32 ((sd + rd) % 4294967296), .int .u32 ((se + re) % 4294967296), .int .u32 ((sf + rf) % 4294967296), .int .u32 ((sg + rg) % 4294967296), .int .u32 ((sh + rh) % 4294967296)] rfl rfl 43 #[.int .u32 0, .int .u32 0, .int .u32 0, .int .u32 0, .int .u32 0, .int .u32 0, .int .u32 0, .int .u32 0] GW.out info8 rfl (arr8_one _ _ _ _ _ _ _ _) ?_)
      refine bodyPost_ret (v := .agg #[.int .u32 ((sa + ra) % 4294967296), .int .u32 ((sb + rb) % 4294967296), .int .u32 ((sc + rc) % 4294967296), .int .u32 ((sd + rd) % 4294967296), .int .u32 ((se + re) % 4294967296), .int .u32 ((sf + rf) % 4294967296), .int .u32 ((sg + rg) % 4294967296), .int .u32 ((sh + rh) % 4294967296)]) (results_cell_row rfl _ _ (B + 1) 43 #[.int .u32 ((sa + ra) % 4294967296), .int .u32 ((sb + rb) % 4294967296), .int .u32 ((sc + rc) % 4294967296), .int .u32 ((sd + rd) % 4294967296), .int .u32 ((se + re) % 4294967296), .int .u32 ((sf + rf) % 4294967296), .int .u32 ((sg + rg) % 4294967296), .int .u32 ((sh + rh) % 4294967296)] (0, 0) _ rfl (setRow_heap _ (B + 1) _ _ 43 (0, 0) GW.out) Tryd.underlying43 rfl info8) rfl ?_
      exact ⟨by rw [hM.out]; rfl, below_setRow HBW.out (by omega) _⟩
end Go.Proofs.YtgmlhgojkmpkkaaDoor
