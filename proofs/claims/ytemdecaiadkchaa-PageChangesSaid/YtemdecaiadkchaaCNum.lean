/- Num, Int, Text, walked. -/
import Derived.Test.YtemdecaiadkchaaPB
import Derived.Test.YtemdecaiadkchaaCBytes
import Derived.Test.YtemdecaiadkchaaCModel
import Derived.Maps.AppendAt
namespace Go.Proofs.Ytemdecaiadkchaa
open Go.ChangeShapes Go.WideShapes Go.ChangeAt Go.RowKit Go.Lib
set_option linter.unusedVariables false


theorem own_form {w : World} {base e size n : Nat} {v : Value} {xs : List Value} (h : w.ownsRow base e size v n xs) : ∃ a c, v = .slice a n c := by
  rcases h.2 with ⟨rfl, rfl⟩ | ⟨g, cap, cur, rfl, _⟩
  · exact ⟨_, _, rfl⟩
  · exact ⟨_, _, rfl⟩
theorem byte_toNat {n : Nat} (h : n < 256) : (UInt8.ofNat n).toNat = n := by simp [UInt8.toNat_ofNat']; omega
theorem bs_extract (l : List UInt8) (a b : Nat) : (bs l).extract a b = bs ((l.drop a).take (b - a)) := by
  apply ByteArray.ext
  simp [bs]
def byteCells (l : List UInt8) : List Value := l.map fun b => Value.int .u8 b.toNat
theorem byteCells_length (l : List UInt8) : (byteCells l).length = l.length := by simp [byteCells]
theorem strOf_bytes (l : List UInt8) : strOfNums (l.map fun b => (b.toNat : Int)) = bs l := by
  unfold strOfNums bs
  congr 2
  rw [List.map_map]
  have : ((fun n : Int => UInt8.ofNat n.toNat) ∘ fun b : UInt8 => (b.toNat : Int)) = id := by
    funext b
    simp
  rw [this, List.map_id]
theorem conv_bytes {w : World} {base : Nat} {v : Value} {l : List UInt8} (h : OwnsT w base 5 v l.length (byteCells l)) : (convert 59 9 v).run Try.prog w = .ok (.string (bs l)) w := by
  rcases h.2 with ⟨rfl, hn⟩ | ⟨g, cap, cur, fz, rfl, _⟩
  · have : l = [] := List.eq_nil_of_length_eq_zero hn
    subst this
    exact run_convert_bytes_nil w 59 5 Try.underlying59 Try.underlying5 0 0 9 Try.underlying9
  · have hc := h.cells (g := g) (c := cap) rfl
    have := run_convert_bytes_arg (P := Try.prog) w 59 5 Try.underlying59 Try.underlying5 g 0 l.length cap (l.map fun b => (b.toNat : Int)) (by simp) (fun i hi => by
      have h1 := hc i (.int .u8 (l[i].toNat)) (by simp [byteCells, List.getElem?_eq_getElem hi])
      have hadd : (⟨g, 0, none⟩ : Addr).add i = ⟨g, 0 + i, none⟩ := by unfold Addr.add; split <;> simp_all
      rw [hadd] at h1
      rw [h1]
      simp [List.getD, List.getElem?_eq_getElem hi]) 9 Try.underlying9
    rw [this, strOf_bytes]
theorem info5 : (Try.prog.info? 5).map (fun i => (i.zero, i.size, i.bytes)) = some (some (.int .u8 0), 1, 1) := by kernel_rfl
def NumPost (w : World) (n : Int) (e : Ending) (w' : World) : Prop := e = .returned (.string (bs (numI n))) ∧ Below w.heap.size w w'
set_option maxRecDepth 100000 in
set_option maxHeartbeats 400000 in
theorem num_any (n : Int) (w : World) (hn : n ≤ 9223372036854775807) : Calls Try.prog 24 #[.int .i64 n] w (NumPost w n) := by
  obtain ⟨i0, hi, hz0, hz1, hz2⟩ := info_parts info5
  by_cases h0 : n < 0
  · have hN : Hid (numI n = []) := by simp [Hid, numI, h0]
    go_enter Try.func24, Try.ntmps24
    go_wp2
    go_ret
    unfold NumPost
    rw [hN.out]
    exact ⟨rfl, Below.refl _ _⟩
  · obtain ⟨m0, rfl⟩ : ∃ m : Nat, n = m := ⟨n.toNat, by omega⟩
    have hN : Hid (numI m0 = numF 10 m0) := by unfold Hid numI numL; rw [if_neg h0]; simp
    go_enter Try.func24, Try.ntmps24
    go_wp2
    go_loopw [0, 3] (fun v0 d wr => ∃ (m k : Nat) (pre : List UInt8), v0 = .int .i64 m ∧ m ≤ 9223372036854775807 ∧ numF 10 m0 = pre ++ numF (k + 1) m ∧ pre.length + k = 9 ∧ m < 128 ^ (k + 1) ∧ wr.ownsRow w.heap.size 5 1 d pre.length (byteCells pre) ∧ Below w.heap.size w wr) (fun v0 _ _ => (intOf v0).toNat)
    case atStart => exact ⟨m0, 9, [], rfl, by omega, rfl, rfl, by omega, ⟨by simp [byteCells], .inl ⟨rfl, rfl⟩⟩, Below.refl _ _⟩
    case round =>
      obtain ⟨m, k, pre, rfl, hm, hpre, hk, hlt, hown, hbel⟩ := hrel
      have HPRE := Lib.hid hpre
      have HLT := Lib.hid hlt
      have hk9 : pre.length ≤ 9 := by omega
      have HK := Lib.hid hk
      clear hpre hlt hk
      by_cases h128 : 128 ≤ m
      · obtain ⟨da, dc, rfl⟩ := own_form hown
        have hm8 : (m : Int) % 128 < 128 := by omega
        have hm0 : 0 ≤ (m : Int) % 128 := by omega
        go_wp2_with (at_builtin; refine wpList_append_own _ rfl _ _ 59 rfl w.heap.size 5 i0 (.int .u8 0) 1 1 Try.underlying59 hi hz0 hz1 hz2 rfl (by decide) _ _ _ rfl (hown.alloc _) ⟨wr.heap.size, 0, none⟩ 1 1 [.int .u8 (128 + (m : Int) % 128)] rfl rfl ?c1 ?c2 ?c3 ?c4 ?c5 ?_)
        case c1 => exact cell_one_new _ _ _
        case c2 => intro u hu; simp at hu; subst hu; rfl
        case c3 => unfold maxLen; omega
        case c4 => omega
        case c5 => have := hbel.size; simp; omega
        intro v1 w1 hown1 hgrow1 _
        have hbel1 : Below w.heap.size w w1 := (hbel.alloc hbel.size _).grown hgrow1 (by have := hbel.size; simp; omega) (fun b hb => (hown.lt b hb).1)
        have hcs : byteCells pre ++ [.int .u8 (128 + (m : Int) % 128)] = byteCells (pre ++ [UInt8.ofNat (128 + m % 128)]) := by
          simp only [byteCells, List.map_append, List.map_cons, List.map_nil]
          rw [byte_toNat (by omega)]
          simp
        have hln : pre.length + 1 = (pre ++ [UInt8.ofNat (128 + m % 128)]).length := by simp
        rw [hcs, hln] at hown1
        clear hcs hln hgrow1 hown hbel
        go_wp2
        go_roundw
        case rel =>
          have h1 := HLT.out
          have h2 := HK.out
          have hk1 : 1 ≤ k := by
            rcases Nat.eq_zero_or_pos k with h | h
            · subst h; simp at h1; omega
            · exact h
          obtain ⟨k', rfl⟩ : ∃ k', k = k' + 1 := ⟨k - 1, by omega⟩
          refine ⟨m / 128, k', _, by go_num, by omega, ?_, by simp; omega, ?_, hown1, hbel1⟩
          · rw [HPRE.out, numF, if_neg (by omega)]; simp
          · rw [Nat.pow_succ] at h1; omega
        case measure => simp [intOf]; omega
      · obtain ⟨da, dc, rfl⟩ := own_form hown
        have hlt8 : (m : Int) < 128 := by omega
        go_wp2_with (at_builtin; refine wpList_append_own _ rfl _ _ 59 rfl w.heap.size 5 i0 (.int .u8 0) 1 1 Try.underlying59 hi hz0 hz1 hz2 rfl (by decide) _ _ _ rfl (hown.alloc _) ⟨wr.heap.size, 0, none⟩ 1 1 [.int .u8 (m : Int)] rfl rfl ?c1 ?c2 ?c3 ?c4 ?c5 ?_)
        case c1 => exact cell_one_new _ _ _
        case c2 => intro u hu; simp at hu; subst hu; rfl
        case c3 => unfold maxLen; omega
        case c4 => omega
        case c5 => have := hbel.size; simp; omega
        intro v1 w1 hown1 hgrow1 _
        have hbel1 : Below w.heap.size w w1 := (hbel.alloc hbel.size _).grown hgrow1 (by have := hbel.size; simp; omega) (fun b hb => (hown.lt b hb).1)
        have hcs : byteCells pre ++ [.int .u8 (m : Int)] = byteCells (pre ++ [UInt8.ofNat m]) := by
          simp only [byteCells, List.map_append, List.map_cons, List.map_nil]
          rw [byte_toNat (by omega)]
        have hln : pre.length + 1 = (pre ++ [UInt8.ofNat m]).length := by simp
        rw [hcs, hln] at hown1
        have hcv := conv_bytes (OwnsT.of_own hown1)
        have hfin : Hid (numI m0 = pre ++ [UInt8.ofNat m]) := by
          unfold Hid
          rw [hN.out, HPRE.out, numF, if_pos (by omega)]
        obtain ⟨a1, c1, rfl⟩ := own_form hown1
        generalize pre ++ [UInt8.ofNat m] = out at *
        clear hcs hln hgrow1 hown hbel hown1
        go_wp2
        go_ret
        exact ⟨by rw [hfin.out]; rfl, hbel1⟩


end Go.Proofs.Ytemdecaiadkchaa
