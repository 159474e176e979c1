/- SHA-256 of a text of one block, on the walk's own terms; hexadecimal digits; plain. -/
import Derived.Laws.BitsAllLaws
import Derived.Laws.Closers25b
namespace Go.Proofs.YtgmlhgojkmpkkaaDoor
open Go
set_option linter.unusedVariables false

def rot (x : Int) (n : Nat) : Int := bits .or .u32 (x * 2 ^ (32 - n) % 4294967296) (x / 2 ^ n)
def sm0 (x : Int) : Int := bits .xor .u32 (bits .xor .u32 (rot x 7) (rot x 18)) (x / 8)
def sm1 (x : Int) : Int := bits .xor .u32 (bits .xor .u32 (rot x 17) (rot x 19)) (x / 1024)
def bg0 (x : Int) : Int := bits .xor .u32 (bits .xor .u32 (rot x 2) (rot x 13)) (rot x 22)
def bg1 (x : Int) : Int := bits .xor .u32 (bits .xor .u32 (rot x 6) (rot x 11)) (rot x 25)
def cho (e f g : Int) : Int := bits .xor .u32 (bits .and .u32 e f) (bits .and .u32 (bits .xor .u32 IntKind.u32.max e) g)
def maj (a b c : Int) : Int := bits .xor .u32 (bits .xor .u32 (bits .and .u32 a b) (bits .and .u32 a c)) (bits .and .u32 b c)
def byN (b : List UInt8) (i : Nat) : Nat := (b.getD i 0).toNat
def wordB (b : List UInt8) (i : Nat) : Int := (byN b (4 * i) : Int) * 16777216 + (byN b (4 * i + 1) : Int) * 65536 + (byN b (4 * i + 2) : Int) * 256 + (byN b (4 * i + 3) : Int)
def sch (b : List UInt8) (i : Nat) : Int :=
  if h : i < 16 then wordB b i
  else (sch b (i - 16) + sm0 (sch b (i - 15)) + sch b (i - 7) + sm1 (sch b (i - 2))) % 4294967296
termination_by i
decreasing_by all_goals omega
structure St where
  a : Int
  b : Int
  c : Int
  d : Int
  e : Int
  f : Int
  g : Int
  h : Int
/-- every word is one -/
structure St.Ok (s : St) : Prop where
  a0 : 0 ≤ s.a
  a1 : s.a < 4294967296
  b0 : 0 ≤ s.b
  b1 : s.b < 4294967296
  c0 : 0 ≤ s.c
  c1 : s.c < 4294967296
  d0 : 0 ≤ s.d
  d1 : s.d < 4294967296
  e0 : 0 ≤ s.e
  e1 : s.e < 4294967296
  f0 : 0 ≤ s.f
  f1 : s.f < 4294967296
  g0 : 0 ≤ s.g
  g1 : s.g < 4294967296
  h0 : 0 ≤ s.h
  h1 : s.h < 4294967296
def kL : List Int := [
  0x428a2f98, 0x71374491, 0xb5c0fbcf, 0xe9b5dba5, 0x3956c25b, 0x59f111f1, 0x923f82a4, 0xab1c5ed5,
  0xd807aa98, 0x12835b01, 0x243185be, 0x550c7dc3, 0x72be5d74, 0x80deb1fe, 0x9bdc06a7, 0xc19bf174,
  0xe49b69c1, 0xefbe4786, 0x0fc19dc6, 0x240ca1cc, 0x2de92c6f, 0x4a7484aa, 0x5cb0a9dc, 0x76f988da,
  0x983e5152, 0xa831c66d, 0xb00327c8, 0xbf597fc7, 0xc6e00bf3, 0xd5a79147, 0x06ca6351, 0x14292967,
  0x27b70a85, 0x2e1b2138, 0x4d2c6dfc, 0x53380d13, 0x650a7354, 0x766a0abb, 0x81c2c92e, 0x92722c85,
  0xa2bfe8a1, 0xa81a664b, 0xc24b8b70, 0xc76c51a3, 0xd192e819, 0xd6990624, 0xf40e3585, 0x106aa070,
  0x19a4c116, 0x1e376c08, 0x2748774c, 0x34b0bcb5, 0x391c0cb3, 0x4ed8aa4a, 0x5b9cca4f, 0x682e6ff3,
  0x748f82ee, 0x78a5636f, 0x84c87814, 0x8cc70208, 0x90befffa, 0xa4506ceb, 0xbef9a3f7, 0xc67178f2]
def kI (i : Nat) : Int := kL.getD i 0
def st0 : St := ⟨0x6a09e667, 0xbb67ae85, 0x3c6ef372, 0xa54ff53a, 0x510e527f, 0x9b05688c, 0x1f83d9ab, 0x5be0cd19⟩
def tOne (w : Nat → Int) (s : St) (i : Nat) : Int := (s.h + bg1 s.e + cho s.e s.f s.g + kI i + w i) % 4294967296
def tTwo (s : St) : Int := (bg0 s.a + maj s.a s.b s.c) % 4294967296
def rnd (w : Nat → Int) (i : Nat) (s : St) : St := ⟨(tOne w s i + tTwo s) % 4294967296, s.a, s.b, s.c, (s.d + tOne w s i) % 4294967296, s.e, s.f, s.g⟩
def rnds (w : Nat → Int) (s : St) : Nat → St
  | 0 => s
  | i + 1 => rnd w i (rnds w s i)
def St.add (s t : St) : St := ⟨(s.a + t.a) % 4294967296, (s.b + t.b) % 4294967296, (s.c + t.c) % 4294967296, (s.d + t.d) % 4294967296, (s.e + t.e) % 4294967296, (s.f + t.f) % 4294967296, (s.g + t.g) % 4294967296, (s.h + t.h) % 4294967296⟩
def mixS (s : St) (b : List UInt8) : St := s.add (rnds (sch b) s 64)
def lenB (n : Nat) : List UInt8 := (List.range 8).map fun k => UInt8.ofNat (n / 2 ^ (56 - 8 * k))
def pad (l : List UInt8) : List UInt8 := l ++ 128 :: (List.replicate (55 - l.length) 0 ++ lenB (8 * l.length))
def St.toL (s : St) : List Int := [s.a, s.b, s.c, s.d, s.e, s.f, s.g, s.h]
def wordL4 (x : Int) : List UInt8 := [UInt8.ofNat (x.toNat / 16777216), UInt8.ofNat (x.toNat / 65536), UInt8.ofNat (x.toNat / 256), UInt8.ofNat x.toNat]
def digL (s : St) : List UInt8 := s.toL.flatMap wordL4
def shaL (l : List UInt8) : List UInt8 := digL (mixS st0 (pad l))
def hexD (n : Nat) : UInt8 := if n < 10 then UInt8.ofNat (48 + n) else UInt8.ofNat (87 + n)
def hexL (l : List UInt8) : List UInt8 := l.flatMap fun b => [hexD (b.toNat / 16), hexD (b.toNat % 16)]
def actorB : List UInt8 := [97, 99, 116, 111, 114]

theorem rot_ok (x : Int) (n : Nat) : 0 ≤ rot x n ∧ rot x n < 4294967296 := by
  have h1 := bits_lo_u32 .or (x * 2 ^ (32 - n) % 4294967296) (x / 2 ^ n)
  have h2 := bits_hi_u32 .or (x * 2 ^ (32 - n) % 4294967296) (x / 2 ^ n)
  unfold rot
  omega
theorem byN_lt (b : List UInt8) (i : Nat) : byN b i < 256 := UInt8.toNat_lt _
theorem sch_ok (b : List UInt8) (i : Nat) : 0 ≤ sch b i ∧ sch b i < 4294967296 := by
  rw [sch]
  split
  · have h0 := byN_lt b (4 * i)
    have h1 := byN_lt b (4 * i + 1)
    have h2 := byN_lt b (4 * i + 2)
    have h3 := byN_lt b (4 * i + 3)
    unfold wordB
    omega
  · omega
theorem sch_lo (b : List UInt8) {i : Nat} (h : i < 16) : sch b i = wordB b i := by rw [sch, dif_pos h]
theorem sch_hi (b : List UInt8) {i : Nat} (h : 16 ≤ i) : sch b i = (sch b (i - 16) + sm0 (sch b (i - 15)) + sch b (i - 7) + sm1 (sch b (i - 2))) % 4294967296 := by rw [sch, dif_neg (by omega)]
theorem rnd_ok {w : Nat → Int} {i : Nat} {s : St} (h : s.Ok) : (rnd w i s).Ok := by
  obtain ⟨a0, a1, b0, b1, c0, c1, d0, d1, e0, e1, f0, f1, g0, g1, h0, h1⟩ := h
  constructor <;> simp only [rnd] <;> omega
theorem rnds_ok {w : Nat → Int} {s : St} (h : s.Ok) : ∀ i, (rnds w s i).Ok
  | 0 => h
  | i + 1 => rnd_ok (rnds_ok h i)
theorem add_ok (s t : St) : (s.add t).Ok := by
  constructor <;> simp only [St.add] <;> omega
theorem st0_ok : st0.Ok := by constructor <;> decide
theorem mixS_ok (s : St) (b : List UInt8) : (mixS s b).Ok := add_ok _ _
theorem lenB_length (n : Nat) : (lenB n).length = 8 := by simp [lenB]
theorem pad_length {l : List UInt8} (h : l.length ≤ 55) : (pad l).length = 64 := by
  simp only [pad, List.length_append, List.length_cons, List.length_replicate, lenB_length]
  omega
theorem wordL4_length (x : Int) : (wordL4 x).length = 4 := rfl
theorem shaL_length (l : List UInt8) : (shaL l).length = 32 := rfl
theorem hexL_length (l : List UInt8) : (hexL l).length = 2 * l.length := by
  induction l with
  | nil => rfl
  | cons b l ih =>
    unfold hexL at *
    rw [List.flatMap_cons, List.length_append, ih, List.length_cons]
    simp
    omega
theorem hexL_append (a b : List UInt8) : hexL (a ++ b) = hexL a ++ hexL b := by simp [hexL]
theorem hexL_take (l : List UInt8) (n : Nat) : (hexL l).take (2 * n) = hexL (l.take n) := by
  by_cases h : n ≤ l.length
  · conv => lhs; rw [← List.take_append_drop n l, hexL_append]
    rw [List.take_left']
    rw [hexL_length, List.length_take]
    omega
  · rw [List.take_of_length_le (by rw [hexL_length]; omega), List.take_of_length_le (by omega)]
theorem hexD_inj {a b : Nat} (ha : a < 16) (hb : b < 16) (h : hexD a = hexD b) : a = b := by
  have h := congrArg UInt8.toNat h
  unfold hexD at h
  (repeat' split at h) <;> simp [UInt8.toNat_ofNat'] at h <;> omega
theorem hexL_inj : ∀ {a b : List UInt8}, hexL a = hexL b → a = b
  | [], [], _ => rfl
  | [], b :: l, h => by have := congrArg List.length h; rw [hexL_length, hexL_length] at this; simp at this
  | a :: l, [], h => by have := congrArg List.length h; rw [hexL_length, hexL_length] at this; simp at this
  | a :: l, b :: m, h => by
    unfold hexL at h
    rw [List.flatMap_cons, List.flatMap_cons] at h
    simp only [List.cons_append, List.nil_append, List.cons.injEq] at h
    obtain ⟨h1, h2, h3⟩ := h
    have e1 := hexD_inj (by have := a.toNat_lt; omega) (by have := b.toNat_lt; omega) h1
    have e2 := hexD_inj (by omega) (by omega) h2
    have e : a = b := UInt8.toNat_inj.1 (by omega)
    rw [e, hexL_inj (a := l) (b := m) h3]
/-- an id's digit -/
def isHx (c : UInt8) : Bool := (48 ≤ c.toNat && c.toNat ≤ 57) || (97 ≤ c.toNat && c.toNat ≤ 102)
theorem hexD_hx {n : Nat} (h : n < 16) : isHx (hexD n) = true := by
  unfold hexD isHx
  split <;> simp [UInt8.toNat_ofNat'] <;> omega
theorem hexL_hx (l : List UInt8) : ∀ c ∈ hexL l, isHx c = true := by
  intro c hc
  unfold hexL at hc
  simp only [List.mem_flatMap, List.mem_cons, List.not_mem_nil, or_false] at hc
  obtain ⟨b, _, h | h⟩ := hc
  · rw [h]; exact hexD_hx (by have := b.toNat_lt; omega)
  · rw [h]; exact hexD_hx (by omega)
theorem u32_or_comm (a b : Int) : bits .or .u32 a b = bits .or .u32 b a := by
  show IntKind.u32.wrap ((BitVec.ofInt 32 a ||| BitVec.ofInt 32 b).toNat : Int) = IntKind.u32.wrap ((BitVec.ofInt 32 b ||| BitVec.ofInt 32 a).toNat : Int)
  rw [BitVec.or_comm]
theorem or_join (x y k : Nat) (hk : k ≤ 32) (hx : x % 2 ^ k = 0) (hy : y < 2 ^ k) (hX : x < 4294967296) : bits .or .u32 (x : Int) (y : Int) = (x : Int) + (y : Int) := by
  have hY : y < 4294967296 := Nat.lt_of_lt_of_le hy (by
    have : 2 ^ k ≤ 2 ^ 32 := Nat.pow_le_pow_right (by omega) hk
    omega)
  rw [u32_or_nat x y hX hY, nat_join k x y hx hy]
  simp
/-- the four bytes of a word, joined by or -/
theorem word_or (a b c d : Nat) (ha : a < 256) (hb : b < 256) (hc : c < 256) (hd : d < 256) :
    bits .or .u32 (bits .or .u32 (bits .or .u32 ((a : Int) * 16777216) ((b : Int) * 65536)) ((c : Int) * 256)) (d : Int) = (a : Int) * 16777216 + (b : Int) * 65536 + (c : Int) * 256 + (d : Int) := by
  have e1 := or_join (a * 16777216) (b * 65536) 24 (by omega) (by omega) (by omega) (by omega)
  have e2 := or_join (a * 16777216 + b * 65536) (c * 256) 16 (by omega) (by omega) (by omega) (by omega)
  have e3 := or_join (a * 16777216 + b * 65536 + c * 256) d 8 (by omega) (by omega) (by omega) (by omega)
  simp only [Int.natCast_mul, Int.natCast_add, Int.cast_ofNat_Int] at e1 e2 e3
  rw [e1, e2, e3]
end Go.Proofs.YtgmlhgojkmpkkaaDoor
