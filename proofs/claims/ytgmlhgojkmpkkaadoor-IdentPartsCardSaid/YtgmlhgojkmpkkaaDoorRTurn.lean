/- The reference's rotation, walked (printed by genrturn.py). -/
import Derived.Test.YtgmlhgojkmpkkaaDoorHex
namespace Go.Proofs.YtgmlhgojkmpkkaaDoor
open Go.ChangeShapes Go.WideShapes Go.ChangeAt Go.RowKit Go.Lib
set_option linter.unusedVariables false

/-- an answer; the world but for draws -/
def Drew (v : Value) (w : World) (e : Ending) (w' : World) : Prop := e = .returned v ∧ ∃ n, w' = w.drewN n
theorem quiet_drew {P : Program} {f : FuncId} {args : Array Value} {w : World} {a n : Nat} {v : Value}
    (h : Calls P f args (w.drewN (a + n)) (Drew v (w.drewN (a + n)))) :
    Calls P f args (w.drewN (a + n)) fun e w'' => e = .returned v ∧ ∃ m, w'' = w.drewN (a + m) :=
  h.mono fun _ _ ⟨he, m, hm⟩ => ⟨he, n + m, by rw [hm, World.drewN_drewN, Nat.add_assoc]⟩
theorem quiet_drew0 {P : Program} {f : FuncId} {args : Array Value} {w : World} {n : Nat} {v : Value}
    (h : Calls P f args (w.drewN n) (Drew v (w.drewN n))) :
    Calls P f args (w.drewN n) fun e w'' => e = .returned v ∧ ∃ m, w'' = w.drewN m :=
  h.mono fun _ _ ⟨he, m, hm⟩ => ⟨he, n + m, by rw [hm, World.drewN_drewN]⟩
set_option maxHeartbeats 400000 in
theorem rturn_2 (x : Int) (w : World) (h0 : 0 ≤ x) (h1 : x < 4294967296) : Calls Tryd.prog 51 #[.int .u32 x, .int .i64 2] w (Drew (.int .u32 (rot x 2)) w) := by
  have e : rot x 2 = bits .or .u32 (x / 4) (x * 1073741824 % 4294967296) := by rw [rot, u32_or_comm]; rfl
  rw [e]
  clear e
  go_enter Tryd.func51, Tryd.ntmps51
  go_wp2
  go_quiet (fail)
  go_wp2
  go_ret
  exact ⟨rfl, _, rfl⟩
set_option maxHeartbeats 400000 in
theorem rturn_6 (x : Int) (w : World) (h0 : 0 ≤ x) (h1 : x < 4294967296) : Calls Tryd.prog 51 #[.int .u32 x, .int .i64 6] w (Drew (.int .u32 (rot x 6)) w) := by
  have e : rot x 6 = bits .or .u32 (x / 64) (x * 67108864 % 4294967296) := by rw [rot, u32_or_comm]; rfl
  rw [e]
  clear e
  go_enter Tryd.func51, Tryd.ntmps51
  go_wp2
  go_quiet (fail)
  go_wp2
  go_ret
  exact ⟨rfl, _, rfl⟩
set_option maxHeartbeats 400000 in
theorem rturn_7 (x : Int) (w : World) (h0 : 0 ≤ x) (h1 : x < 4294967296) : Calls Tryd.prog 51 #[.int .u32 x, .int .i64 7] w (Drew (.int .u32 (rot x 7)) w) := by
  have e : rot x 7 = bits .or .u32 (x / 128) (x * 33554432 % 4294967296) := by rw [rot, u32_or_comm]; rfl
  rw [e]
  clear e
  go_enter Tryd.func51, Tryd.ntmps51
  go_wp2
  go_quiet (fail)
  go_wp2
  go_ret
  exact ⟨rfl, _, rfl⟩
set_option maxHeartbeats 400000 in
theorem rturn_11 (x : Int) (w : World) (h0 : 0 ≤ x) (h1 : x < 4294967296) : Calls Tryd.prog 51 #[.int .u32 x, .int .i64 11] w (Drew (.int .u32 (rot x 11)) w) := by
  have e : rot x 11 = bits .or .u32 (x / 2048) (x * 2097152 % 4294967296) := by rw [rot, u32_or_comm]; rfl
  rw [e]
  clear e
  go_enter Tryd.func51, Tryd.ntmps51
  go_wp2
  go_quiet (fail)
  go_wp2
  go_ret
  exact ⟨rfl, _, rfl⟩
set_option maxHeartbeats 400000 in
theorem rturn_13 (x : Int) (w : World) (h0 : 0 ≤ x) (h1 : x < 4294967296) : Calls Tryd.prog 51 #[.int .u32 x, .int .i64 13] w (Drew (.int .u32 (rot x 13)) w) := by
  have e : rot x 13 = bits .or .u32 (x / 8192) (x * 524288 % 4294967296) := by rw [rot, u32_or_comm]; rfl
  rw [e]
  clear e
  go_enter Tryd.func51, Tryd.ntmps51
  go_wp2
  go_quiet (fail)
  go_wp2
  go_ret
  exact ⟨rfl, _, rfl⟩
set_option maxHeartbeats 400000 in
theorem rturn_17 (x : Int) (w : World) (h0 : 0 ≤ x) (h1 : x < 4294967296) : Calls Tryd.prog 51 #[.int .u32 x, .int .i64 17] w (Drew (.int .u32 (rot x 17)) w) := by
  have e : rot x 17 = bits .or .u32 (x / 131072) (x * 32768 % 4294967296) := by rw [rot, u32_or_comm]; rfl
  rw [e]
  clear e
  go_enter Tryd.func51, Tryd.ntmps51
  go_wp2
  go_quiet (fail)
  go_wp2
  go_ret
  exact ⟨rfl, _, rfl⟩
set_option maxHeartbeats 400000 in
theorem rturn_18 (x : Int) (w : World) (h0 : 0 ≤ x) (h1 : x < 4294967296) : Calls Tryd.prog 51 #[.int .u32 x, .int .i64 18] w (Drew (.int .u32 (rot x 18)) w) := by
  have e : rot x 18 = bits .or .u32 (x / 262144) (x * 16384 % 4294967296) := by rw [rot, u32_or_comm]; rfl
  rw [e]
  clear e
  go_enter Tryd.func51, Tryd.ntmps51
  go_wp2
  go_quiet (fail)
  go_wp2
  go_ret
  exact ⟨rfl, _, rfl⟩
set_option maxHeartbeats 400000 in
theorem rturn_19 (x : Int) (w : World) (h0 : 0 ≤ x) (h1 : x < 4294967296) : Calls Tryd.prog 51 #[.int .u32 x, .int .i64 19] w (Drew (.int .u32 (rot x 19)) w) := by
  have e : rot x 19 = bits .or .u32 (x / 524288) (x * 8192 % 4294967296) := by rw [rot, u32_or_comm]; rfl
  rw [e]
  clear e
  go_enter Tryd.func51, Tryd.ntmps51
  go_wp2
  go_quiet (fail)
  go_wp2
  go_ret
  exact ⟨rfl, _, rfl⟩
set_option maxHeartbeats 400000 in
theorem rturn_22 (x : Int) (w : World) (h0 : 0 ≤ x) (h1 : x < 4294967296) : Calls Tryd.prog 51 #[.int .u32 x, .int .i64 22] w (Drew (.int .u32 (rot x 22)) w) := by
  have e : rot x 22 = bits .or .u32 (x / 4194304) (x * 1024 % 4294967296) := by rw [rot, u32_or_comm]; rfl
  rw [e]
  clear e
  go_enter Tryd.func51, Tryd.ntmps51
  go_wp2
  go_quiet (fail)
  go_wp2
  go_ret
  exact ⟨rfl, _, rfl⟩
set_option maxHeartbeats 400000 in
theorem rturn_25 (x : Int) (w : World) (h0 : 0 ≤ x) (h1 : x < 4294967296) : Calls Tryd.prog 51 #[.int .u32 x, .int .i64 25] w (Drew (.int .u32 (rot x 25)) w) := by
  have e : rot x 25 = bits .or .u32 (x / 33554432) (x * 128 % 4294967296) := by rw [rot, u32_or_comm]; rfl
  rw [e]
  clear e
  go_enter Tryd.func51, Tryd.ntmps51
  go_wp2
  go_quiet (fail)
  go_wp2
  go_ret
  exact ⟨rfl, _, rfl⟩
end Go.Proofs.YtgmlhgojkmpkkaaDoor
