/- The rotation of a word, walked (printed by genturn.py). -/
import Derived.Test.YtgmlhgojkmpkkaaDoorEnc
import Derived.Test.YtgmlhgojkmpkkaaDoorIdentPure
import Derived.Laws.Shifts
import Derived.Laws.ShiftsVarLaws
import Derived.Laws.ShiftsVar
import Derived.Laws.BitsAll
import Derived.Laws.Wrap64
import Derived.Laws.Unary
namespace Go.Proofs.YtgmlhgojkmpkkaaDoor
open Go.ChangeShapes Go.WideShapes Go.ChangeAt Go.RowKit Go.Lib
set_option linter.unusedVariables false

theorem rotl_2 (x : Int) (w : World) (h0 : 0 ≤ x) (h1 : x < 4294967296) : Calls Tryd.prog 53 #[.int .u32 x, .int .i64 (-2)] w (Same (.int .u32 (rot x 2)) w) := by
  have q : bits .and .u64 (IntKind.u64.wrap (-2)) 31 = 30 := by kernel_rfl
  have e : rot x 2 = bits .or .u32 (x * 1073741824 % 4294967296) (x / 4) := rfl
  rw [e]
  clear e
  go_enter Tryd.func53, Tryd.ntmps53
  go_wp2
  go_ret
  exact ⟨rfl, rfl⟩
theorem turn_2 (x : Int) (w : World) (h0 : 0 ≤ x) (h1 : x < 4294967296) : Calls Tryd.prog 45 #[.int .u32 x, .int .i64 2] w (Same (.int .u32 (rot x 2)) w) := by
  have c := rotl_2 x w h0 h1
  go_enter Tryd.func45, Tryd.ntmps45
  go_wp2_with (go_at_call 53; refine c.mono ?_; rintro e w' ⟨rfl, rfl⟩)
  go_ret
  exact ⟨rfl, rfl⟩
theorem rotl_6 (x : Int) (w : World) (h0 : 0 ≤ x) (h1 : x < 4294967296) : Calls Tryd.prog 53 #[.int .u32 x, .int .i64 (-6)] w (Same (.int .u32 (rot x 6)) w) := by
  have q : bits .and .u64 (IntKind.u64.wrap (-6)) 31 = 26 := by kernel_rfl
  have e : rot x 6 = bits .or .u32 (x * 67108864 % 4294967296) (x / 64) := rfl
  rw [e]
  clear e
  go_enter Tryd.func53, Tryd.ntmps53
  go_wp2
  go_ret
  exact ⟨rfl, rfl⟩
theorem turn_6 (x : Int) (w : World) (h0 : 0 ≤ x) (h1 : x < 4294967296) : Calls Tryd.prog 45 #[.int .u32 x, .int .i64 6] w (Same (.int .u32 (rot x 6)) w) := by
  have c := rotl_6 x w h0 h1
  go_enter Tryd.func45, Tryd.ntmps45
  go_wp2_with (go_at_call 53; refine c.mono ?_; rintro e w' ⟨rfl, rfl⟩)
  go_ret
  exact ⟨rfl, rfl⟩
theorem rotl_7 (x : Int) (w : World) (h0 : 0 ≤ x) (h1 : x < 4294967296) : Calls Tryd.prog 53 #[.int .u32 x, .int .i64 (-7)] w (Same (.int .u32 (rot x 7)) w) := by
  have q : bits .and .u64 (IntKind.u64.wrap (-7)) 31 = 25 := by kernel_rfl
  have e : rot x 7 = bits .or .u32 (x * 33554432 % 4294967296) (x / 128) := rfl
  rw [e]
  clear e
  go_enter Tryd.func53, Tryd.ntmps53
  go_wp2
  go_ret
  exact ⟨rfl, rfl⟩
theorem turn_7 (x : Int) (w : World) (h0 : 0 ≤ x) (h1 : x < 4294967296) : Calls Tryd.prog 45 #[.int .u32 x, .int .i64 7] w (Same (.int .u32 (rot x 7)) w) := by
  have c := rotl_7 x w h0 h1
  go_enter Tryd.func45, Tryd.ntmps45
  go_wp2_with (go_at_call 53; refine c.mono ?_; rintro e w' ⟨rfl, rfl⟩)
  go_ret
  exact ⟨rfl, rfl⟩
theorem rotl_11 (x : Int) (w : World) (h0 : 0 ≤ x) (h1 : x < 4294967296) : Calls Tryd.prog 53 #[.int .u32 x, .int .i64 (-11)] w (Same (.int .u32 (rot x 11)) w) := by
  have q : bits .and .u64 (IntKind.u64.wrap (-11)) 31 = 21 := by kernel_rfl
  have e : rot x 11 = bits .or .u32 (x * 2097152 % 4294967296) (x / 2048) := rfl
  rw [e]
  clear e
  go_enter Tryd.func53, Tryd.ntmps53
  go_wp2
  go_ret
  exact ⟨rfl, rfl⟩
theorem turn_11 (x : Int) (w : World) (h0 : 0 ≤ x) (h1 : x < 4294967296) : Calls Tryd.prog 45 #[.int .u32 x, .int .i64 11] w (Same (.int .u32 (rot x 11)) w) := by
  have c := rotl_11 x w h0 h1
  go_enter Tryd.func45, Tryd.ntmps45
  go_wp2_with (go_at_call 53; refine c.mono ?_; rintro e w' ⟨rfl, rfl⟩)
  go_ret
  exact ⟨rfl, rfl⟩
theorem rotl_13 (x : Int) (w : World) (h0 : 0 ≤ x) (h1 : x < 4294967296) : Calls Tryd.prog 53 #[.int .u32 x, .int .i64 (-13)] w (Same (.int .u32 (rot x 13)) w) := by
  have q : bits .and .u64 (IntKind.u64.wrap (-13)) 31 = 19 := by kernel_rfl
  have e : rot x 13 = bits .or .u32 (x * 524288 % 4294967296) (x / 8192) := rfl
  rw [e]
  clear e
  go_enter Tryd.func53, Tryd.ntmps53
  go_wp2
  go_ret
  exact ⟨rfl, rfl⟩
theorem turn_13 (x : Int) (w : World) (h0 : 0 ≤ x) (h1 : x < 4294967296) : Calls Tryd.prog 45 #[.int .u32 x, .int .i64 13] w (Same (.int .u32 (rot x 13)) w) := by
  have c := rotl_13 x w h0 h1
  go_enter Tryd.func45, Tryd.ntmps45
  go_wp2_with (go_at_call 53; refine c.mono ?_; rintro e w' ⟨rfl, rfl⟩)
  go_ret
  exact ⟨rfl, rfl⟩
theorem rotl_17 (x : Int) (w : World) (h0 : 0 ≤ x) (h1 : x < 4294967296) : Calls Tryd.prog 53 #[.int .u32 x, .int .i64 (-17)] w (Same (.int .u32 (rot x 17)) w) := by
  have q : bits .and .u64 (IntKind.u64.wrap (-17)) 31 = 15 := by kernel_rfl
  have e : rot x 17 = bits .or .u32 (x * 32768 % 4294967296) (x / 131072) := rfl
  rw [e]
  clear e
  go_enter Tryd.func53, Tryd.ntmps53
  go_wp2
  go_ret
  exact ⟨rfl, rfl⟩
theorem turn_17 (x : Int) (w : World) (h0 : 0 ≤ x) (h1 : x < 4294967296) : Calls Tryd.prog 45 #[.int .u32 x, .int .i64 17] w (Same (.int .u32 (rot x 17)) w) := by
  have c := rotl_17 x w h0 h1
  go_enter Tryd.func45, Tryd.ntmps45
  go_wp2_with (go_at_call 53; refine c.mono ?_; rintro e w' ⟨rfl, rfl⟩)
  go_ret
  exact ⟨rfl, rfl⟩
theorem rotl_18 (x : Int) (w : World) (h0 : 0 ≤ x) (h1 : x < 4294967296) : Calls Tryd.prog 53 #[.int .u32 x, .int .i64 (-18)] w (Same (.int .u32 (rot x 18)) w) := by
  have q : bits .and .u64 (IntKind.u64.wrap (-18)) 31 = 14 := by kernel_rfl
  have e : rot x 18 = bits .or .u32 (x * 16384 % 4294967296) (x / 262144) := rfl
  rw [e]
  clear e
  go_enter Tryd.func53, Tryd.ntmps53
  go_wp2
  go_ret
  exact ⟨rfl, rfl⟩
theorem turn_18 (x : Int) (w : World) (h0 : 0 ≤ x) (h1 : x < 4294967296) : Calls Tryd.prog 45 #[.int .u32 x, .int .i64 18] w (Same (.int .u32 (rot x 18)) w) := by
  have c := rotl_18 x w h0 h1
  go_enter Tryd.func45, Tryd.ntmps45
  go_wp2_with (go_at_call 53; refine c.mono ?_; rintro e w' ⟨rfl, rfl⟩)
  go_ret
  exact ⟨rfl, rfl⟩
theorem rotl_19 (x : Int) (w : World) (h0 : 0 ≤ x) (h1 : x < 4294967296) : Calls Tryd.prog 53 #[.int .u32 x, .int .i64 (-19)] w (Same (.int .u32 (rot x 19)) w) := by
  have q : bits .and .u64 (IntKind.u64.wrap (-19)) 31 = 13 := by kernel_rfl
  have e : rot x 19 = bits .or .u32 (x * 8192 % 4294967296) (x / 524288) := rfl
  rw [e]
  clear e
  go_enter Tryd.func53, Tryd.ntmps53
  go_wp2
  go_ret
  exact ⟨rfl, rfl⟩
theorem turn_19 (x : Int) (w : World) (h0 : 0 ≤ x) (h1 : x < 4294967296) : Calls Tryd.prog 45 #[.int .u32 x, .int .i64 19] w (Same (.int .u32 (rot x 19)) w) := by
  have c := rotl_19 x w h0 h1
  go_enter Tryd.func45, Tryd.ntmps45
  go_wp2_with (go_at_call 53; refine c.mono ?_; rintro e w' ⟨rfl, rfl⟩)
  go_ret
  exact ⟨rfl, rfl⟩
theorem rotl_22 (x : Int) (w : World) (h0 : 0 ≤ x) (h1 : x < 4294967296) : Calls Tryd.prog 53 #[.int .u32 x, .int .i64 (-22)] w (Same (.int .u32 (rot x 22)) w) := by
  have q : bits .and .u64 (IntKind.u64.wrap (-22)) 31 = 10 := by kernel_rfl
  have e : rot x 22 = bits .or .u32 (x * 1024 % 4294967296) (x / 4194304) := rfl
  rw [e]
  clear e
  go_enter Tryd.func53, Tryd.ntmps53
  go_wp2
  go_ret
  exact ⟨rfl, rfl⟩
theorem turn_22 (x : Int) (w : World) (h0 : 0 ≤ x) (h1 : x < 4294967296) : Calls Tryd.prog 45 #[.int .u32 x, .int .i64 22] w (Same (.int .u32 (rot x 22)) w) := by
  have c := rotl_22 x w h0 h1
  go_enter Tryd.func45, Tryd.ntmps45
  go_wp2_with (go_at_call 53; refine c.mono ?_; rintro e w' ⟨rfl, rfl⟩)
  go_ret
  exact ⟨rfl, rfl⟩
theorem rotl_25 (x : Int) (w : World) (h0 : 0 ≤ x) (h1 : x < 4294967296) : Calls Tryd.prog 53 #[.int .u32 x, .int .i64 (-25)] w (Same (.int .u32 (rot x 25)) w) := by
  have q : bits .and .u64 (IntKind.u64.wrap (-25)) 31 = 7 := by kernel_rfl
  have e : rot x 25 = bits .or .u32 (x * 128 % 4294967296) (x / 33554432) := rfl
  rw [e]
  clear e
  go_enter Tryd.func53, Tryd.ntmps53
  go_wp2
  go_ret
  exact ⟨rfl, rfl⟩
theorem turn_25 (x : Int) (w : World) (h0 : 0 ≤ x) (h1 : x < 4294967296) : Calls Tryd.prog 45 #[.int .u32 x, .int .i64 25] w (Same (.int .u32 (rot x 25)) w) := by
  have c := rotl_25 x w h0 h1
  go_enter Tryd.func45, Tryd.ntmps45
  go_wp2_with (go_at_call 53; refine c.mono ?_; rintro e w' ⟨rfl, rfl⟩)
  go_ret
  exact ⟨rfl, rfl⟩
end Go.Proofs.YtgmlhgojkmpkkaaDoor
