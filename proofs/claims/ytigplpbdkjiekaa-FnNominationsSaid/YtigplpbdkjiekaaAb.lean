/- Numbers without their sign. -/
import Derived.Test.YtigplpbdkjiekaaNt1
namespace Go.Proofs.Ytigplpbdkjiekaa
set_option linter.unusedVariables false
set_option linter.unusedSimpArgs false
open Go.RowKit
def absI (n : Int) : Int := if n < 0 then -n else n
set_option maxHeartbeats 400000 in
theorem impl_absOf (n : Int) (w : World) (h : -9223372036854775807 ≤ n) (h' : n ≤ 9223372036854775807) :
    Calls Try.prog 39 #[.int .i64 n] w fun e w' => e = .returned (.int .i64 (if n < 0 then -n else n)) ∧ w = w' := by
  by_cases hn : n < 0
  · rw [if_pos hn]
    go_enter Try.func39, Try.ntmps39
    go_wp2
    go_ret
    exact ⟨rfl, rfl⟩
  · rw [if_neg hn]
    go_enter Try.func39, Try.ntmps39
    go_wp2
    go_ret
    exact ⟨rfl, rfl⟩
theorem impl_absOf' (n : Int) (w : World) (h : -9223372036854775807 ≤ n) (h' : n ≤ 9223372036854775807) :
    Calls Try.prog 39 #[.int .i64 n] w fun e w' => e = .returned (.int .i64 (absI n)) ∧ w = w' := impl_absOf n w h h'
set_option maxHeartbeats 400000 in
theorem spec_l01Abs (n : Int) (w : World) (h : -9223372036854775807 ≤ n) (h' : n ≤ 9223372036854775807) :
    Calls Try.prog 72 #[.int .i64 n] w fun e w' => e = .returned (.int .i64 (absI n)) ∧ w = w' := by
  go_enter Try.func72, Try.ntmps72
  go_wp2
  all_goals go_ret
  all_goals exact ⟨ri (by unfold absI; split <;> omega), rfl⟩
end Go.Proofs.Ytigplpbdkjiekaa
