/- Numbers without their sign. -/
import Derived.Test.YtijhadafmhbceaaNt1
namespace Go.Proofs.Ytijhadafmhbceaa
set_option linter.unusedVariables false
set_option linter.unusedSimpArgs false
open Go.RowKit
def absI (n : Int) : Int := if n < 0 then -n else n
set_option maxHeartbeats 400000 in
theorem impl_absOf (n : Int) (w : World) (h : -9223372036854775807 ≤ n) (h' : n ≤ 9223372036854775807) :
    Calls Try.prog 56 #[.int .i64 n] w fun e w' => e = .returned (.int .i64 (if n < 0 then -n else n)) ∧ w = w' := by
  by_cases hn : n < 0
  · rw [if_pos hn]
    go_enter Try.func56, Try.ntmps56
    go_wp2
    go_ret
    exact ⟨rfl, rfl⟩
  · rw [if_neg hn]
    go_enter Try.func56, Try.ntmps56
    go_wp2
    go_ret
    exact ⟨rfl, rfl⟩
theorem impl_absOf' (n : Int) (w : World) (h : -9223372036854775807 ≤ n) (h' : n ≤ 9223372036854775807) :
    Calls Try.prog 56 #[.int .i64 n] w fun e w' => e = .returned (.int .i64 (absI n)) ∧ w = w' := impl_absOf n w h h'
set_option maxHeartbeats 400000 in
theorem spec_l01Abs (n : Int) (w : World) (h : -9223372036854775807 ≤ n) (h' : n ≤ 9223372036854775807) :
    Calls Try.prog 62 #[.int .i64 n] w fun e w' => e = .returned (.int .i64 (absI n)) ∧ w = w' := by
  go_enter Try.func62, Try.ntmps62
  go_wp2
  all_goals go_ret
  all_goals exact ⟨ri (by unfold absI; split <;> omega), rfl⟩
set_option maxHeartbeats 400000 in
theorem spec_l05Flow (n : Int) (w : World) :
    Calls Try.prog 82 #[.int .i64 n] w fun e w' => e = .returned (.bool (inB n (-30000) 30000)) ∧ w = w' := by
  (go_enter Try.func82, Try.ntmps82; go_wp2_with (first | (go_at_call 93; ((with_reducible refine (l01In_any _ _ _ _).mono ?_)); rintro e wn ⟨rfl, rfl⟩) | (go_at_call 93; ((with_reducible refine (l01In_any _ _ _ _).mono ?_)); rintro e wn ⟨rfl, rfl⟩)))
  go_ret
  exact ⟨rfl, rfl⟩
end Go.Proofs.Ytijhadafmhbceaa
