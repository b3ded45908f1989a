/- A contract's check. -/
import Derived.Test.YtijhadafmhbceaaNt4
import Derived.Test.YtijhadafmhbceaaAb
namespace Go.Proofs.Ytijhadafmhbceaa
set_option linter.unusedVariables false
set_option linter.unusedSimpArgs false
open Go.RowKit

def ctrB (c : Ctr) (n : Int) : Bool := inB c.sh 0 15 && inB c.en 0 (n - 1) && inB c.ex 0 (n - 1) && (c.en != c.ex) && inB c.am 1 30000 && inB c.cl 0 3 && decide (0 ≤ c.fr) && decide (c.fr ≤ c.to) && decide (c.to < 48) && inB c.pr 0 1000000
set_option maxHeartbeats 400000 in
theorem spec_l06Supply (n : Int) (w : World) :
    Calls Try.prog 83 #[.int .i64 n] w fun e w' => e = .returned (.bool (inB n (-30000) 30000)) ∧ w = w' := by
  (go_enter Try.func83, Try.ntmps83; go_wp2_with (first | (go_at_call 93; ((with_reducible refine (l01In_any _ _ _ _).mono ?_)); rintro e wn ⟨rfl, rfl⟩) | (go_at_call 93; ((with_reducible refine (l01In_any _ _ _ _).mono ?_)); rintro e wn ⟨rfl, rfl⟩)))
  go_ret
  exact ⟨rfl, rfl⟩
end Go.Proofs.Ytijhadafmhbceaa
