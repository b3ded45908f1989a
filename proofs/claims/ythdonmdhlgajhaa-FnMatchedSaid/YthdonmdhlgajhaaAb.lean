/- Numbers without their sign. -/
import Derived.Test.YthdonmdhlgajhaaNt1
namespace Go.Proofs.Ythdonmdhlgajhaa
set_option linter.unusedVariables false
set_option linter.unusedSimpArgs false
open Go.RowKit
def absI (n : Int) : Int := if n < 0 then -n else n
set_option maxHeartbeats 400000 in
theorem spec_l05Flow (n : Int) (w : World) :
    Calls Try.prog 45 #[.int .i64 n] w fun e w' => e = .returned (.bool (inB n (-30000) 30000)) ∧ w = w' := by
  (go_enter Try.func45, Try.ntmps45; go_wp2_with (first | (go_at_call 46; ((with_reducible refine (l01In_any _ _ _ _).mono ?_)); rintro e wn ⟨rfl, rfl⟩) | (go_at_call 46; ((with_reducible refine (l01In_any _ _ _ _).mono ?_)); rintro e wn ⟨rfl, rfl⟩)))
  go_ret
  exact ⟨rfl, rfl⟩
end Go.Proofs.Ythdonmdhlgajhaa
