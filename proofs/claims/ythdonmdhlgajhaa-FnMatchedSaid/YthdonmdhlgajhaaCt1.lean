/- A contract's check. -/
import Derived.Test.YthdonmdhlgajhaaNt4
import Derived.Test.YthdonmdhlgajhaaAb
namespace Go.Proofs.Ythdonmdhlgajhaa
set_option linter.unusedVariables false
set_option linter.unusedSimpArgs false
open Go.RowKit

def ctrB (c : Ctr) (n : Int) : Bool := inB c.sh 0 15 && inB c.en 0 (n - 1) && inB c.ex 0 (n - 1) && (c.en != c.ex) && inB c.am 1 30000 && inB c.cl 0 3 && decide (0 ≤ c.fr) && decide (c.fr ≤ c.to) && decide (c.to < 48) && inB c.pr 0 1000000
set_option maxHeartbeats 400000 in
theorem impl_isShipper (n : Int) (w : World) :
    Calls Try.prog 28 #[.int .i64 n] w fun e w' => e = .returned (.bool (inB n 0 15)) ∧ w = w' := by
  (go_enter Try.func28, Try.ntmps28; go_wp2_with (first | (go_at_call 34; ((with_reducible refine (within_any _ _ _ _).mono ?_)); rintro e wn ⟨rfl, rfl⟩) | (go_at_call 34; ((with_reducible refine (within_any _ _ _ _).mono ?_)); rintro e wn ⟨rfl, rfl⟩)))
  go_ret
  exact ⟨rfl, rfl⟩
set_option maxHeartbeats 400000 in
theorem spec_l20Shipper (n : Int) (w : World) :
    Calls Try.prog 43 #[.int .i64 n] w fun e w' => e = .returned (.bool (inB n 0 15)) ∧ w = w' := by
  (go_enter Try.func43, Try.ntmps43; go_wp2_with (first | (go_at_call 46; ((with_reducible refine (l01In_any _ _ _ _).mono ?_)); rintro e wn ⟨rfl, rfl⟩) | (go_at_call 46; ((with_reducible refine (l01In_any _ _ _ _).mono ?_)); rintro e wn ⟨rfl, rfl⟩)))
  go_ret
  exact ⟨rfl, rfl⟩
end Go.Proofs.Ythdonmdhlgajhaa
