/- The laws' helpers on Nomination: copies, sizes, comparison. -/
import Derived.Test.YtmbanjjgjhkbpaaRows
import Derived.Test.YtmbanjjgjhkbpaaDat
import Derived.Test.YtmbanjjgjhkbpaaAQ
import Derived.WalkKit
namespace Go.Proofs.Ytmbanjjgjhkbpaa
set_option linter.unusedVariables false
set_option linter.unusedSimpArgs false
open Go.RowKit
set_option maxRecDepth 100000 in
set_option maxHeartbeats 1000000 in
theorem laws_toNomination (a0 : Int) (a1 : Int) (a2 : Int) (a3 : Int) (w : World) :
    Calls Try.prog 45 #[.agg #[.int .i64 a0, .int .i64 a1, .int .i64 a2, .int .i64 a3]] w fun e w' => e = .returned (.agg #[.int .i64 a0, .int .i64 a1, .int .i64 a2, .int .i64 a3]) ∧ Below w.heap.size w w' := by
  go_enter Try.func45, Try.ntmps45
  go_wp2
  go_returns
  exact ⟨rfl, by go_grown⟩
end Go.Proofs.Ytmbanjjgjhkbpaa
