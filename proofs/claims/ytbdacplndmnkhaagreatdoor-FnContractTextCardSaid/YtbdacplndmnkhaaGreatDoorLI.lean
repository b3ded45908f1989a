/- The laws' helpers on lists of numbers: copies, sizes, comparison. -/
import Derived.Test.YtbdacplndmnkhaaGreatDoorRows
import Derived.Test.YtbdacplndmnkhaaGreatDoorRd
import Derived.Test.YtbdacplndmnkhaaGreatDoorAQ
import Derived.WalkKit
namespace Go.Proofs.YtbdacplndmnkhaaGreatDoor
set_option linter.unusedVariables false
set_option linter.unusedSimpArgs false
open Go.RowKit
theorem info_i64 : (Tryz.prog.info? 2).map (fun i => (i.zero, i.size, i.bytes)) = some (some (.int .i64 0), 1, 8) := by kernel_rfl

def szN (left : Int) (n : Nat) : Int := if left - n < 0 then -1 else left - n
end Go.Proofs.YtbdacplndmnkhaaGreatDoor
