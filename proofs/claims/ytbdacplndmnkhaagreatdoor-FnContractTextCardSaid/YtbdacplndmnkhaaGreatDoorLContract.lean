/- The laws' helpers on Contract: copies, sizes, comparison. -/
import Derived.Test.YtbdacplndmnkhaaGreatDoorRows
import Derived.Test.YtbdacplndmnkhaaGreatDoorDat
import Derived.Test.YtbdacplndmnkhaaGreatDoorAQ
import Derived.WalkKit
namespace Go.Proofs.YtbdacplndmnkhaaGreatDoor
set_option linter.unusedVariables false
set_option linter.unusedSimpArgs false
open Go.RowKit
end Go.Proofs.YtbdacplndmnkhaaGreatDoor
