/- Numbers without their sign. -/
import Derived.Test.YtbdacplndmnkhaaGreatDoorNt1
namespace Go.Proofs.YtbdacplndmnkhaaGreatDoor
set_option linter.unusedVariables false
set_option linter.unusedSimpArgs false
open Go.RowKit
def absI (n : Int) : Int := if n < 0 then -n else n
end Go.Proofs.YtbdacplndmnkhaaGreatDoor
