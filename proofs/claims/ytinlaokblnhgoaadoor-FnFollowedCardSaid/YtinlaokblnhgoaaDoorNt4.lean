/- A network's check in the reference. -/
import Derived.Test.YtinlaokblnhgoaaDoorNt3
namespace Go.Proofs.YtinlaokblnhgoaaDoor
set_option linter.unusedVariables false
set_option linter.unusedSimpArgs false
open Go.RowKit
end Go.Proofs.YtinlaokblnhgoaaDoor
