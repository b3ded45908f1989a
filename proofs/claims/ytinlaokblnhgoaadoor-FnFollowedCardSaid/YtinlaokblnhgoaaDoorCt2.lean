/- IsContract in the program and in the reference. -/
import Derived.Test.YtinlaokblnhgoaaDoorCt1
namespace Go.Proofs.YtinlaokblnhgoaaDoor
set_option linter.unusedVariables false
set_option linter.unusedSimpArgs false
open Go.RowKit
end Go.Proofs.YtinlaokblnhgoaaDoor
