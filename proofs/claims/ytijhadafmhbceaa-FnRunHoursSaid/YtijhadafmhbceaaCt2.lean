/- IsContract in the program and in the reference. -/
import Derived.Test.YtijhadafmhbceaaCt1
namespace Go.Proofs.Ytijhadafmhbceaa
set_option linter.unusedVariables false
set_option linter.unusedSimpArgs false
open Go.RowKit
end Go.Proofs.Ytijhadafmhbceaa
