/- IsContract in the program and in the reference. -/
import Derived.Test.YtapdcndagnlmaaaCt1
namespace Go.Proofs.Ytapdcndagnlmaaa
set_option linter.unusedVariables false
set_option linter.unusedSimpArgs false
open Go.RowKit
end Go.Proofs.Ytapdcndagnlmaaa
