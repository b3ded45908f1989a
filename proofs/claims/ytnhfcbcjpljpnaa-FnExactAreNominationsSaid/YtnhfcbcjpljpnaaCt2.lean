/- IsContract in the program and in the reference. -/
import Derived.Test.YtnhfcbcjpljpnaaCt1
namespace Go.Proofs.Ytnhfcbcjpljpnaa
set_option linter.unusedVariables false
set_option linter.unusedSimpArgs false
open Go.RowKit
end Go.Proofs.Ytnhfcbcjpljpnaa
