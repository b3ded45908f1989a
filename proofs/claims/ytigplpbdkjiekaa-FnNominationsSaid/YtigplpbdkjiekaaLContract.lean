/- The laws' helpers on Contract: copies, sizes, comparison. -/
import Derived.Test.YtigplpbdkjiekaaRows
import Derived.Test.YtigplpbdkjiekaaDat
import Derived.Test.YtigplpbdkjiekaaAQ
import Derived.WalkKit
namespace Go.Proofs.Ytigplpbdkjiekaa
set_option linter.unusedVariables false
set_option linter.unusedSimpArgs false
open Go.RowKit
end Go.Proofs.Ytigplpbdkjiekaa
