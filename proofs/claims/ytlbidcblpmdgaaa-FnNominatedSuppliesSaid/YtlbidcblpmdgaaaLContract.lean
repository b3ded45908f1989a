/- The laws' helpers on Contract: copies, sizes, comparison. -/
import Derived.Test.YtlbidcblpmdgaaaRows
import Derived.Test.YtlbidcblpmdgaaaDat
import Derived.Test.YtlbidcblpmdgaaaAQ
import Derived.WalkKit
namespace Go.Proofs.Ytlbidcblpmdgaaa
set_option linter.unusedVariables false
set_option linter.unusedSimpArgs false
open Go.RowKit
end Go.Proofs.Ytlbidcblpmdgaaa
