/- The laws' helpers on Contract: copies, sizes, comparison. -/
import Derived.Test.YtmkecbnnanddkaaRows
import Derived.Test.YtmkecbnnanddkaaDat
import Derived.Test.YtmkecbnnanddkaaAQ
import Derived.WalkKit
namespace Go.Proofs.Ytmkecbnnanddkaa
set_option linter.unusedVariables false
set_option linter.unusedSimpArgs false
open Go.RowKit
end Go.Proofs.Ytmkecbnnanddkaa
