/- The laws' helpers on Order: copies, sizes, comparison. -/
import Derived.Test.YthdonmdhlgajhaaRows
import Derived.Test.YthdonmdhlgajhaaDat
import Derived.Test.YthdonmdhlgajhaaAQ
import Derived.WalkKit
namespace Go.Proofs.Ythdonmdhlgajhaa
set_option linter.unusedVariables false
set_option linter.unusedSimpArgs false
open Go.RowKit
end Go.Proofs.Ythdonmdhlgajhaa
