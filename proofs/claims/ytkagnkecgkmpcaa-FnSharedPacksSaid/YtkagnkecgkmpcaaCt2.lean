/- IsContract in the program and in the reference. -/
import Derived.Test.YtkagnkecgkmpcaaCt1
namespace Go.Proofs.Ytkagnkecgkmpcaa
set_option linter.unusedVariables false
set_option linter.unusedSimpArgs false
open Go.RowKit
end Go.Proofs.Ytkagnkecgkmpcaa
