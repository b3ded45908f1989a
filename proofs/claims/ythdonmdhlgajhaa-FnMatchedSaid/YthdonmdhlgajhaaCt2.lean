/- IsContract in the program and in the reference. -/
import Derived.Test.YthdonmdhlgajhaaCt1
namespace Go.Proofs.Ythdonmdhlgajhaa
set_option linter.unusedVariables false
set_option linter.unusedSimpArgs false
open Go.RowKit
end Go.Proofs.Ythdonmdhlgajhaa
