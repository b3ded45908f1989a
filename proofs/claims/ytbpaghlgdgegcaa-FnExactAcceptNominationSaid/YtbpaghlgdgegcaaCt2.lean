/- IsContract in the program and in the reference. -/
import Derived.Test.YtbpaghlgdgegcaaCt1
namespace Go.Proofs.Ytbpaghlgdgegcaa
set_option linter.unusedVariables false
set_option linter.unusedSimpArgs false
open Go.RowKit
end Go.Proofs.Ytbpaghlgdgegcaa
