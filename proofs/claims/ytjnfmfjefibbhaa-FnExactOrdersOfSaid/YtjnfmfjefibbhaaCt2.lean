/- IsContract in the program and in the reference. -/
import Derived.Test.YtjnfmfjefibbhaaCt1
namespace Go.Proofs.Ytjnfmfjefibbhaa
set_option linter.unusedVariables false
set_option linter.unusedSimpArgs false
open Go.RowKit
end Go.Proofs.Ytjnfmfjefibbhaa
