/- IsContract in the program and in the reference. -/
import Derived.Test.YtiedojolhfglnaaCt1
namespace Go.Proofs.Ytiedojolhfglnaa
set_option linter.unusedVariables false
set_option linter.unusedSimpArgs false
open Go.RowKit
end Go.Proofs.Ytiedojolhfglnaa
