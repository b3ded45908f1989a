/- A drawn region by an invariant: one obligation an operation, no orders (the text is Rgo). -/
import Derived.Test.YtijhadafmhbceaaStl
import Derived.Test.YtijhadafmhbceaaRgo
namespace Go.Proofs.Ytijhadafmhbceaa
set_option linter.unusedVariables false
set_option linter.unusedSimpArgs false
end Go.Proofs.Ytijhadafmhbceaa
