/- A contract's check. -/
import Derived.Test.YtinlaokblnhgoaaDoorNt4
import Derived.Test.YtinlaokblnhgoaaDoorAb
namespace Go.Proofs.YtinlaokblnhgoaaDoor
set_option linter.unusedVariables false
set_option linter.unusedSimpArgs false
open Go.RowKit

def ctrB (c : Ctr) (n : Int) : Bool := inB c.sh 0 15 && inB c.en 0 (n - 1) && inB c.ex 0 (n - 1) && (c.en != c.ex) && inB c.am 1 30000 && inB c.cl 0 3 && decide (0 ≤ c.fr) && decide (c.fr ≤ c.to) && decide (c.to < 48) && inB c.pr 0 1000000
end Go.Proofs.YtinlaokblnhgoaaDoor
