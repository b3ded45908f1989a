/-
  No cell of these rows narrows 'for every input' (looked for: loops, veiled, ifaces, maps, wideKeys, modest, calm, conditions, laid).
  DERIVED. THE GIVEN ROWS OF THIS SEAT. 9 by the template 'for every input the law returns true; each argument reads behind the call as it read before'; 0 by the template 'total and deterministic' (their statements: YtnhfcbcjpljpnaaTotals.lean).
  GIVEN WITH THE SEED: the statements are not yours to turn. If you find one false, say at which input.
  Laid BY PROGRAM, IN A SANDBOX (cutbox-rows.mjs): the forced cells as the released guide's own fill.sh prints them over the translation 6b347ae64fc57dad… (all of the seat's roots in one cut). By AI agents, Wed Nov 11 2026. No macro, syntax, notation, axiom, sorry.
-/
import Derived.Test.YtnhfcbcjpljpnaaChecked
import GoSem.Claim
import GoSem.ClaimJoined
import GoSem.ClaimMapViews
import Derived.JoinedTies
import Derived.KernelRfl
namespace Go.Proofs.Ytnhfcbcjpljpnaa
/- THE CELL 'sum', in the pinned program and in every row, IS THE sha256 OF THE DUMP (.gsa) THAT YtnhfcbcjpljpnaaProg.lean LOADS. Nothing in Lean hashes anything: it is a label: what it is worth is what the hold of that sum in a sandbox is worth. -/
noncomputable def Try.pinned : Pinned := { name := "ytnhfcbcjpljpnaa", sum := "6b347ae64fc57dad5e9f63b9c2e085ab3ab10154f6bffe9518b17be9f700cefc", checked := Try.checked }
namespace Rows
def none {H : Type} : Left H := { results := [], args := [] }

/-- 'laws.FnExactAreNominations': WHATEVER THE INPUT: true; the input reads as it did. -/
def fnExactAreNominationsSpec : ChangeSpec := { name := "fnExactAreNominations", fn := fun _ => fun
  | [d1, d2, d3] => { results := [.lit (.bool true)], args := [d1, d2, d3] }
  | _ => none }
def fnExactAreNominationsRow : OpenClaim := { program := "ytnhfcbcjpljpnaa", sum := "6b347ae64fc57dad5e9f63b9c2e085ab3ab10154f6bffe9518b17be9f700cefc", func := "loop.example/g00852/laws.FnExactAreNominations", spec := "fnExactAreNominations", unfollowed := true, recurses := true, apart := false }
def FnExactAreNominationsSaid : Prop := fnExactAreNominationsRow.holds Try.pinned (OpenSpec.ofChange fnExactAreNominationsSpec)

/-- ITS FALSE NEIGHBOUR: 'it returns false'. Refute it at one input. -/
def fnExactAreNominationsWrong : ChangeSpec := { name := "fnExactAreNominations", fn := fun _ => fun
  | [d1, d2, d3] => { results := [.lit (.bool false)], args := [d1, d2, d3] }
  | _ => none }
def FnExactAreNominationsWrongFalsely : Prop := fnExactAreNominationsRow.holds Try.pinned (OpenSpec.ofChange fnExactAreNominationsWrong)

/-- 'laws.FnExactBookedAt': WHATEVER THE INPUT: true; the input reads as it did. -/
def fnExactBookedAtSpec : ChangeSpec := { name := "fnExactBookedAt", fn := fun _ => fun
  | [d1, d2, d3, d4] => { results := [.lit (.bool true)], args := [d1, d2, d3, d4] }
  | _ => none }
def fnExactBookedAtRow : OpenClaim := { program := "ytnhfcbcjpljpnaa", sum := "6b347ae64fc57dad5e9f63b9c2e085ab3ab10154f6bffe9518b17be9f700cefc", func := "loop.example/g00852/laws.FnExactBookedAt", spec := "fnExactBookedAt", unfollowed := true, recurses := true, apart := false }
def FnExactBookedAtSaid : Prop := fnExactBookedAtRow.holds Try.pinned (OpenSpec.ofChange fnExactBookedAtSpec)

/-- ITS FALSE NEIGHBOUR: 'it returns false'. Refute it at one input. -/
def fnExactBookedAtWrong : ChangeSpec := { name := "fnExactBookedAt", fn := fun _ => fun
  | [d1, d2, d3, d4] => { results := [.lit (.bool false)], args := [d1, d2, d3, d4] }
  | _ => none }
def FnExactBookedAtWrongFalsely : Prop := fnExactBookedAtRow.holds Try.pinned (OpenSpec.ofChange fnExactBookedAtWrong)

/-- 'laws.FnExactNominatedFor': WHATEVER THE INPUT: true; the input reads as it did. -/
def fnExactNominatedForSpec : ChangeSpec := { name := "fnExactNominatedFor", fn := fun _ => fun
  | [d1, d2, d3, d4, d5] => { results := [.lit (.bool true)], args := [d1, d2, d3, d4, d5] }
  | _ => none }
def fnExactNominatedForRow : OpenClaim := { program := "ytnhfcbcjpljpnaa", sum := "6b347ae64fc57dad5e9f63b9c2e085ab3ab10154f6bffe9518b17be9f700cefc", func := "loop.example/g00852/laws.FnExactNominatedFor", spec := "fnExactNominatedFor", unfollowed := true, recurses := true, apart := false }
def FnExactNominatedForSaid : Prop := fnExactNominatedForRow.holds Try.pinned (OpenSpec.ofChange fnExactNominatedForSpec)

/-- ITS FALSE NEIGHBOUR: 'it returns false'. Refute it at one input. -/
def fnExactNominatedForWrong : ChangeSpec := { name := "fnExactNominatedFor", fn := fun _ => fun
  | [d1, d2, d3, d4, d5] => { results := [.lit (.bool false)], args := [d1, d2, d3, d4, d5] }
  | _ => none }
def FnExactNominatedForWrongFalsely : Prop := fnExactNominatedForRow.holds Try.pinned (OpenSpec.ofChange fnExactNominatedForWrong)

/-- 'laws.FnExactPackOf': WHATEVER THE INPUT: true; the input reads as it did. -/
def fnExactPackOfSpec : ChangeSpec := { name := "fnExactPackOf", fn := fun _ => fun
  | [d1, d2, d3] => { results := [.lit (.bool true)], args := [d1, d2, d3] }
  | _ => none }
def fnExactPackOfRow : OpenClaim := { program := "ytnhfcbcjpljpnaa", sum := "6b347ae64fc57dad5e9f63b9c2e085ab3ab10154f6bffe9518b17be9f700cefc", func := "loop.example/g00852/laws.FnExactPackOf", spec := "fnExactPackOf", inPlace := ["math.sqrt"], unfollowed := true, recurses := true, apart := false }
def FnExactPackOfSaid : Prop := fnExactPackOfRow.holds Try.pinned (OpenSpec.ofChange fnExactPackOfSpec)

/-- ITS FALSE NEIGHBOUR: 'it returns false'. Refute it at one input. -/
def fnExactPackOfWrong : ChangeSpec := { name := "fnExactPackOf", fn := fun _ => fun
  | [d1, d2, d3] => { results := [.lit (.bool false)], args := [d1, d2, d3] }
  | _ => none }
def FnExactPackOfWrongFalsely : Prop := fnExactPackOfRow.holds Try.pinned (OpenSpec.ofChange fnExactPackOfWrong)

/-- 'laws.FnExactPackChange': WHATEVER THE INPUT: true; the input reads as it did. -/
def fnExactPackChangeSpec : ChangeSpec := { name := "fnExactPackChange", fn := fun _ => fun
  | [d1, d2, d3] => { results := [.lit (.bool true)], args := [d1, d2, d3] }
  | _ => none }
def fnExactPackChangeRow : OpenClaim := { program := "ytnhfcbcjpljpnaa", sum := "6b347ae64fc57dad5e9f63b9c2e085ab3ab10154f6bffe9518b17be9f700cefc", func := "loop.example/g00852/laws.FnExactPackChange", spec := "fnExactPackChange", inPlace := ["math.sqrt"], unfollowed := true, recurses := true, apart := false }
def FnExactPackChangeSaid : Prop := fnExactPackChangeRow.holds Try.pinned (OpenSpec.ofChange fnExactPackChangeSpec)

/-- ITS FALSE NEIGHBOUR: 'it returns false'. Refute it at one input. -/
def fnExactPackChangeWrong : ChangeSpec := { name := "fnExactPackChange", fn := fun _ => fun
  | [d1, d2, d3] => { results := [.lit (.bool false)], args := [d1, d2, d3] }
  | _ => none }
def FnExactPackChangeWrongFalsely : Prop := fnExactPackChangeRow.holds Try.pinned (OpenSpec.ofChange fnExactPackChangeWrong)

/-- 'laws.FnExactLinepackOf': WHATEVER THE INPUT: true; the input reads as it did. -/
def fnExactLinepackOfSpec : ChangeSpec := { name := "fnExactLinepackOf", fn := fun _ => fun
  | [d1, d2] => { results := [.lit (.bool true)], args := [d1, d2] }
  | _ => none }
def fnExactLinepackOfRow : OpenClaim := { program := "ytnhfcbcjpljpnaa", sum := "6b347ae64fc57dad5e9f63b9c2e085ab3ab10154f6bffe9518b17be9f700cefc", func := "loop.example/g00852/laws.FnExactLinepackOf", spec := "fnExactLinepackOf", inPlace := ["math.sqrt"], unfollowed := true, recurses := true, apart := false }
def FnExactLinepackOfSaid : Prop := fnExactLinepackOfRow.holds Try.pinned (OpenSpec.ofChange fnExactLinepackOfSpec)

/-- ITS FALSE NEIGHBOUR: 'it returns false'. Refute it at one input. -/
def fnExactLinepackOfWrong : ChangeSpec := { name := "fnExactLinepackOf", fn := fun _ => fun
  | [d1, d2] => { results := [.lit (.bool false)], args := [d1, d2] }
  | _ => none }
def FnExactLinepackOfWrongFalsely : Prop := fnExactLinepackOfRow.holds Try.pinned (OpenSpec.ofChange fnExactLinepackOfWrong)

/-- 'laws.FnExactFlatLevel': WHATEVER THE INPUT: true; the input reads as it did. -/
def fnExactFlatLevelSpec : ChangeSpec := { name := "fnExactFlatLevel", fn := fun _ => fun
  | [d1, d2] => { results := [.lit (.bool true)], args := [d1, d2] }
  | _ => none }
def fnExactFlatLevelRow : OpenClaim := { program := "ytnhfcbcjpljpnaa", sum := "6b347ae64fc57dad5e9f63b9c2e085ab3ab10154f6bffe9518b17be9f700cefc", func := "loop.example/g00852/laws.FnExactFlatLevel", spec := "fnExactFlatLevel", inPlace := ["math.sqrt"], unfollowed := true, recurses := true, apart := false }
def FnExactFlatLevelSaid : Prop := fnExactFlatLevelRow.holds Try.pinned (OpenSpec.ofChange fnExactFlatLevelSpec)

/-- ITS FALSE NEIGHBOUR: 'it returns false'. Refute it at one input. -/
def fnExactFlatLevelWrong : ChangeSpec := { name := "fnExactFlatLevel", fn := fun _ => fun
  | [d1, d2] => { results := [.lit (.bool false)], args := [d1, d2] }
  | _ => none }
def FnExactFlatLevelWrongFalsely : Prop := fnExactFlatLevelRow.holds Try.pinned (OpenSpec.ofChange fnExactFlatLevelWrong)

/-- 'laws.FnExactFirstTrouble': WHATEVER THE INPUT: true; the input reads as it did. -/
def fnExactFirstTroubleSpec : ChangeSpec := { name := "fnExactFirstTrouble", fn := fun _ => fun
  | [d1, d2, d3] => { results := [.lit (.bool true)], args := [d1, d2, d3] }
  | _ => none }
def fnExactFirstTroubleRow : OpenClaim := { program := "ytnhfcbcjpljpnaa", sum := "6b347ae64fc57dad5e9f63b9c2e085ab3ab10154f6bffe9518b17be9f700cefc", func := "loop.example/g00852/laws.FnExactFirstTrouble", spec := "fnExactFirstTrouble", unfollowed := true, recurses := true, apart := false }
def FnExactFirstTroubleSaid : Prop := fnExactFirstTroubleRow.holds Try.pinned (OpenSpec.ofChange fnExactFirstTroubleSpec)

/-- ITS FALSE NEIGHBOUR: 'it returns false'. Refute it at one input. -/
def fnExactFirstTroubleWrong : ChangeSpec := { name := "fnExactFirstTrouble", fn := fun _ => fun
  | [d1, d2, d3] => { results := [.lit (.bool false)], args := [d1, d2, d3] }
  | _ => none }
def FnExactFirstTroubleWrongFalsely : Prop := fnExactFirstTroubleRow.holds Try.pinned (OpenSpec.ofChange fnExactFirstTroubleWrong)

/-- 'laws.FnExactSteadyHours': WHATEVER THE INPUT: true; the input reads as it did. -/
def fnExactSteadyHoursSpec : ChangeSpec := { name := "fnExactSteadyHours", fn := fun _ => fun
  | [d1, d2, d3] => { results := [.lit (.bool true)], args := [d1, d2, d3] }
  | _ => none }
def fnExactSteadyHoursRow : OpenClaim := { program := "ytnhfcbcjpljpnaa", sum := "6b347ae64fc57dad5e9f63b9c2e085ab3ab10154f6bffe9518b17be9f700cefc", func := "loop.example/g00852/laws.FnExactSteadyHours", spec := "fnExactSteadyHours", unfollowed := true, recurses := true, apart := false }
def FnExactSteadyHoursSaid : Prop := fnExactSteadyHoursRow.holds Try.pinned (OpenSpec.ofChange fnExactSteadyHoursSpec)

/-- ITS FALSE NEIGHBOUR: 'it returns false'. Refute it at one input. -/
def fnExactSteadyHoursWrong : ChangeSpec := { name := "fnExactSteadyHours", fn := fun _ => fun
  | [d1, d2, d3] => { results := [.lit (.bool false)], args := [d1, d2, d3] }
  | _ => none }
def FnExactSteadyHoursWrongFalsely : Prop := fnExactSteadyHoursRow.holds Try.pinned (OpenSpec.ofChange fnExactSteadyHoursWrong)

/- THE SECOND FORM. 'bulk': how many values and letters a reading holds, each counted each time it is reached (what is shared counts as often as it is met; a slice's spare places count too). A statement '..UptoSaid' is the law's where the arguments, and the package variables that the reading takes, are together of bulk at most 1048576: NARROWER than '..Said'. Prove '..Said' where nothing that the law and all that it calls make is longer than what came in: it says more and counts as full. Else prove '..UptoSaid'. A law counts once. -/
mutual
def uptoBulk {H : Type} : DataW H → Nat
  | .lit (.string bytes) => bytes.length + 1
  | .lit _ => 1
  | .nil => 1
  | .ptr d => uptoBulk d + 1
  | .slice elems spare => uptoBulkAll elems + uptoBulkAll spare + 1
  | .agg parts => uptoBulkAll parts + 1
  | .iface _ d => uptoBulk d + 1
  | .map entries => uptoBulkEntries entries + 1
  | .held _ => 1
def uptoBulkAll {H : Type} : List (DataW H) → Nat
  | [] => 0
  | d :: r => uptoBulk d + uptoBulkAll r
def uptoBulkEntries {H : Type} : List (Lit × DataW H) → Nat
  | [] => 0
  | x :: r => uptoBulkEntry x + uptoBulkEntries r
def uptoBulkEntry {H : Type} : Lit × DataW H → Nat
  | (.string bytes, d) => bytes.length + uptoBulk d + 1
  | (_, d) => uptoBulk d + 1
 end
def uptoSmall : (H : Type) → List (DataW H) → Bool := fun _ ds => decide (uptoBulkAll ds ≤ 1048576)
def OpenSpec.upto (s : _root_.Go.ChangeSpec) : _root_.Go.OpenSpec := { _root_.Go.OpenSpec.ofChange s with cond := some uptoSmall }

/-- 'laws.FnExactAreNominations', WHERE WHAT IT READS IS OF BULK AT MOST 1048576: true; the input reads as it did. -/
def fnExactAreNominationsUptoRow : OpenClaim := { program := "ytnhfcbcjpljpnaa", sum := "6b347ae64fc57dad5e9f63b9c2e085ab3ab10154f6bffe9518b17be9f700cefc", func := "loop.example/g00852/laws.FnExactAreNominations", spec := "fnExactAreNominations", unfollowed := true, recurses := true, apart := false, narrowed := true }
def FnExactAreNominationsUptoSaid : Prop := fnExactAreNominationsUptoRow.holds Try.pinned (OpenSpec.upto fnExactAreNominationsSpec)

/-- 'laws.FnExactBookedAt', WHERE WHAT IT READS IS OF BULK AT MOST 1048576: true; the input reads as it did. -/
def fnExactBookedAtUptoRow : OpenClaim := { program := "ytnhfcbcjpljpnaa", sum := "6b347ae64fc57dad5e9f63b9c2e085ab3ab10154f6bffe9518b17be9f700cefc", func := "loop.example/g00852/laws.FnExactBookedAt", spec := "fnExactBookedAt", unfollowed := true, recurses := true, apart := false, narrowed := true }
def FnExactBookedAtUptoSaid : Prop := fnExactBookedAtUptoRow.holds Try.pinned (OpenSpec.upto fnExactBookedAtSpec)

/-- 'laws.FnExactNominatedFor', WHERE WHAT IT READS IS OF BULK AT MOST 1048576: true; the input reads as it did. -/
def fnExactNominatedForUptoRow : OpenClaim := { program := "ytnhfcbcjpljpnaa", sum := "6b347ae64fc57dad5e9f63b9c2e085ab3ab10154f6bffe9518b17be9f700cefc", func := "loop.example/g00852/laws.FnExactNominatedFor", spec := "fnExactNominatedFor", unfollowed := true, recurses := true, apart := false, narrowed := true }
def FnExactNominatedForUptoSaid : Prop := fnExactNominatedForUptoRow.holds Try.pinned (OpenSpec.upto fnExactNominatedForSpec)

/-- 'laws.FnExactPackOf', WHERE WHAT IT READS IS OF BULK AT MOST 1048576: true; the input reads as it did. -/
def fnExactPackOfUptoRow : OpenClaim := { program := "ytnhfcbcjpljpnaa", sum := "6b347ae64fc57dad5e9f63b9c2e085ab3ab10154f6bffe9518b17be9f700cefc", func := "loop.example/g00852/laws.FnExactPackOf", spec := "fnExactPackOf", inPlace := ["math.sqrt"], unfollowed := true, recurses := true, apart := false, narrowed := true }
def FnExactPackOfUptoSaid : Prop := fnExactPackOfUptoRow.holds Try.pinned (OpenSpec.upto fnExactPackOfSpec)

/-- 'laws.FnExactPackChange', WHERE WHAT IT READS IS OF BULK AT MOST 1048576: true; the input reads as it did. -/
def fnExactPackChangeUptoRow : OpenClaim := { program := "ytnhfcbcjpljpnaa", sum := "6b347ae64fc57dad5e9f63b9c2e085ab3ab10154f6bffe9518b17be9f700cefc", func := "loop.example/g00852/laws.FnExactPackChange", spec := "fnExactPackChange", inPlace := ["math.sqrt"], unfollowed := true, recurses := true, apart := false, narrowed := true }
def FnExactPackChangeUptoSaid : Prop := fnExactPackChangeUptoRow.holds Try.pinned (OpenSpec.upto fnExactPackChangeSpec)

/-- 'laws.FnExactLinepackOf', WHERE WHAT IT READS IS OF BULK AT MOST 1048576: true; the input reads as it did. -/
def fnExactLinepackOfUptoRow : OpenClaim := { program := "ytnhfcbcjpljpnaa", sum := "6b347ae64fc57dad5e9f63b9c2e085ab3ab10154f6bffe9518b17be9f700cefc", func := "loop.example/g00852/laws.FnExactLinepackOf", spec := "fnExactLinepackOf", inPlace := ["math.sqrt"], unfollowed := true, recurses := true, apart := false, narrowed := true }
def FnExactLinepackOfUptoSaid : Prop := fnExactLinepackOfUptoRow.holds Try.pinned (OpenSpec.upto fnExactLinepackOfSpec)

/-- 'laws.FnExactFlatLevel', WHERE WHAT IT READS IS OF BULK AT MOST 1048576: true; the input reads as it did. -/
def fnExactFlatLevelUptoRow : OpenClaim := { program := "ytnhfcbcjpljpnaa", sum := "6b347ae64fc57dad5e9f63b9c2e085ab3ab10154f6bffe9518b17be9f700cefc", func := "loop.example/g00852/laws.FnExactFlatLevel", spec := "fnExactFlatLevel", inPlace := ["math.sqrt"], unfollowed := true, recurses := true, apart := false, narrowed := true }
def FnExactFlatLevelUptoSaid : Prop := fnExactFlatLevelUptoRow.holds Try.pinned (OpenSpec.upto fnExactFlatLevelSpec)

/-- 'laws.FnExactFirstTrouble', WHERE WHAT IT READS IS OF BULK AT MOST 1048576: true; the input reads as it did. -/
def fnExactFirstTroubleUptoRow : OpenClaim := { program := "ytnhfcbcjpljpnaa", sum := "6b347ae64fc57dad5e9f63b9c2e085ab3ab10154f6bffe9518b17be9f700cefc", func := "loop.example/g00852/laws.FnExactFirstTrouble", spec := "fnExactFirstTrouble", unfollowed := true, recurses := true, apart := false, narrowed := true }
def FnExactFirstTroubleUptoSaid : Prop := fnExactFirstTroubleUptoRow.holds Try.pinned (OpenSpec.upto fnExactFirstTroubleSpec)

/-- 'laws.FnExactSteadyHours', WHERE WHAT IT READS IS OF BULK AT MOST 1048576: true; the input reads as it did. -/
def fnExactSteadyHoursUptoRow : OpenClaim := { program := "ytnhfcbcjpljpnaa", sum := "6b347ae64fc57dad5e9f63b9c2e085ab3ab10154f6bffe9518b17be9f700cefc", func := "loop.example/g00852/laws.FnExactSteadyHours", spec := "fnExactSteadyHours", unfollowed := true, recurses := true, apart := false, narrowed := true }
def FnExactSteadyHoursUptoSaid : Prop := fnExactSteadyHoursUptoRow.holds Try.pinned (OpenSpec.upto fnExactSteadyHoursSpec)

end Rows
end Go.Proofs.Ytnhfcbcjpljpnaa
