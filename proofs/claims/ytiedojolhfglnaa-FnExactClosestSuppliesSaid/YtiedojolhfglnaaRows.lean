/-
  No cell of these rows narrows 'for every input' (looked for: loops, veiled, ifaces, maps, wideKeys, modest, calm, conditions, laid).
  DERIVED. THE GIVEN ROWS OF THIS SEAT. 12 by the template 'for every input the law returns true; each argument reads behind the call as it read before'; 0 by the template 'total and deterministic' (their statements: YtiedojolhfglnaaTotals.lean).
  GIVEN WITH THE SEED: the statements are not yours to turn. If you find one false, say at which input.
  Laid BY PROGRAM, IN A SANDBOX (cutbox-rows.mjs): the forced cells as the released guide's own fill.sh prints them over the translation 1f97a3e9c3eef3a5… (all of the seat's roots in one cut). By AI agents, Wed Nov 11 2026. No macro, syntax, notation, axiom, sorry.
-/
import Derived.Test.YtiedojolhfglnaaChecked
import GoSem.Claim
import GoSem.ClaimJoined
import GoSem.ClaimMapViews
import Derived.JoinedTies
import Derived.KernelRfl
namespace Go.Proofs.Ytiedojolhfglnaa
/- THE CELL 'sum', in the pinned program and in every row, IS THE sha256 OF THE DUMP (.gsa) THAT YtiedojolhfglnaaProg.lean LOADS. Nothing in Lean hashes anything: it is a label: what it is worth is what the hold of that sum in a sandbox is worth. -/
noncomputable def Try.pinned : Pinned := { name := "ytiedojolhfglnaa", sum := "1f97a3e9c3eef3a57f50656772774dc7042171484f9ebc6b04da50aa4ed020c1", checked := Try.checked }
namespace Rows
def none {H : Type} : Left H := { results := [], args := [] }

/-- 'laws.FnExactFlatLevel': WHATEVER THE INPUT: true; the input reads as it did. -/
def fnExactFlatLevelSpec : ChangeSpec := { name := "fnExactFlatLevel", fn := fun _ => fun
  | [d1, d2] => { results := [.lit (.bool true)], args := [d1, d2] }
  | _ => none }
def fnExactFlatLevelRow : OpenClaim := { program := "ytiedojolhfglnaa", sum := "1f97a3e9c3eef3a57f50656772774dc7042171484f9ebc6b04da50aa4ed020c1", func := "loop.example/g00852/laws.FnExactFlatLevel", spec := "fnExactFlatLevel", inPlace := ["math.sqrt"], unfollowed := true, recurses := true, apart := false }
def FnExactFlatLevelSaid : Prop := fnExactFlatLevelRow.holds Try.pinned (OpenSpec.ofChange fnExactFlatLevelSpec)

/-- ITS FALSE NEIGHBOUR: 'it returns false'. Refute it at one input. -/
def fnExactFlatLevelWrong : ChangeSpec := { name := "fnExactFlatLevel", fn := fun _ => fun
  | [d1, d2] => { results := [.lit (.bool false)], args := [d1, d2] }
  | _ => none }
def FnExactFlatLevelWrongFalsely : Prop := fnExactFlatLevelRow.holds Try.pinned (OpenSpec.ofChange fnExactFlatLevelWrong)

/-- 'laws.FnExactOrderSupplies': WHATEVER THE INPUT: true; the input reads as it did. -/
def fnExactOrderSuppliesSpec : ChangeSpec := { name := "fnExactOrderSupplies", fn := fun _ => fun
  | [d1, d2] => { results := [.lit (.bool true)], args := [d1, d2] }
  | _ => none }
def fnExactOrderSuppliesRow : OpenClaim := { program := "ytiedojolhfglnaa", sum := "1f97a3e9c3eef3a57f50656772774dc7042171484f9ebc6b04da50aa4ed020c1", func := "loop.example/g00852/laws.FnExactOrderSupplies", spec := "fnExactOrderSupplies", unfollowed := true, recurses := true, apart := false }
def FnExactOrderSuppliesSaid : Prop := fnExactOrderSuppliesRow.holds Try.pinned (OpenSpec.ofChange fnExactOrderSuppliesSpec)

/-- ITS FALSE NEIGHBOUR: 'it returns false'. Refute it at one input. -/
def fnExactOrderSuppliesWrong : ChangeSpec := { name := "fnExactOrderSupplies", fn := fun _ => fun
  | [d1, d2] => { results := [.lit (.bool false)], args := [d1, d2] }
  | _ => none }
def FnExactOrderSuppliesWrongFalsely : Prop := fnExactOrderSuppliesRow.holds Try.pinned (OpenSpec.ofChange fnExactOrderSuppliesWrong)

/-- 'laws.FnExactClassTotals': WHATEVER THE INPUT: true; the input reads as it did. -/
def fnExactClassTotalsSpec : ChangeSpec := { name := "fnExactClassTotals", fn := fun _ => fun
  | [d1, d2, d3] => { results := [.lit (.bool true)], args := [d1, d2, d3] }
  | _ => none }
def fnExactClassTotalsRow : OpenClaim := { program := "ytiedojolhfglnaa", sum := "1f97a3e9c3eef3a57f50656772774dc7042171484f9ebc6b04da50aa4ed020c1", func := "loop.example/g00852/laws.FnExactClassTotals", spec := "fnExactClassTotals", unfollowed := true, recurses := true, apart := false }
def FnExactClassTotalsSaid : Prop := fnExactClassTotalsRow.holds Try.pinned (OpenSpec.ofChange fnExactClassTotalsSpec)

/-- ITS FALSE NEIGHBOUR: 'it returns false'. Refute it at one input. -/
def fnExactClassTotalsWrong : ChangeSpec := { name := "fnExactClassTotals", fn := fun _ => fun
  | [d1, d2, d3] => { results := [.lit (.bool false)], args := [d1, d2, d3] }
  | _ => none }
def FnExactClassTotalsWrongFalsely : Prop := fnExactClassTotalsRow.holds Try.pinned (OpenSpec.ofChange fnExactClassTotalsWrong)

/-- 'laws.FnExactFirstTrouble': WHATEVER THE INPUT: true; the input reads as it did. -/
def fnExactFirstTroubleSpec : ChangeSpec := { name := "fnExactFirstTrouble", fn := fun _ => fun
  | [d1, d2, d3] => { results := [.lit (.bool true)], args := [d1, d2, d3] }
  | _ => none }
def fnExactFirstTroubleRow : OpenClaim := { program := "ytiedojolhfglnaa", sum := "1f97a3e9c3eef3a57f50656772774dc7042171484f9ebc6b04da50aa4ed020c1", func := "loop.example/g00852/laws.FnExactFirstTrouble", spec := "fnExactFirstTrouble", unfollowed := true, recurses := true, apart := false }
def FnExactFirstTroubleSaid : Prop := fnExactFirstTroubleRow.holds Try.pinned (OpenSpec.ofChange fnExactFirstTroubleSpec)

/-- ITS FALSE NEIGHBOUR: 'it returns false'. Refute it at one input. -/
def fnExactFirstTroubleWrong : ChangeSpec := { name := "fnExactFirstTrouble", fn := fun _ => fun
  | [d1, d2, d3] => { results := [.lit (.bool false)], args := [d1, d2, d3] }
  | _ => none }
def FnExactFirstTroubleWrongFalsely : Prop := fnExactFirstTroubleRow.holds Try.pinned (OpenSpec.ofChange fnExactFirstTroubleWrong)

/-- 'laws.FnExactActiveContracts': WHATEVER THE INPUT: true; the input reads as it did. -/
def fnExactActiveContractsSpec : ChangeSpec := { name := "fnExactActiveContracts", fn := fun _ => fun
  | [d1, d2, d3, d4] => { results := [.lit (.bool true)], args := [d1, d2, d3, d4] }
  | _ => none }
def fnExactActiveContractsRow : OpenClaim := { program := "ytiedojolhfglnaa", sum := "1f97a3e9c3eef3a57f50656772774dc7042171484f9ebc6b04da50aa4ed020c1", func := "loop.example/g00852/laws.FnExactActiveContracts", spec := "fnExactActiveContracts", unfollowed := true, recurses := true, apart := false }
def FnExactActiveContractsSaid : Prop := fnExactActiveContractsRow.holds Try.pinned (OpenSpec.ofChange fnExactActiveContractsSpec)

/-- ITS FALSE NEIGHBOUR: 'it returns false'. Refute it at one input. -/
def fnExactActiveContractsWrong : ChangeSpec := { name := "fnExactActiveContracts", fn := fun _ => fun
  | [d1, d2, d3, d4] => { results := [.lit (.bool false)], args := [d1, d2, d3, d4] }
  | _ => none }
def FnExactActiveContractsWrongFalsely : Prop := fnExactActiveContractsRow.holds Try.pinned (OpenSpec.ofChange fnExactActiveContractsWrong)

/-- 'laws.FnExactSteadyHours': WHATEVER THE INPUT: true; the input reads as it did. -/
def fnExactSteadyHoursSpec : ChangeSpec := { name := "fnExactSteadyHours", fn := fun _ => fun
  | [d1, d2, d3] => { results := [.lit (.bool true)], args := [d1, d2, d3] }
  | _ => none }
def fnExactSteadyHoursRow : OpenClaim := { program := "ytiedojolhfglnaa", sum := "1f97a3e9c3eef3a57f50656772774dc7042171484f9ebc6b04da50aa4ed020c1", func := "loop.example/g00852/laws.FnExactSteadyHours", spec := "fnExactSteadyHours", unfollowed := true, recurses := true, apart := false }
def FnExactSteadyHoursSaid : Prop := fnExactSteadyHoursRow.holds Try.pinned (OpenSpec.ofChange fnExactSteadyHoursSpec)

/-- ITS FALSE NEIGHBOUR: 'it returns false'. Refute it at one input. -/
def fnExactSteadyHoursWrong : ChangeSpec := { name := "fnExactSteadyHours", fn := fun _ => fun
  | [d1, d2, d3] => { results := [.lit (.bool false)], args := [d1, d2, d3] }
  | _ => none }
def FnExactSteadyHoursWrongFalsely : Prop := fnExactSteadyHoursRow.holds Try.pinned (OpenSpec.ofChange fnExactSteadyHoursWrong)

/-- 'laws.FnExactNominatedFor': WHATEVER THE INPUT: true; the input reads as it did. -/
def fnExactNominatedForSpec : ChangeSpec := { name := "fnExactNominatedFor", fn := fun _ => fun
  | [d1, d2, d3, d4, d5] => { results := [.lit (.bool true)], args := [d1, d2, d3, d4, d5] }
  | _ => none }
def fnExactNominatedForRow : OpenClaim := { program := "ytiedojolhfglnaa", sum := "1f97a3e9c3eef3a57f50656772774dc7042171484f9ebc6b04da50aa4ed020c1", func := "loop.example/g00852/laws.FnExactNominatedFor", spec := "fnExactNominatedFor", unfollowed := true, recurses := true, apart := false }
def FnExactNominatedForSaid : Prop := fnExactNominatedForRow.holds Try.pinned (OpenSpec.ofChange fnExactNominatedForSpec)

/-- ITS FALSE NEIGHBOUR: 'it returns false'. Refute it at one input. -/
def fnExactNominatedForWrong : ChangeSpec := { name := "fnExactNominatedFor", fn := fun _ => fun
  | [d1, d2, d3, d4, d5] => { results := [.lit (.bool false)], args := [d1, d2, d3, d4, d5] }
  | _ => none }
def FnExactNominatedForWrongFalsely : Prop := fnExactNominatedForRow.holds Try.pinned (OpenSpec.ofChange fnExactNominatedForWrong)

/-- 'laws.FnExactBookedSupplies': WHATEVER THE INPUT: true; the input reads as it did. -/
def fnExactBookedSuppliesSpec : ChangeSpec := { name := "fnExactBookedSupplies", fn := fun _ => fun
  | [d1, d2, d3] => { results := [.lit (.bool true)], args := [d1, d2, d3] }
  | _ => none }
def fnExactBookedSuppliesRow : OpenClaim := { program := "ytiedojolhfglnaa", sum := "1f97a3e9c3eef3a57f50656772774dc7042171484f9ebc6b04da50aa4ed020c1", func := "loop.example/g00852/laws.FnExactBookedSupplies", spec := "fnExactBookedSupplies", unfollowed := true, recurses := true, apart := false }
def FnExactBookedSuppliesSaid : Prop := fnExactBookedSuppliesRow.holds Try.pinned (OpenSpec.ofChange fnExactBookedSuppliesSpec)

/-- ITS FALSE NEIGHBOUR: 'it returns false'. Refute it at one input. -/
def fnExactBookedSuppliesWrong : ChangeSpec := { name := "fnExactBookedSupplies", fn := fun _ => fun
  | [d1, d2, d3] => { results := [.lit (.bool false)], args := [d1, d2, d3] }
  | _ => none }
def FnExactBookedSuppliesWrongFalsely : Prop := fnExactBookedSuppliesRow.holds Try.pinned (OpenSpec.ofChange fnExactBookedSuppliesWrong)

/-- 'laws.FnExactClosestSupplies': WHATEVER THE INPUT: true; the input reads as it did. -/
def fnExactClosestSuppliesSpec : ChangeSpec := { name := "fnExactClosestSupplies", fn := fun _ => fun
  | [d1, d2, d3] => { results := [.lit (.bool true)], args := [d1, d2, d3] }
  | _ => none }
def fnExactClosestSuppliesRow : OpenClaim := { program := "ytiedojolhfglnaa", sum := "1f97a3e9c3eef3a57f50656772774dc7042171484f9ebc6b04da50aa4ed020c1", func := "loop.example/g00852/laws.FnExactClosestSupplies", spec := "fnExactClosestSupplies", unfollowed := true, recurses := true, apart := false }
def FnExactClosestSuppliesSaid : Prop := fnExactClosestSuppliesRow.holds Try.pinned (OpenSpec.ofChange fnExactClosestSuppliesSpec)

/-- ITS FALSE NEIGHBOUR: 'it returns false'. Refute it at one input. -/
def fnExactClosestSuppliesWrong : ChangeSpec := { name := "fnExactClosestSupplies", fn := fun _ => fun
  | [d1, d2, d3] => { results := [.lit (.bool false)], args := [d1, d2, d3] }
  | _ => none }
def FnExactClosestSuppliesWrongFalsely : Prop := fnExactClosestSuppliesRow.holds Try.pinned (OpenSpec.ofChange fnExactClosestSuppliesWrong)

/-- 'laws.FnExactSharePack': WHATEVER THE INPUT: true; the input reads as it did. -/
def fnExactSharePackSpec : ChangeSpec := { name := "fnExactSharePack", fn := fun _ => fun
  | [d1, d2, d3] => { results := [.lit (.bool true)], args := [d1, d2, d3] }
  | _ => none }
def fnExactSharePackRow : OpenClaim := { program := "ytiedojolhfglnaa", sum := "1f97a3e9c3eef3a57f50656772774dc7042171484f9ebc6b04da50aa4ed020c1", func := "loop.example/g00852/laws.FnExactSharePack", spec := "fnExactSharePack", inPlace := ["math.sqrt"], unfollowed := true, recurses := true, apart := false }
def FnExactSharePackSaid : Prop := fnExactSharePackRow.holds Try.pinned (OpenSpec.ofChange fnExactSharePackSpec)

/-- ITS FALSE NEIGHBOUR: 'it returns false'. Refute it at one input. -/
def fnExactSharePackWrong : ChangeSpec := { name := "fnExactSharePack", fn := fun _ => fun
  | [d1, d2, d3] => { results := [.lit (.bool false)], args := [d1, d2, d3] }
  | _ => none }
def FnExactSharePackWrongFalsely : Prop := fnExactSharePackRow.holds Try.pinned (OpenSpec.ofChange fnExactSharePackWrong)

/-- 'laws.FnExactMatchOrders': WHATEVER THE INPUT: true; the input reads as it did. -/
def fnExactMatchOrdersSpec : ChangeSpec := { name := "fnExactMatchOrders", fn := fun _ => fun
  | [d1, d2] => { results := [.lit (.bool true)], args := [d1, d2] }
  | _ => none }
def fnExactMatchOrdersRow : OpenClaim := { program := "ytiedojolhfglnaa", sum := "1f97a3e9c3eef3a57f50656772774dc7042171484f9ebc6b04da50aa4ed020c1", func := "loop.example/g00852/laws.FnExactMatchOrders", spec := "fnExactMatchOrders", unfollowed := true, recurses := true, apart := false }
def FnExactMatchOrdersSaid : Prop := fnExactMatchOrdersRow.holds Try.pinned (OpenSpec.ofChange fnExactMatchOrdersSpec)

/-- ITS FALSE NEIGHBOUR: 'it returns false'. Refute it at one input. -/
def fnExactMatchOrdersWrong : ChangeSpec := { name := "fnExactMatchOrders", fn := fun _ => fun
  | [d1, d2] => { results := [.lit (.bool false)], args := [d1, d2] }
  | _ => none }
def FnExactMatchOrdersWrongFalsely : Prop := fnExactMatchOrdersRow.holds Try.pinned (OpenSpec.ofChange fnExactMatchOrdersWrong)

/-- 'laws.FnExactLostAmounts': WHATEVER THE INPUT: true; the input reads as it did. -/
def fnExactLostAmountsSpec : ChangeSpec := { name := "fnExactLostAmounts", fn := fun _ => fun
  | [d1, d2] => { results := [.lit (.bool true)], args := [d1, d2] }
  | _ => none }
def fnExactLostAmountsRow : OpenClaim := { program := "ytiedojolhfglnaa", sum := "1f97a3e9c3eef3a57f50656772774dc7042171484f9ebc6b04da50aa4ed020c1", func := "loop.example/g00852/laws.FnExactLostAmounts", spec := "fnExactLostAmounts", unfollowed := true, recurses := true, apart := false }
def FnExactLostAmountsSaid : Prop := fnExactLostAmountsRow.holds Try.pinned (OpenSpec.ofChange fnExactLostAmountsSpec)

/-- ITS FALSE NEIGHBOUR: 'it returns false'. Refute it at one input. -/
def fnExactLostAmountsWrong : ChangeSpec := { name := "fnExactLostAmounts", fn := fun _ => fun
  | [d1, d2] => { results := [.lit (.bool false)], args := [d1, d2] }
  | _ => none }
def FnExactLostAmountsWrongFalsely : Prop := fnExactLostAmountsRow.holds Try.pinned (OpenSpec.ofChange fnExactLostAmountsWrong)

/- THE SECOND FORM. 'bulk': how many values and letters a reading holds, each counted each time it is reached (what is shared counts as often as it is met; a slice's spare places count too). A statement '..UptoSaid' is the law's where the arguments, and the package variables that the reading takes, are together of bulk at most 1048576: NARROWER than '..Said'. Prove '..Said' where nothing that the law and all that it calls make is longer than what came in: it says more and counts as full. Else prove '..UptoSaid'. A law counts once. -/
mutual
def uptoBulk {H : Type} : DataW H → Nat
  | .lit (.string bytes) => bytes.length + 1
  | .lit _ => 1
  | .nil => 1
  | .ptr d => uptoBulk d + 1
  | .slice elems spare => uptoBulkAll elems + uptoBulkAll spare + 1
  | .agg parts => uptoBulkAll parts + 1
  | .iface _ d => uptoBulk d + 1
  | .map entries => uptoBulkEntries entries + 1
  | .held _ => 1
def uptoBulkAll {H : Type} : List (DataW H) → Nat
  | [] => 0
  | d :: r => uptoBulk d + uptoBulkAll r
def uptoBulkEntries {H : Type} : List (Lit × DataW H) → Nat
  | [] => 0
  | x :: r => uptoBulkEntry x + uptoBulkEntries r
def uptoBulkEntry {H : Type} : Lit × DataW H → Nat
  | (.string bytes, d) => bytes.length + uptoBulk d + 1
  | (_, d) => uptoBulk d + 1
 end
def uptoSmall : (H : Type) → List (DataW H) → Bool := fun _ ds => decide (uptoBulkAll ds ≤ 1048576)
def OpenSpec.upto (s : _root_.Go.ChangeSpec) : _root_.Go.OpenSpec := { _root_.Go.OpenSpec.ofChange s with cond := some uptoSmall }

/-- 'laws.FnExactFlatLevel', WHERE WHAT IT READS IS OF BULK AT MOST 1048576: true; the input reads as it did. -/
def fnExactFlatLevelUptoRow : OpenClaim := { program := "ytiedojolhfglnaa", sum := "1f97a3e9c3eef3a57f50656772774dc7042171484f9ebc6b04da50aa4ed020c1", func := "loop.example/g00852/laws.FnExactFlatLevel", spec := "fnExactFlatLevel", inPlace := ["math.sqrt"], unfollowed := true, recurses := true, apart := false, narrowed := true }
def FnExactFlatLevelUptoSaid : Prop := fnExactFlatLevelUptoRow.holds Try.pinned (OpenSpec.upto fnExactFlatLevelSpec)

/-- 'laws.FnExactOrderSupplies', WHERE WHAT IT READS IS OF BULK AT MOST 1048576: true; the input reads as it did. -/
def fnExactOrderSuppliesUptoRow : OpenClaim := { program := "ytiedojolhfglnaa", sum := "1f97a3e9c3eef3a57f50656772774dc7042171484f9ebc6b04da50aa4ed020c1", func := "loop.example/g00852/laws.FnExactOrderSupplies", spec := "fnExactOrderSupplies", unfollowed := true, recurses := true, apart := false, narrowed := true }
def FnExactOrderSuppliesUptoSaid : Prop := fnExactOrderSuppliesUptoRow.holds Try.pinned (OpenSpec.upto fnExactOrderSuppliesSpec)

/-- 'laws.FnExactClassTotals', WHERE WHAT IT READS IS OF BULK AT MOST 1048576: true; the input reads as it did. -/
def fnExactClassTotalsUptoRow : OpenClaim := { program := "ytiedojolhfglnaa", sum := "1f97a3e9c3eef3a57f50656772774dc7042171484f9ebc6b04da50aa4ed020c1", func := "loop.example/g00852/laws.FnExactClassTotals", spec := "fnExactClassTotals", unfollowed := true, recurses := true, apart := false, narrowed := true }
def FnExactClassTotalsUptoSaid : Prop := fnExactClassTotalsUptoRow.holds Try.pinned (OpenSpec.upto fnExactClassTotalsSpec)

/-- 'laws.FnExactFirstTrouble', WHERE WHAT IT READS IS OF BULK AT MOST 1048576: true; the input reads as it did. -/
def fnExactFirstTroubleUptoRow : OpenClaim := { program := "ytiedojolhfglnaa", sum := "1f97a3e9c3eef3a57f50656772774dc7042171484f9ebc6b04da50aa4ed020c1", func := "loop.example/g00852/laws.FnExactFirstTrouble", spec := "fnExactFirstTrouble", unfollowed := true, recurses := true, apart := false, narrowed := true }
def FnExactFirstTroubleUptoSaid : Prop := fnExactFirstTroubleUptoRow.holds Try.pinned (OpenSpec.upto fnExactFirstTroubleSpec)

/-- 'laws.FnExactActiveContracts', WHERE WHAT IT READS IS OF BULK AT MOST 1048576: true; the input reads as it did. -/
def fnExactActiveContractsUptoRow : OpenClaim := { program := "ytiedojolhfglnaa", sum := "1f97a3e9c3eef3a57f50656772774dc7042171484f9ebc6b04da50aa4ed020c1", func := "loop.example/g00852/laws.FnExactActiveContracts", spec := "fnExactActiveContracts", unfollowed := true, recurses := true, apart := false, narrowed := true }
def FnExactActiveContractsUptoSaid : Prop := fnExactActiveContractsUptoRow.holds Try.pinned (OpenSpec.upto fnExactActiveContractsSpec)

/-- 'laws.FnExactSteadyHours', WHERE WHAT IT READS IS OF BULK AT MOST 1048576: true; the input reads as it did. -/
def fnExactSteadyHoursUptoRow : OpenClaim := { program := "ytiedojolhfglnaa", sum := "1f97a3e9c3eef3a57f50656772774dc7042171484f9ebc6b04da50aa4ed020c1", func := "loop.example/g00852/laws.FnExactSteadyHours", spec := "fnExactSteadyHours", unfollowed := true, recurses := true, apart := false, narrowed := true }
def FnExactSteadyHoursUptoSaid : Prop := fnExactSteadyHoursUptoRow.holds Try.pinned (OpenSpec.upto fnExactSteadyHoursSpec)

/-- 'laws.FnExactNominatedFor', WHERE WHAT IT READS IS OF BULK AT MOST 1048576: true; the input reads as it did. -/
def fnExactNominatedForUptoRow : OpenClaim := { program := "ytiedojolhfglnaa", sum := "1f97a3e9c3eef3a57f50656772774dc7042171484f9ebc6b04da50aa4ed020c1", func := "loop.example/g00852/laws.FnExactNominatedFor", spec := "fnExactNominatedFor", unfollowed := true, recurses := true, apart := false, narrowed := true }
def FnExactNominatedForUptoSaid : Prop := fnExactNominatedForUptoRow.holds Try.pinned (OpenSpec.upto fnExactNominatedForSpec)

/-- 'laws.FnExactBookedSupplies', WHERE WHAT IT READS IS OF BULK AT MOST 1048576: true; the input reads as it did. -/
def fnExactBookedSuppliesUptoRow : OpenClaim := { program := "ytiedojolhfglnaa", sum := "1f97a3e9c3eef3a57f50656772774dc7042171484f9ebc6b04da50aa4ed020c1", func := "loop.example/g00852/laws.FnExactBookedSupplies", spec := "fnExactBookedSupplies", unfollowed := true, recurses := true, apart := false, narrowed := true }
def FnExactBookedSuppliesUptoSaid : Prop := fnExactBookedSuppliesUptoRow.holds Try.pinned (OpenSpec.upto fnExactBookedSuppliesSpec)

/-- 'laws.FnExactClosestSupplies', WHERE WHAT IT READS IS OF BULK AT MOST 1048576: true; the input reads as it did. -/
def fnExactClosestSuppliesUptoRow : OpenClaim := { program := "ytiedojolhfglnaa", sum := "1f97a3e9c3eef3a57f50656772774dc7042171484f9ebc6b04da50aa4ed020c1", func := "loop.example/g00852/laws.FnExactClosestSupplies", spec := "fnExactClosestSupplies", unfollowed := true, recurses := true, apart := false, narrowed := true }
def FnExactClosestSuppliesUptoSaid : Prop := fnExactClosestSuppliesUptoRow.holds Try.pinned (OpenSpec.upto fnExactClosestSuppliesSpec)

/-- 'laws.FnExactSharePack', WHERE WHAT IT READS IS OF BULK AT MOST 1048576: true; the input reads as it did. -/
def fnExactSharePackUptoRow : OpenClaim := { program := "ytiedojolhfglnaa", sum := "1f97a3e9c3eef3a57f50656772774dc7042171484f9ebc6b04da50aa4ed020c1", func := "loop.example/g00852/laws.FnExactSharePack", spec := "fnExactSharePack", inPlace := ["math.sqrt"], unfollowed := true, recurses := true, apart := false, narrowed := true }
def FnExactSharePackUptoSaid : Prop := fnExactSharePackUptoRow.holds Try.pinned (OpenSpec.upto fnExactSharePackSpec)

/-- 'laws.FnExactMatchOrders', WHERE WHAT IT READS IS OF BULK AT MOST 1048576: true; the input reads as it did. -/
def fnExactMatchOrdersUptoRow : OpenClaim := { program := "ytiedojolhfglnaa", sum := "1f97a3e9c3eef3a57f50656772774dc7042171484f9ebc6b04da50aa4ed020c1", func := "loop.example/g00852/laws.FnExactMatchOrders", spec := "fnExactMatchOrders", unfollowed := true, recurses := true, apart := false, narrowed := true }
def FnExactMatchOrdersUptoSaid : Prop := fnExactMatchOrdersUptoRow.holds Try.pinned (OpenSpec.upto fnExactMatchOrdersSpec)

/-- 'laws.FnExactLostAmounts', WHERE WHAT IT READS IS OF BULK AT MOST 1048576: true; the input reads as it did. -/
def fnExactLostAmountsUptoRow : OpenClaim := { program := "ytiedojolhfglnaa", sum := "1f97a3e9c3eef3a57f50656772774dc7042171484f9ebc6b04da50aa4ed020c1", func := "loop.example/g00852/laws.FnExactLostAmounts", spec := "fnExactLostAmounts", unfollowed := true, recurses := true, apart := false, narrowed := true }
def FnExactLostAmountsUptoSaid : Prop := fnExactLostAmountsUptoRow.holds Try.pinned (OpenSpec.upto fnExactLostAmountsSpec)

end Rows
end Go.Proofs.Ytiedojolhfglnaa
