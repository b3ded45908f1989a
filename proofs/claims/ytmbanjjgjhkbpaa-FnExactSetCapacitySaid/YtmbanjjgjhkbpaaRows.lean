/-
  No cell of these rows narrows 'for every input' (looked for: loops, veiled, ifaces, maps, wideKeys, modest, calm, conditions, laid).
  DERIVED. THE GIVEN ROWS OF THIS SEAT. 12 by the template 'for every input the law returns true; each argument reads behind the call as it read before'; 0 by the template 'total and deterministic' (their statements: YtmbanjjgjhkbpaaTotals.lean).
  GIVEN WITH THE SEED: the statements are not yours to turn. If you find one false, say at which input.
  Laid BY PROGRAM, IN A SANDBOX (cutbox-rows.mjs): the forced cells as the released guide's own fill.sh prints them over the translation c78361fb24cea7dd… (all of the seat's roots in one cut). By AI agents, Wed Nov 11 2026. No macro, syntax, notation, axiom, sorry.
-/
import Derived.Test.YtmbanjjgjhkbpaaChecked
import GoSem.Claim
import GoSem.ClaimJoined
import GoSem.ClaimMapViews
import Derived.JoinedTies
import Derived.KernelRfl
namespace Go.Proofs.Ytmbanjjgjhkbpaa
/- THE CELL 'sum', in the pinned program and in every row, IS THE sha256 OF THE DUMP (.gsa) THAT YtmbanjjgjhkbpaaProg.lean LOADS. Nothing in Lean hashes anything: it is a label: what it is worth is what the hold of that sum in a sandbox is worth. -/
noncomputable def Try.pinned : Pinned := { name := "ytmbanjjgjhkbpaa", sum := "c78361fb24cea7dd1b0ff7f882d8cd5e28ad18db06ceb7505055a15a094d1541", checked := Try.checked }
namespace Rows
def none {H : Type} : Left H := { results := [], args := [] }

/-- 'laws.FnExactIsContract': WHATEVER THE INPUT: true; the input reads as it did. -/
def fnExactIsContractSpec : ChangeSpec := { name := "fnExactIsContract", fn := fun _ => fun
  | [d1, d2] => { results := [.lit (.bool true)], args := [d1, d2] }
  | _ => none }
def fnExactIsContractRow : OpenClaim := { program := "ytmbanjjgjhkbpaa", sum := "c78361fb24cea7dd1b0ff7f882d8cd5e28ad18db06ceb7505055a15a094d1541", func := "loop.example/g00852/laws.FnExactIsContract", spec := "fnExactIsContract", unfollowed := true, recurses := true, apart := false }
def FnExactIsContractSaid : Prop := fnExactIsContractRow.holds Try.pinned (OpenSpec.ofChange fnExactIsContractSpec)

/-- ITS FALSE NEIGHBOUR: 'it returns false'. Refute it at one input. -/
def fnExactIsContractWrong : ChangeSpec := { name := "fnExactIsContract", fn := fun _ => fun
  | [d1, d2] => { results := [.lit (.bool false)], args := [d1, d2] }
  | _ => none }
def FnExactIsContractWrongFalsely : Prop := fnExactIsContractRow.holds Try.pinned (OpenSpec.ofChange fnExactIsContractWrong)

/-- 'laws.FnExactKeepsLimits': WHATEVER THE INPUT: true; the input reads as it did. -/
def fnExactKeepsLimitsSpec : ChangeSpec := { name := "fnExactKeepsLimits", fn := fun _ => fun
  | [d1, d2] => { results := [.lit (.bool true)], args := [d1, d2] }
  | _ => none }
def fnExactKeepsLimitsRow : OpenClaim := { program := "ytmbanjjgjhkbpaa", sum := "c78361fb24cea7dd1b0ff7f882d8cd5e28ad18db06ceb7505055a15a094d1541", func := "loop.example/g00852/laws.FnExactKeepsLimits", spec := "fnExactKeepsLimits", unfollowed := true, recurses := true, apart := false }
def FnExactKeepsLimitsSaid : Prop := fnExactKeepsLimitsRow.holds Try.pinned (OpenSpec.ofChange fnExactKeepsLimitsSpec)

/-- ITS FALSE NEIGHBOUR: 'it returns false'. Refute it at one input. -/
def fnExactKeepsLimitsWrong : ChangeSpec := { name := "fnExactKeepsLimits", fn := fun _ => fun
  | [d1, d2] => { results := [.lit (.bool false)], args := [d1, d2] }
  | _ => none }
def FnExactKeepsLimitsWrongFalsely : Prop := fnExactKeepsLimitsRow.holds Try.pinned (OpenSpec.ofChange fnExactKeepsLimitsWrong)

/-- 'laws.FnExactAreOrders': WHATEVER THE INPUT: true; the input reads as it did. -/
def fnExactAreOrdersSpec : ChangeSpec := { name := "fnExactAreOrders", fn := fun _ => fun
  | [d1, d2] => { results := [.lit (.bool true)], args := [d1, d2] }
  | _ => none }
def fnExactAreOrdersRow : OpenClaim := { program := "ytmbanjjgjhkbpaa", sum := "c78361fb24cea7dd1b0ff7f882d8cd5e28ad18db06ceb7505055a15a094d1541", func := "loop.example/g00852/laws.FnExactAreOrders", spec := "fnExactAreOrders", unfollowed := true, recurses := true, apart := false }
def FnExactAreOrdersSaid : Prop := fnExactAreOrdersRow.holds Try.pinned (OpenSpec.ofChange fnExactAreOrdersSpec)

/-- ITS FALSE NEIGHBOUR: 'it returns false'. Refute it at one input. -/
def fnExactAreOrdersWrong : ChangeSpec := { name := "fnExactAreOrders", fn := fun _ => fun
  | [d1, d2] => { results := [.lit (.bool false)], args := [d1, d2] }
  | _ => none }
def FnExactAreOrdersWrongFalsely : Prop := fnExactAreOrdersRow.holds Try.pinned (OpenSpec.ofChange fnExactAreOrdersWrong)

/-- 'laws.FnExactIsBuffers': WHATEVER THE INPUT: true; the input reads as it did. -/
def fnExactIsBuffersSpec : ChangeSpec := { name := "fnExactIsBuffers", fn := fun _ => fun
  | [d1, d2] => { results := [.lit (.bool true)], args := [d1, d2] }
  | _ => none }
def fnExactIsBuffersRow : OpenClaim := { program := "ytmbanjjgjhkbpaa", sum := "c78361fb24cea7dd1b0ff7f882d8cd5e28ad18db06ceb7505055a15a094d1541", func := "loop.example/g00852/laws.FnExactIsBuffers", spec := "fnExactIsBuffers", unfollowed := true, recurses := true, apart := false }
def FnExactIsBuffersSaid : Prop := fnExactIsBuffersRow.holds Try.pinned (OpenSpec.ofChange fnExactIsBuffersSpec)

/-- ITS FALSE NEIGHBOUR: 'it returns false'. Refute it at one input. -/
def fnExactIsBuffersWrong : ChangeSpec := { name := "fnExactIsBuffers", fn := fun _ => fun
  | [d1, d2] => { results := [.lit (.bool false)], args := [d1, d2] }
  | _ => none }
def FnExactIsBuffersWrongFalsely : Prop := fnExactIsBuffersRow.holds Try.pinned (OpenSpec.ofChange fnExactIsBuffersWrong)

/-- 'laws.FnExactSetCapacity': WHATEVER THE INPUT: true; the input reads as it did. -/
def fnExactSetCapacitySpec : ChangeSpec := { name := "fnExactSetCapacity", fn := fun _ => fun
  | [d1, d2] => { results := [.lit (.bool true)], args := [d1, d2] }
  | _ => none }
def fnExactSetCapacityRow : OpenClaim := { program := "ytmbanjjgjhkbpaa", sum := "c78361fb24cea7dd1b0ff7f882d8cd5e28ad18db06ceb7505055a15a094d1541", func := "loop.example/g00852/laws.FnExactSetCapacity", spec := "fnExactSetCapacity", unfollowed := true, recurses := true, apart := false }
def FnExactSetCapacitySaid : Prop := fnExactSetCapacityRow.holds Try.pinned (OpenSpec.ofChange fnExactSetCapacitySpec)

/-- ITS FALSE NEIGHBOUR: 'it returns false'. Refute it at one input. -/
def fnExactSetCapacityWrong : ChangeSpec := { name := "fnExactSetCapacity", fn := fun _ => fun
  | [d1, d2] => { results := [.lit (.bool false)], args := [d1, d2] }
  | _ => none }
def FnExactSetCapacityWrongFalsely : Prop := fnExactSetCapacityRow.holds Try.pinned (OpenSpec.ofChange fnExactSetCapacityWrong)

/-- 'laws.FnExactIsBook': WHATEVER THE INPUT: true; the input reads as it did. -/
def fnExactIsBookSpec : ChangeSpec := { name := "fnExactIsBook", fn := fun _ => fun
  | [d1, d2] => { results := [.lit (.bool true)], args := [d1, d2] }
  | _ => none }
def fnExactIsBookRow : OpenClaim := { program := "ytmbanjjgjhkbpaa", sum := "c78361fb24cea7dd1b0ff7f882d8cd5e28ad18db06ceb7505055a15a094d1541", func := "loop.example/g00852/laws.FnExactIsBook", spec := "fnExactIsBook", unfollowed := true, recurses := true, apart := false }
def FnExactIsBookSaid : Prop := fnExactIsBookRow.holds Try.pinned (OpenSpec.ofChange fnExactIsBookSpec)

/-- ITS FALSE NEIGHBOUR: 'it returns false'. Refute it at one input. -/
def fnExactIsBookWrong : ChangeSpec := { name := "fnExactIsBook", fn := fun _ => fun
  | [d1, d2] => { results := [.lit (.bool false)], args := [d1, d2] }
  | _ => none }
def FnExactIsBookWrongFalsely : Prop := fnExactIsBookRow.holds Try.pinned (OpenSpec.ofChange fnExactIsBookWrong)

/-- 'laws.FnExactTotalsOf': WHATEVER THE INPUT: true; the input reads as it did. -/
def fnExactTotalsOfSpec : ChangeSpec := { name := "fnExactTotalsOf", fn := fun _ => fun
  | [d1, d2, d3] => { results := [.lit (.bool true)], args := [d1, d2, d3] }
  | _ => none }
def fnExactTotalsOfRow : OpenClaim := { program := "ytmbanjjgjhkbpaa", sum := "c78361fb24cea7dd1b0ff7f882d8cd5e28ad18db06ceb7505055a15a094d1541", func := "loop.example/g00852/laws.FnExactTotalsOf", spec := "fnExactTotalsOf", unfollowed := true, recurses := true, apart := false }
def FnExactTotalsOfSaid : Prop := fnExactTotalsOfRow.holds Try.pinned (OpenSpec.ofChange fnExactTotalsOfSpec)

/-- ITS FALSE NEIGHBOUR: 'it returns false'. Refute it at one input. -/
def fnExactTotalsOfWrong : ChangeSpec := { name := "fnExactTotalsOf", fn := fun _ => fun
  | [d1, d2, d3] => { results := [.lit (.bool false)], args := [d1, d2, d3] }
  | _ => none }
def FnExactTotalsOfWrongFalsely : Prop := fnExactTotalsOfRow.holds Try.pinned (OpenSpec.ofChange fnExactTotalsOfWrong)

/-- 'laws.FnExactIsNomination': WHATEVER THE INPUT: true; the input reads as it did. -/
def fnExactIsNominationSpec : ChangeSpec := { name := "fnExactIsNomination", fn := fun _ => fun
  | [d1, d2, d3] => { results := [.lit (.bool true)], args := [d1, d2, d3] }
  | _ => none }
def fnExactIsNominationRow : OpenClaim := { program := "ytmbanjjgjhkbpaa", sum := "c78361fb24cea7dd1b0ff7f882d8cd5e28ad18db06ceb7505055a15a094d1541", func := "loop.example/g00852/laws.FnExactIsNomination", spec := "fnExactIsNomination", unfollowed := true, recurses := true, apart := false }
def FnExactIsNominationSaid : Prop := fnExactIsNominationRow.holds Try.pinned (OpenSpec.ofChange fnExactIsNominationSpec)

/-- ITS FALSE NEIGHBOUR: 'it returns false'. Refute it at one input. -/
def fnExactIsNominationWrong : ChangeSpec := { name := "fnExactIsNomination", fn := fun _ => fun
  | [d1, d2, d3] => { results := [.lit (.bool false)], args := [d1, d2, d3] }
  | _ => none }
def FnExactIsNominationWrongFalsely : Prop := fnExactIsNominationRow.holds Try.pinned (OpenSpec.ofChange fnExactIsNominationWrong)

/-- 'laws.FnExactPackBounds': WHATEVER THE INPUT: true; the input reads as it did. -/
def fnExactPackBoundsSpec : ChangeSpec := { name := "fnExactPackBounds", fn := fun _ => fun
  | [d] => { results := [.lit (.bool true)], args := [d] }
  | _ => none }
def fnExactPackBoundsRow : OpenClaim := { program := "ytmbanjjgjhkbpaa", sum := "c78361fb24cea7dd1b0ff7f882d8cd5e28ad18db06ceb7505055a15a094d1541", func := "loop.example/g00852/laws.FnExactPackBounds", spec := "fnExactPackBounds", inPlace := ["math.sqrt"], unfollowed := true, recurses := true, apart := false }
def FnExactPackBoundsSaid : Prop := fnExactPackBoundsRow.holds Try.pinned (OpenSpec.ofChange fnExactPackBoundsSpec)

/-- ITS FALSE NEIGHBOUR: 'it returns false'. Refute it at one input. -/
def fnExactPackBoundsWrong : ChangeSpec := { name := "fnExactPackBounds", fn := fun _ => fun
  | [d] => { results := [.lit (.bool false)], args := [d] }
  | _ => none }
def FnExactPackBoundsWrongFalsely : Prop := fnExactPackBoundsRow.holds Try.pinned (OpenSpec.ofChange fnExactPackBoundsWrong)

/-- 'laws.FnExactIsMatched': WHATEVER THE INPUT: true; the input reads as it did. -/
def fnExactIsMatchedSpec : ChangeSpec := { name := "fnExactIsMatched", fn := fun _ => fun
  | [d1, d2] => { results := [.lit (.bool true)], args := [d1, d2] }
  | _ => none }
def fnExactIsMatchedRow : OpenClaim := { program := "ytmbanjjgjhkbpaa", sum := "c78361fb24cea7dd1b0ff7f882d8cd5e28ad18db06ceb7505055a15a094d1541", func := "loop.example/g00852/laws.FnExactIsMatched", spec := "fnExactIsMatched", unfollowed := true, recurses := true, apart := false }
def FnExactIsMatchedSaid : Prop := fnExactIsMatchedRow.holds Try.pinned (OpenSpec.ofChange fnExactIsMatchedSpec)

/-- ITS FALSE NEIGHBOUR: 'it returns false'. Refute it at one input. -/
def fnExactIsMatchedWrong : ChangeSpec := { name := "fnExactIsMatched", fn := fun _ => fun
  | [d1, d2] => { results := [.lit (.bool false)], args := [d1, d2] }
  | _ => none }
def FnExactIsMatchedWrongFalsely : Prop := fnExactIsMatchedRow.holds Try.pinned (OpenSpec.ofChange fnExactIsMatchedWrong)

/-- 'laws.FnExactContentOf': WHATEVER THE INPUT: true; the input reads as it did. -/
def fnExactContentOfSpec : ChangeSpec := { name := "fnExactContentOf", fn := fun _ => fun
  | [d1, d2] => { results := [.lit (.bool true)], args := [d1, d2] }
  | _ => none }
def fnExactContentOfRow : OpenClaim := { program := "ytmbanjjgjhkbpaa", sum := "c78361fb24cea7dd1b0ff7f882d8cd5e28ad18db06ceb7505055a15a094d1541", func := "loop.example/g00852/laws.FnExactContentOf", spec := "fnExactContentOf", unfollowed := true, recurses := true, apart := false }
def FnExactContentOfSaid : Prop := fnExactContentOfRow.holds Try.pinned (OpenSpec.ofChange fnExactContentOfSpec)

/-- ITS FALSE NEIGHBOUR: 'it returns false'. Refute it at one input. -/
def fnExactContentOfWrong : ChangeSpec := { name := "fnExactContentOf", fn := fun _ => fun
  | [d1, d2] => { results := [.lit (.bool false)], args := [d1, d2] }
  | _ => none }
def FnExactContentOfWrongFalsely : Prop := fnExactContentOfRow.holds Try.pinned (OpenSpec.ofChange fnExactContentOfWrong)

/-- 'laws.FnExactRentOf': WHATEVER THE INPUT: true; the input reads as it did. -/
def fnExactRentOfSpec : ChangeSpec := { name := "fnExactRentOf", fn := fun _ => fun
  | [d1, d2, d3] => { results := [.lit (.bool true)], args := [d1, d2, d3] }
  | _ => none }
def fnExactRentOfRow : OpenClaim := { program := "ytmbanjjgjhkbpaa", sum := "c78361fb24cea7dd1b0ff7f882d8cd5e28ad18db06ceb7505055a15a094d1541", func := "loop.example/g00852/laws.FnExactRentOf", spec := "fnExactRentOf", unfollowed := true, recurses := true, apart := false }
def FnExactRentOfSaid : Prop := fnExactRentOfRow.holds Try.pinned (OpenSpec.ofChange fnExactRentOfSpec)

/-- ITS FALSE NEIGHBOUR: 'it returns false'. Refute it at one input. -/
def fnExactRentOfWrong : ChangeSpec := { name := "fnExactRentOf", fn := fun _ => fun
  | [d1, d2, d3] => { results := [.lit (.bool false)], args := [d1, d2, d3] }
  | _ => none }
def FnExactRentOfWrongFalsely : Prop := fnExactRentOfRow.holds Try.pinned (OpenSpec.ofChange fnExactRentOfWrong)

/- THE SECOND FORM. 'bulk': how many values and letters a reading holds, each counted each time it is reached (what is shared counts as often as it is met; a slice's spare places count too). A statement '..UptoSaid' is the law's where the arguments, and the package variables that the reading takes, are together of bulk at most 1048576: NARROWER than '..Said'. Prove '..Said' where nothing that the law and all that it calls make is longer than what came in: it says more and counts as full. Else prove '..UptoSaid'. A law counts once. -/
mutual
def uptoBulk {H : Type} : DataW H → Nat
  | .lit (.string bytes) => bytes.length + 1
  | .lit _ => 1
  | .nil => 1
  | .ptr d => uptoBulk d + 1
  | .slice elems spare => uptoBulkAll elems + uptoBulkAll spare + 1
  | .agg parts => uptoBulkAll parts + 1
  | .iface _ d => uptoBulk d + 1
  | .map entries => uptoBulkEntries entries + 1
  | .held _ => 1
def uptoBulkAll {H : Type} : List (DataW H) → Nat
  | [] => 0
  | d :: r => uptoBulk d + uptoBulkAll r
def uptoBulkEntries {H : Type} : List (Lit × DataW H) → Nat
  | [] => 0
  | x :: r => uptoBulkEntry x + uptoBulkEntries r
def uptoBulkEntry {H : Type} : Lit × DataW H → Nat
  | (.string bytes, d) => bytes.length + uptoBulk d + 1
  | (_, d) => uptoBulk d + 1
 end
def uptoSmall : (H : Type) → List (DataW H) → Bool := fun _ ds => decide (uptoBulkAll ds ≤ 1048576)
def OpenSpec.upto (s : _root_.Go.ChangeSpec) : _root_.Go.OpenSpec := { _root_.Go.OpenSpec.ofChange s with cond := some uptoSmall }

/-- 'laws.FnExactIsContract', WHERE WHAT IT READS IS OF BULK AT MOST 1048576: true; the input reads as it did. -/
def fnExactIsContractUptoRow : OpenClaim := { program := "ytmbanjjgjhkbpaa", sum := "c78361fb24cea7dd1b0ff7f882d8cd5e28ad18db06ceb7505055a15a094d1541", func := "loop.example/g00852/laws.FnExactIsContract", spec := "fnExactIsContract", unfollowed := true, recurses := true, apart := false, narrowed := true }
def FnExactIsContractUptoSaid : Prop := fnExactIsContractUptoRow.holds Try.pinned (OpenSpec.upto fnExactIsContractSpec)

/-- 'laws.FnExactKeepsLimits', WHERE WHAT IT READS IS OF BULK AT MOST 1048576: true; the input reads as it did. -/
def fnExactKeepsLimitsUptoRow : OpenClaim := { program := "ytmbanjjgjhkbpaa", sum := "c78361fb24cea7dd1b0ff7f882d8cd5e28ad18db06ceb7505055a15a094d1541", func := "loop.example/g00852/laws.FnExactKeepsLimits", spec := "fnExactKeepsLimits", unfollowed := true, recurses := true, apart := false, narrowed := true }
def FnExactKeepsLimitsUptoSaid : Prop := fnExactKeepsLimitsUptoRow.holds Try.pinned (OpenSpec.upto fnExactKeepsLimitsSpec)

/-- 'laws.FnExactAreOrders', WHERE WHAT IT READS IS OF BULK AT MOST 1048576: true; the input reads as it did. -/
def fnExactAreOrdersUptoRow : OpenClaim := { program := "ytmbanjjgjhkbpaa", sum := "c78361fb24cea7dd1b0ff7f882d8cd5e28ad18db06ceb7505055a15a094d1541", func := "loop.example/g00852/laws.FnExactAreOrders", spec := "fnExactAreOrders", unfollowed := true, recurses := true, apart := false, narrowed := true }
def FnExactAreOrdersUptoSaid : Prop := fnExactAreOrdersUptoRow.holds Try.pinned (OpenSpec.upto fnExactAreOrdersSpec)

/-- 'laws.FnExactIsBuffers', WHERE WHAT IT READS IS OF BULK AT MOST 1048576: true; the input reads as it did. -/
def fnExactIsBuffersUptoRow : OpenClaim := { program := "ytmbanjjgjhkbpaa", sum := "c78361fb24cea7dd1b0ff7f882d8cd5e28ad18db06ceb7505055a15a094d1541", func := "loop.example/g00852/laws.FnExactIsBuffers", spec := "fnExactIsBuffers", unfollowed := true, recurses := true, apart := false, narrowed := true }
def FnExactIsBuffersUptoSaid : Prop := fnExactIsBuffersUptoRow.holds Try.pinned (OpenSpec.upto fnExactIsBuffersSpec)

/-- 'laws.FnExactSetCapacity', WHERE WHAT IT READS IS OF BULK AT MOST 1048576: true; the input reads as it did. -/
def fnExactSetCapacityUptoRow : OpenClaim := { program := "ytmbanjjgjhkbpaa", sum := "c78361fb24cea7dd1b0ff7f882d8cd5e28ad18db06ceb7505055a15a094d1541", func := "loop.example/g00852/laws.FnExactSetCapacity", spec := "fnExactSetCapacity", unfollowed := true, recurses := true, apart := false, narrowed := true }
def FnExactSetCapacityUptoSaid : Prop := fnExactSetCapacityUptoRow.holds Try.pinned (OpenSpec.upto fnExactSetCapacitySpec)

/-- 'laws.FnExactIsBook', WHERE WHAT IT READS IS OF BULK AT MOST 1048576: true; the input reads as it did. -/
def fnExactIsBookUptoRow : OpenClaim := { program := "ytmbanjjgjhkbpaa", sum := "c78361fb24cea7dd1b0ff7f882d8cd5e28ad18db06ceb7505055a15a094d1541", func := "loop.example/g00852/laws.FnExactIsBook", spec := "fnExactIsBook", unfollowed := true, recurses := true, apart := false, narrowed := true }
def FnExactIsBookUptoSaid : Prop := fnExactIsBookUptoRow.holds Try.pinned (OpenSpec.upto fnExactIsBookSpec)

/-- 'laws.FnExactTotalsOf', WHERE WHAT IT READS IS OF BULK AT MOST 1048576: true; the input reads as it did. -/
def fnExactTotalsOfUptoRow : OpenClaim := { program := "ytmbanjjgjhkbpaa", sum := "c78361fb24cea7dd1b0ff7f882d8cd5e28ad18db06ceb7505055a15a094d1541", func := "loop.example/g00852/laws.FnExactTotalsOf", spec := "fnExactTotalsOf", unfollowed := true, recurses := true, apart := false, narrowed := true }
def FnExactTotalsOfUptoSaid : Prop := fnExactTotalsOfUptoRow.holds Try.pinned (OpenSpec.upto fnExactTotalsOfSpec)

/-- 'laws.FnExactIsNomination', WHERE WHAT IT READS IS OF BULK AT MOST 1048576: true; the input reads as it did. -/
def fnExactIsNominationUptoRow : OpenClaim := { program := "ytmbanjjgjhkbpaa", sum := "c78361fb24cea7dd1b0ff7f882d8cd5e28ad18db06ceb7505055a15a094d1541", func := "loop.example/g00852/laws.FnExactIsNomination", spec := "fnExactIsNomination", unfollowed := true, recurses := true, apart := false, narrowed := true }
def FnExactIsNominationUptoSaid : Prop := fnExactIsNominationUptoRow.holds Try.pinned (OpenSpec.upto fnExactIsNominationSpec)

/-- 'laws.FnExactPackBounds', WHERE WHAT IT READS IS OF BULK AT MOST 1048576: true; the input reads as it did. -/
def fnExactPackBoundsUptoRow : OpenClaim := { program := "ytmbanjjgjhkbpaa", sum := "c78361fb24cea7dd1b0ff7f882d8cd5e28ad18db06ceb7505055a15a094d1541", func := "loop.example/g00852/laws.FnExactPackBounds", spec := "fnExactPackBounds", inPlace := ["math.sqrt"], unfollowed := true, recurses := true, apart := false, narrowed := true }
def FnExactPackBoundsUptoSaid : Prop := fnExactPackBoundsUptoRow.holds Try.pinned (OpenSpec.upto fnExactPackBoundsSpec)

/-- 'laws.FnExactIsMatched', WHERE WHAT IT READS IS OF BULK AT MOST 1048576: true; the input reads as it did. -/
def fnExactIsMatchedUptoRow : OpenClaim := { program := "ytmbanjjgjhkbpaa", sum := "c78361fb24cea7dd1b0ff7f882d8cd5e28ad18db06ceb7505055a15a094d1541", func := "loop.example/g00852/laws.FnExactIsMatched", spec := "fnExactIsMatched", unfollowed := true, recurses := true, apart := false, narrowed := true }
def FnExactIsMatchedUptoSaid : Prop := fnExactIsMatchedUptoRow.holds Try.pinned (OpenSpec.upto fnExactIsMatchedSpec)

/-- 'laws.FnExactContentOf', WHERE WHAT IT READS IS OF BULK AT MOST 1048576: true; the input reads as it did. -/
def fnExactContentOfUptoRow : OpenClaim := { program := "ytmbanjjgjhkbpaa", sum := "c78361fb24cea7dd1b0ff7f882d8cd5e28ad18db06ceb7505055a15a094d1541", func := "loop.example/g00852/laws.FnExactContentOf", spec := "fnExactContentOf", unfollowed := true, recurses := true, apart := false, narrowed := true }
def FnExactContentOfUptoSaid : Prop := fnExactContentOfUptoRow.holds Try.pinned (OpenSpec.upto fnExactContentOfSpec)

/-- 'laws.FnExactRentOf', WHERE WHAT IT READS IS OF BULK AT MOST 1048576: true; the input reads as it did. -/
def fnExactRentOfUptoRow : OpenClaim := { program := "ytmbanjjgjhkbpaa", sum := "c78361fb24cea7dd1b0ff7f882d8cd5e28ad18db06ceb7505055a15a094d1541", func := "loop.example/g00852/laws.FnExactRentOf", spec := "fnExactRentOf", unfollowed := true, recurses := true, apart := false, narrowed := true }
def FnExactRentOfUptoSaid : Prop := fnExactRentOfUptoRow.holds Try.pinned (OpenSpec.upto fnExactRentOfSpec)

end Rows
end Go.Proofs.Ytmbanjjgjhkbpaa
