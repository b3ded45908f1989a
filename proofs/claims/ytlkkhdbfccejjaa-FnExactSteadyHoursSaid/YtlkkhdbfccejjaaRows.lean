/-
  No cell of these rows narrows 'for every input' (looked for: loops, veiled, ifaces, maps, wideKeys, modest, calm, conditions, laid).
  DERIVED. THE GIVEN ROWS OF THIS SEAT. 12 by the template 'for every input the law returns true; each argument reads behind the call as it read before'; 0 by the template 'total and deterministic' (their statements: YtlkkhdbfccejjaaTotals.lean).
  GIVEN WITH THE SEED: the statements are not yours to turn. If you find one false, say at which input.
  Laid BY PROGRAM, IN A SANDBOX (cutbox-rows.mjs): the forced cells as the released guide's own fill.sh prints them over the translation 4480ba61cfdee9ae… (all of the seat's roots in one cut). By AI agents, Wed Nov 11 2026. No macro, syntax, notation, axiom, sorry.
-/
import Derived.Test.YtlkkhdbfccejjaaChecked
import GoSem.Claim
import GoSem.ClaimJoined
import GoSem.ClaimMapViews
import Derived.JoinedTies
import Derived.KernelRfl
namespace Go.Proofs.Ytlkkhdbfccejjaa
/- THE CELL 'sum', in the pinned program and in every row, IS THE sha256 OF THE DUMP (.gsa) THAT YtlkkhdbfccejjaaProg.lean LOADS. Nothing in Lean hashes anything: it is a label: what it is worth is what the hold of that sum in a sandbox is worth. -/
noncomputable def Try.pinned : Pinned := { name := "ytlkkhdbfccejjaa", sum := "4480ba61cfdee9aeadf7f4b546e4b3b1454359e2e6dfe441ddd592886a8dece6", checked := Try.checked }
namespace Rows
def none {H : Type} : Left H := { results := [], args := [] }

/-- 'laws.FnExactFlatLevel': WHATEVER THE INPUT: true; the input reads as it did. -/
def fnExactFlatLevelSpec : ChangeSpec := { name := "fnExactFlatLevel", fn := fun _ => fun
  | [d1, d2] => { results := [.lit (.bool true)], args := [d1, d2] }
  | _ => none }
def fnExactFlatLevelRow : OpenClaim := { program := "ytlkkhdbfccejjaa", sum := "4480ba61cfdee9aeadf7f4b546e4b3b1454359e2e6dfe441ddd592886a8dece6", func := "loop.example/g00852/laws.FnExactFlatLevel", spec := "fnExactFlatLevel", inPlace := ["math.sqrt"], unfollowed := true, recurses := true, apart := false }
def FnExactFlatLevelSaid : Prop := fnExactFlatLevelRow.holds Try.pinned (OpenSpec.ofChange fnExactFlatLevelSpec)

/-- ITS FALSE NEIGHBOUR: 'it returns false'. Refute it at one input. -/
def fnExactFlatLevelWrong : ChangeSpec := { name := "fnExactFlatLevel", fn := fun _ => fun
  | [d1, d2] => { results := [.lit (.bool false)], args := [d1, d2] }
  | _ => none }
def FnExactFlatLevelWrongFalsely : Prop := fnExactFlatLevelRow.holds Try.pinned (OpenSpec.ofChange fnExactFlatLevelWrong)

/-- 'laws.FnExactSteadyHours': WHATEVER THE INPUT: true; the input reads as it did. -/
def fnExactSteadyHoursSpec : ChangeSpec := { name := "fnExactSteadyHours", fn := fun _ => fun
  | [d1, d2, d3] => { results := [.lit (.bool true)], args := [d1, d2, d3] }
  | _ => none }
def fnExactSteadyHoursRow : OpenClaim := { program := "ytlkkhdbfccejjaa", sum := "4480ba61cfdee9aeadf7f4b546e4b3b1454359e2e6dfe441ddd592886a8dece6", func := "loop.example/g00852/laws.FnExactSteadyHours", spec := "fnExactSteadyHours", unfollowed := true, recurses := true, apart := false }
def FnExactSteadyHoursSaid : Prop := fnExactSteadyHoursRow.holds Try.pinned (OpenSpec.ofChange fnExactSteadyHoursSpec)

/-- ITS FALSE NEIGHBOUR: 'it returns false'. Refute it at one input. -/
def fnExactSteadyHoursWrong : ChangeSpec := { name := "fnExactSteadyHours", fn := fun _ => fun
  | [d1, d2, d3] => { results := [.lit (.bool false)], args := [d1, d2, d3] }
  | _ => none }
def FnExactSteadyHoursWrongFalsely : Prop := fnExactSteadyHoursRow.holds Try.pinned (OpenSpec.ofChange fnExactSteadyHoursWrong)

/-- 'laws.FnExactSharePack': WHATEVER THE INPUT: true; the input reads as it did. -/
def fnExactSharePackSpec : ChangeSpec := { name := "fnExactSharePack", fn := fun _ => fun
  | [d1, d2, d3] => { results := [.lit (.bool true)], args := [d1, d2, d3] }
  | _ => none }
def fnExactSharePackRow : OpenClaim := { program := "ytlkkhdbfccejjaa", sum := "4480ba61cfdee9aeadf7f4b546e4b3b1454359e2e6dfe441ddd592886a8dece6", func := "loop.example/g00852/laws.FnExactSharePack", spec := "fnExactSharePack", inPlace := ["math.sqrt"], unfollowed := true, recurses := true, apart := false }
def FnExactSharePackSaid : Prop := fnExactSharePackRow.holds Try.pinned (OpenSpec.ofChange fnExactSharePackSpec)

/-- ITS FALSE NEIGHBOUR: 'it returns false'. Refute it at one input. -/
def fnExactSharePackWrong : ChangeSpec := { name := "fnExactSharePack", fn := fun _ => fun
  | [d1, d2, d3] => { results := [.lit (.bool false)], args := [d1, d2, d3] }
  | _ => none }
def FnExactSharePackWrongFalsely : Prop := fnExactSharePackRow.holds Try.pinned (OpenSpec.ofChange fnExactSharePackWrong)

/-- 'laws.FnExactMatchOrders': WHATEVER THE INPUT: true; the input reads as it did. -/
def fnExactMatchOrdersSpec : ChangeSpec := { name := "fnExactMatchOrders", fn := fun _ => fun
  | [d1, d2] => { results := [.lit (.bool true)], args := [d1, d2] }
  | _ => none }
def fnExactMatchOrdersRow : OpenClaim := { program := "ytlkkhdbfccejjaa", sum := "4480ba61cfdee9aeadf7f4b546e4b3b1454359e2e6dfe441ddd592886a8dece6", func := "loop.example/g00852/laws.FnExactMatchOrders", spec := "fnExactMatchOrders", unfollowed := true, recurses := true, apart := false }
def FnExactMatchOrdersSaid : Prop := fnExactMatchOrdersRow.holds Try.pinned (OpenSpec.ofChange fnExactMatchOrdersSpec)

/-- ITS FALSE NEIGHBOUR: 'it returns false'. Refute it at one input. -/
def fnExactMatchOrdersWrong : ChangeSpec := { name := "fnExactMatchOrders", fn := fun _ => fun
  | [d1, d2] => { results := [.lit (.bool false)], args := [d1, d2] }
  | _ => none }
def FnExactMatchOrdersWrongFalsely : Prop := fnExactMatchOrdersRow.holds Try.pinned (OpenSpec.ofChange fnExactMatchOrdersWrong)

/-- 'laws.FnExactLostAmounts': WHATEVER THE INPUT: true; the input reads as it did. -/
def fnExactLostAmountsSpec : ChangeSpec := { name := "fnExactLostAmounts", fn := fun _ => fun
  | [d1, d2] => { results := [.lit (.bool true)], args := [d1, d2] }
  | _ => none }
def fnExactLostAmountsRow : OpenClaim := { program := "ytlkkhdbfccejjaa", sum := "4480ba61cfdee9aeadf7f4b546e4b3b1454359e2e6dfe441ddd592886a8dece6", func := "loop.example/g00852/laws.FnExactLostAmounts", spec := "fnExactLostAmounts", unfollowed := true, recurses := true, apart := false }
def FnExactLostAmountsSaid : Prop := fnExactLostAmountsRow.holds Try.pinned (OpenSpec.ofChange fnExactLostAmountsSpec)

/-- ITS FALSE NEIGHBOUR: 'it returns false'. Refute it at one input. -/
def fnExactLostAmountsWrong : ChangeSpec := { name := "fnExactLostAmounts", fn := fun _ => fun
  | [d1, d2] => { results := [.lit (.bool false)], args := [d1, d2] }
  | _ => none }
def FnExactLostAmountsWrongFalsely : Prop := fnExactLostAmountsRow.holds Try.pinned (OpenSpec.ofChange fnExactLostAmountsWrong)

/-- 'laws.FnExactAcceptNomination': WHATEVER THE INPUT: true; the input reads as it did. -/
def fnExactAcceptNominationSpec : ChangeSpec := { name := "fnExactAcceptNomination", fn := fun _ => fun
  | [d1, d2, d3, d4] => { results := [.lit (.bool true)], args := [d1, d2, d3, d4] }
  | _ => none }
def fnExactAcceptNominationRow : OpenClaim := { program := "ytlkkhdbfccejjaa", sum := "4480ba61cfdee9aeadf7f4b546e4b3b1454359e2e6dfe441ddd592886a8dece6", func := "loop.example/g00852/laws.FnExactAcceptNomination", spec := "fnExactAcceptNomination", unfollowed := true, recurses := true, apart := false }
def FnExactAcceptNominationSaid : Prop := fnExactAcceptNominationRow.holds Try.pinned (OpenSpec.ofChange fnExactAcceptNominationSpec)

/-- ITS FALSE NEIGHBOUR: 'it returns false'. Refute it at one input. -/
def fnExactAcceptNominationWrong : ChangeSpec := { name := "fnExactAcceptNomination", fn := fun _ => fun
  | [d1, d2, d3, d4] => { results := [.lit (.bool false)], args := [d1, d2, d3, d4] }
  | _ => none }
def FnExactAcceptNominationWrongFalsely : Prop := fnExactAcceptNominationRow.holds Try.pinned (OpenSpec.ofChange fnExactAcceptNominationWrong)

/-- 'laws.FnExactStepHour': WHATEVER THE INPUT: true; the input reads as it did. -/
def fnExactStepHourSpec : ChangeSpec := { name := "fnExactStepHour", fn := fun _ => fun
  | [d1, d2, d3] => { results := [.lit (.bool true)], args := [d1, d2, d3] }
  | _ => none }
def fnExactStepHourRow : OpenClaim := { program := "ytlkkhdbfccejjaa", sum := "4480ba61cfdee9aeadf7f4b546e4b3b1454359e2e6dfe441ddd592886a8dece6", func := "loop.example/g00852/laws.FnExactStepHour", spec := "fnExactStepHour", unfollowed := true, recurses := true, apart := false }
def FnExactStepHourSaid : Prop := fnExactStepHourRow.holds Try.pinned (OpenSpec.ofChange fnExactStepHourSpec)

/-- ITS FALSE NEIGHBOUR: 'it returns false'. Refute it at one input. -/
def fnExactStepHourWrong : ChangeSpec := { name := "fnExactStepHour", fn := fun _ => fun
  | [d1, d2, d3] => { results := [.lit (.bool false)], args := [d1, d2, d3] }
  | _ => none }
def FnExactStepHourWrongFalsely : Prop := fnExactStepHourRow.holds Try.pinned (OpenSpec.ofChange fnExactStepHourWrong)

/-- 'laws.FnExactRunHours': WHATEVER THE INPUT: true; the input reads as it did. -/
def fnExactRunHoursSpec : ChangeSpec := { name := "fnExactRunHours", fn := fun _ => fun
  | [d1, d2, d3] => { results := [.lit (.bool true)], args := [d1, d2, d3] }
  | _ => none }
def fnExactRunHoursRow : OpenClaim := { program := "ytlkkhdbfccejjaa", sum := "4480ba61cfdee9aeadf7f4b546e4b3b1454359e2e6dfe441ddd592886a8dece6", func := "loop.example/g00852/laws.FnExactRunHours", spec := "fnExactRunHours", unfollowed := true, recurses := true, apart := false }
def FnExactRunHoursSaid : Prop := fnExactRunHoursRow.holds Try.pinned (OpenSpec.ofChange fnExactRunHoursSpec)

/-- ITS FALSE NEIGHBOUR: 'it returns false'. Refute it at one input. -/
def fnExactRunHoursWrong : ChangeSpec := { name := "fnExactRunHours", fn := fun _ => fun
  | [d1, d2, d3] => { results := [.lit (.bool false)], args := [d1, d2, d3] }
  | _ => none }
def FnExactRunHoursWrongFalsely : Prop := fnExactRunHoursRow.holds Try.pinned (OpenSpec.ofChange fnExactRunHoursWrong)

/-- 'laws.FnStores': WHATEVER THE INPUT: true; the input reads as it did. -/
def fnStoresSpec : ChangeSpec := { name := "fnStores", fn := fun _ => fun
  | [d] => { results := [.lit (.bool true)], args := [d] }
  | _ => none }
def fnStoresRow : OpenClaim := { program := "ytlkkhdbfccejjaa", sum := "4480ba61cfdee9aeadf7f4b546e4b3b1454359e2e6dfe441ddd592886a8dece6", func := "loop.example/g00852/laws.FnStores", spec := "fnStores", apart := false }
def FnStoresSaid : Prop := fnStoresRow.holds Try.pinned (OpenSpec.ofChange fnStoresSpec)

/-- ITS FALSE NEIGHBOUR: 'it returns false'. Refute it at one input. -/
def fnStoresWrong : ChangeSpec := { name := "fnStores", fn := fun _ => fun
  | [d] => { results := [.lit (.bool false)], args := [d] }
  | _ => none }
def FnStoresWrongFalsely : Prop := fnStoresRow.holds Try.pinned (OpenSpec.ofChange fnStoresWrong)

/-- 'laws.FnFilled': WHATEVER THE INPUT: true; the input reads as it did. -/
def fnFilledSpec : ChangeSpec := { name := "fnFilled", fn := fun _ => fun
  | [d] => { results := [.lit (.bool true)], args := [d] }
  | _ => none }
def fnFilledRow : OpenClaim := { program := "ytlkkhdbfccejjaa", sum := "4480ba61cfdee9aeadf7f4b546e4b3b1454359e2e6dfe441ddd592886a8dece6", func := "loop.example/g00852/laws.FnFilled", spec := "fnFilled", apart := false }
def FnFilledSaid : Prop := fnFilledRow.holds Try.pinned (OpenSpec.ofChange fnFilledSpec)

/-- ITS FALSE NEIGHBOUR: 'it returns false'. Refute it at one input. -/
def fnFilledWrong : ChangeSpec := { name := "fnFilled", fn := fun _ => fun
  | [d] => { results := [.lit (.bool false)], args := [d] }
  | _ => none }
def FnFilledWrongFalsely : Prop := fnFilledRow.holds Try.pinned (OpenSpec.ofChange fnFilledWrong)

/-- 'laws.FnTotals': WHATEVER THE INPUT: true; the input reads as it did. -/
def fnTotalsSpec : ChangeSpec := { name := "fnTotals", fn := fun _ => fun
  | [d] => { results := [.lit (.bool true)], args := [d] }
  | _ => none }
def fnTotalsRow : OpenClaim := { program := "ytlkkhdbfccejjaa", sum := "4480ba61cfdee9aeadf7f4b546e4b3b1454359e2e6dfe441ddd592886a8dece6", func := "loop.example/g00852/laws.FnTotals", spec := "fnTotals", unfollowed := true, recurses := true, apart := false }
def FnTotalsSaid : Prop := fnTotalsRow.holds Try.pinned (OpenSpec.ofChange fnTotalsSpec)

/-- ITS FALSE NEIGHBOUR: 'it returns false'. Refute it at one input. -/
def fnTotalsWrong : ChangeSpec := { name := "fnTotals", fn := fun _ => fun
  | [d] => { results := [.lit (.bool false)], args := [d] }
  | _ => none }
def FnTotalsWrongFalsely : Prop := fnTotalsRow.holds Try.pinned (OpenSpec.ofChange fnTotalsWrong)

/-- 'laws.FnRents': WHATEVER THE INPUT: true; the input reads as it did. -/
def fnRentsSpec : ChangeSpec := { name := "fnRents", fn := fun _ => fun
  | [d] => { results := [.lit (.bool true)], args := [d] }
  | _ => none }
def fnRentsRow : OpenClaim := { program := "ytlkkhdbfccejjaa", sum := "4480ba61cfdee9aeadf7f4b546e4b3b1454359e2e6dfe441ddd592886a8dece6", func := "loop.example/g00852/laws.FnRents", spec := "fnRents", unfollowed := true, recurses := true, apart := false }
def FnRentsSaid : Prop := fnRentsRow.holds Try.pinned (OpenSpec.ofChange fnRentsSpec)

/-- ITS FALSE NEIGHBOUR: 'it returns false'. Refute it at one input. -/
def fnRentsWrong : ChangeSpec := { name := "fnRents", fn := fun _ => fun
  | [d] => { results := [.lit (.bool false)], args := [d] }
  | _ => none }
def FnRentsWrongFalsely : Prop := fnRentsRow.holds Try.pinned (OpenSpec.ofChange fnRentsWrong)

/- THE SECOND FORM. 'bulk': how many values and letters a reading holds, each counted each time it is reached (what is shared counts as often as it is met; a slice's spare places count too). A statement '..UptoSaid' is the law's where the arguments, and the package variables that the reading takes, are together of bulk at most 1048576: NARROWER than '..Said'. Prove '..Said' where nothing that the law and all that it calls make is longer than what came in: it says more and counts as full. Else prove '..UptoSaid'. A law counts once. -/
mutual
def uptoBulk {H : Type} : DataW H → Nat
  | .lit (.string bytes) => bytes.length + 1
  | .lit _ => 1
  | .nil => 1
  | .ptr d => uptoBulk d + 1
  | .slice elems spare => uptoBulkAll elems + uptoBulkAll spare + 1
  | .agg parts => uptoBulkAll parts + 1
  | .iface _ d => uptoBulk d + 1
  | .map entries => uptoBulkEntries entries + 1
  | .held _ => 1
def uptoBulkAll {H : Type} : List (DataW H) → Nat
  | [] => 0
  | d :: r => uptoBulk d + uptoBulkAll r
def uptoBulkEntries {H : Type} : List (Lit × DataW H) → Nat
  | [] => 0
  | x :: r => uptoBulkEntry x + uptoBulkEntries r
def uptoBulkEntry {H : Type} : Lit × DataW H → Nat
  | (.string bytes, d) => bytes.length + uptoBulk d + 1
  | (_, d) => uptoBulk d + 1
 end
def uptoSmall : (H : Type) → List (DataW H) → Bool := fun _ ds => decide (uptoBulkAll ds ≤ 1048576)
def OpenSpec.upto (s : _root_.Go.ChangeSpec) : _root_.Go.OpenSpec := { _root_.Go.OpenSpec.ofChange s with cond := some uptoSmall }

/-- 'laws.FnExactFlatLevel', WHERE WHAT IT READS IS OF BULK AT MOST 1048576: true; the input reads as it did. -/
def fnExactFlatLevelUptoRow : OpenClaim := { program := "ytlkkhdbfccejjaa", sum := "4480ba61cfdee9aeadf7f4b546e4b3b1454359e2e6dfe441ddd592886a8dece6", func := "loop.example/g00852/laws.FnExactFlatLevel", spec := "fnExactFlatLevel", inPlace := ["math.sqrt"], unfollowed := true, recurses := true, apart := false, narrowed := true }
def FnExactFlatLevelUptoSaid : Prop := fnExactFlatLevelUptoRow.holds Try.pinned (OpenSpec.upto fnExactFlatLevelSpec)

/-- 'laws.FnExactSteadyHours', WHERE WHAT IT READS IS OF BULK AT MOST 1048576: true; the input reads as it did. -/
def fnExactSteadyHoursUptoRow : OpenClaim := { program := "ytlkkhdbfccejjaa", sum := "4480ba61cfdee9aeadf7f4b546e4b3b1454359e2e6dfe441ddd592886a8dece6", func := "loop.example/g00852/laws.FnExactSteadyHours", spec := "fnExactSteadyHours", unfollowed := true, recurses := true, apart := false, narrowed := true }
def FnExactSteadyHoursUptoSaid : Prop := fnExactSteadyHoursUptoRow.holds Try.pinned (OpenSpec.upto fnExactSteadyHoursSpec)

/-- 'laws.FnExactSharePack', WHERE WHAT IT READS IS OF BULK AT MOST 1048576: true; the input reads as it did. -/
def fnExactSharePackUptoRow : OpenClaim := { program := "ytlkkhdbfccejjaa", sum := "4480ba61cfdee9aeadf7f4b546e4b3b1454359e2e6dfe441ddd592886a8dece6", func := "loop.example/g00852/laws.FnExactSharePack", spec := "fnExactSharePack", inPlace := ["math.sqrt"], unfollowed := true, recurses := true, apart := false, narrowed := true }
def FnExactSharePackUptoSaid : Prop := fnExactSharePackUptoRow.holds Try.pinned (OpenSpec.upto fnExactSharePackSpec)

/-- 'laws.FnExactMatchOrders', WHERE WHAT IT READS IS OF BULK AT MOST 1048576: true; the input reads as it did. -/
def fnExactMatchOrdersUptoRow : OpenClaim := { program := "ytlkkhdbfccejjaa", sum := "4480ba61cfdee9aeadf7f4b546e4b3b1454359e2e6dfe441ddd592886a8dece6", func := "loop.example/g00852/laws.FnExactMatchOrders", spec := "fnExactMatchOrders", unfollowed := true, recurses := true, apart := false, narrowed := true }
def FnExactMatchOrdersUptoSaid : Prop := fnExactMatchOrdersUptoRow.holds Try.pinned (OpenSpec.upto fnExactMatchOrdersSpec)

/-- 'laws.FnExactLostAmounts', WHERE WHAT IT READS IS OF BULK AT MOST 1048576: true; the input reads as it did. -/
def fnExactLostAmountsUptoRow : OpenClaim := { program := "ytlkkhdbfccejjaa", sum := "4480ba61cfdee9aeadf7f4b546e4b3b1454359e2e6dfe441ddd592886a8dece6", func := "loop.example/g00852/laws.FnExactLostAmounts", spec := "fnExactLostAmounts", unfollowed := true, recurses := true, apart := false, narrowed := true }
def FnExactLostAmountsUptoSaid : Prop := fnExactLostAmountsUptoRow.holds Try.pinned (OpenSpec.upto fnExactLostAmountsSpec)

/-- 'laws.FnExactAcceptNomination', WHERE WHAT IT READS IS OF BULK AT MOST 1048576: true; the input reads as it did. -/
def fnExactAcceptNominationUptoRow : OpenClaim := { program := "ytlkkhdbfccejjaa", sum := "4480ba61cfdee9aeadf7f4b546e4b3b1454359e2e6dfe441ddd592886a8dece6", func := "loop.example/g00852/laws.FnExactAcceptNomination", spec := "fnExactAcceptNomination", unfollowed := true, recurses := true, apart := false, narrowed := true }
def FnExactAcceptNominationUptoSaid : Prop := fnExactAcceptNominationUptoRow.holds Try.pinned (OpenSpec.upto fnExactAcceptNominationSpec)

/-- 'laws.FnExactStepHour', WHERE WHAT IT READS IS OF BULK AT MOST 1048576: true; the input reads as it did. -/
def fnExactStepHourUptoRow : OpenClaim := { program := "ytlkkhdbfccejjaa", sum := "4480ba61cfdee9aeadf7f4b546e4b3b1454359e2e6dfe441ddd592886a8dece6", func := "loop.example/g00852/laws.FnExactStepHour", spec := "fnExactStepHour", unfollowed := true, recurses := true, apart := false, narrowed := true }
def FnExactStepHourUptoSaid : Prop := fnExactStepHourUptoRow.holds Try.pinned (OpenSpec.upto fnExactStepHourSpec)

/-- 'laws.FnExactRunHours', WHERE WHAT IT READS IS OF BULK AT MOST 1048576: true; the input reads as it did. -/
def fnExactRunHoursUptoRow : OpenClaim := { program := "ytlkkhdbfccejjaa", sum := "4480ba61cfdee9aeadf7f4b546e4b3b1454359e2e6dfe441ddd592886a8dece6", func := "loop.example/g00852/laws.FnExactRunHours", spec := "fnExactRunHours", unfollowed := true, recurses := true, apart := false, narrowed := true }
def FnExactRunHoursUptoSaid : Prop := fnExactRunHoursUptoRow.holds Try.pinned (OpenSpec.upto fnExactRunHoursSpec)

/-- 'laws.FnStores', WHERE WHAT IT READS IS OF BULK AT MOST 1048576: true; the input reads as it did. -/
def fnStoresUptoRow : OpenClaim := { program := "ytlkkhdbfccejjaa", sum := "4480ba61cfdee9aeadf7f4b546e4b3b1454359e2e6dfe441ddd592886a8dece6", func := "loop.example/g00852/laws.FnStores", spec := "fnStores", apart := false, narrowed := true }
def FnStoresUptoSaid : Prop := fnStoresUptoRow.holds Try.pinned (OpenSpec.upto fnStoresSpec)

/-- 'laws.FnFilled', WHERE WHAT IT READS IS OF BULK AT MOST 1048576: true; the input reads as it did. -/
def fnFilledUptoRow : OpenClaim := { program := "ytlkkhdbfccejjaa", sum := "4480ba61cfdee9aeadf7f4b546e4b3b1454359e2e6dfe441ddd592886a8dece6", func := "loop.example/g00852/laws.FnFilled", spec := "fnFilled", apart := false, narrowed := true }
def FnFilledUptoSaid : Prop := fnFilledUptoRow.holds Try.pinned (OpenSpec.upto fnFilledSpec)

/-- 'laws.FnTotals', WHERE WHAT IT READS IS OF BULK AT MOST 1048576: true; the input reads as it did. -/
def fnTotalsUptoRow : OpenClaim := { program := "ytlkkhdbfccejjaa", sum := "4480ba61cfdee9aeadf7f4b546e4b3b1454359e2e6dfe441ddd592886a8dece6", func := "loop.example/g00852/laws.FnTotals", spec := "fnTotals", unfollowed := true, recurses := true, apart := false, narrowed := true }
def FnTotalsUptoSaid : Prop := fnTotalsUptoRow.holds Try.pinned (OpenSpec.upto fnTotalsSpec)

/-- 'laws.FnRents', WHERE WHAT IT READS IS OF BULK AT MOST 1048576: true; the input reads as it did. -/
def fnRentsUptoRow : OpenClaim := { program := "ytlkkhdbfccejjaa", sum := "4480ba61cfdee9aeadf7f4b546e4b3b1454359e2e6dfe441ddd592886a8dece6", func := "loop.example/g00852/laws.FnRents", spec := "fnRents", unfollowed := true, recurses := true, apart := false, narrowed := true }
def FnRentsUptoSaid : Prop := fnRentsUptoRow.holds Try.pinned (OpenSpec.upto fnRentsSpec)

end Rows
end Go.Proofs.Ytlkkhdbfccejjaa
