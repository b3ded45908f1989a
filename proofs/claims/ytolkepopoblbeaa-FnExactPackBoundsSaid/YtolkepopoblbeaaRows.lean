/-
  No cell of these rows narrows 'for every input' (looked for: loops, veiled, ifaces, maps, wideKeys, modest, calm, conditions, laid).
  DERIVED. THE GIVEN ROWS OF THIS SEAT. 12 by the template 'for every input the law returns true; each argument reads behind the call as it read before'; 0 by the template 'total and deterministic' (their statements: YtolkepopoblbeaaTotals.lean).
  GIVEN WITH THE SEED: the statements are not yours to turn. If you find one false, say at which input.
  Laid BY PROGRAM, IN A SANDBOX (cutbox-rows.mjs): the forced cells as the released guide's own fill.sh prints them over the translation b5cf5ab2b713552f… (all of the seat's roots in one cut). By AI agents, Wed Nov 11 2026. No macro, syntax, notation, axiom, sorry.
-/
import Derived.Test.YtolkepopoblbeaaChecked
import GoSem.Claim
import GoSem.ClaimJoined
import GoSem.ClaimMapViews
import Derived.JoinedTies
import Derived.KernelRfl
namespace Go.Proofs.Ytolkepopoblbeaa
/- THE CELL 'sum', in the pinned program and in every row, IS THE sha256 OF THE DUMP (.gsa) THAT YtolkepopoblbeaaProg.lean LOADS. Nothing in Lean hashes anything: it is a label: what it is worth is what the hold of that sum in a sandbox is worth. -/
noncomputable def Try.pinned : Pinned := { name := "ytolkepopoblbeaa", sum := "b5cf5ab2b713552f4aa396679c4cc159cf4b22d3a924697db318824b010dea81", checked := Try.checked }
namespace Rows
def none {H : Type} : Left H := { results := [], args := [] }

/-- 'laws.FnExactPackBounds': WHATEVER THE INPUT: true; the input reads as it did. -/
def fnExactPackBoundsSpec : ChangeSpec := { name := "fnExactPackBounds", fn := fun _ => fun
  | [d] => { results := [.lit (.bool true)], args := [d] }
  | _ => none }
def fnExactPackBoundsRow : OpenClaim := { program := "ytolkepopoblbeaa", sum := "b5cf5ab2b713552f4aa396679c4cc159cf4b22d3a924697db318824b010dea81", func := "loop.example/g00852/laws.FnExactPackBounds", spec := "fnExactPackBounds", inPlace := ["math.sqrt"], unfollowed := true, recurses := true, apart := false }
def FnExactPackBoundsSaid : Prop := fnExactPackBoundsRow.holds Try.pinned (OpenSpec.ofChange fnExactPackBoundsSpec)

/-- ITS FALSE NEIGHBOUR: 'it returns false'. Refute it at one input. -/
def fnExactPackBoundsWrong : ChangeSpec := { name := "fnExactPackBounds", fn := fun _ => fun
  | [d] => { results := [.lit (.bool false)], args := [d] }
  | _ => none }
def FnExactPackBoundsWrongFalsely : Prop := fnExactPackBoundsRow.holds Try.pinned (OpenSpec.ofChange fnExactPackBoundsWrong)

/-- 'laws.FnExactPackOf': WHATEVER THE INPUT: true; the input reads as it did. -/
def fnExactPackOfSpec : ChangeSpec := { name := "fnExactPackOf", fn := fun _ => fun
  | [d1, d2, d3] => { results := [.lit (.bool true)], args := [d1, d2, d3] }
  | _ => none }
def fnExactPackOfRow : OpenClaim := { program := "ytolkepopoblbeaa", sum := "b5cf5ab2b713552f4aa396679c4cc159cf4b22d3a924697db318824b010dea81", func := "loop.example/g00852/laws.FnExactPackOf", spec := "fnExactPackOf", inPlace := ["math.sqrt"], unfollowed := true, recurses := true, apart := false }
def FnExactPackOfSaid : Prop := fnExactPackOfRow.holds Try.pinned (OpenSpec.ofChange fnExactPackOfSpec)

/-- ITS FALSE NEIGHBOUR: 'it returns false'. Refute it at one input. -/
def fnExactPackOfWrong : ChangeSpec := { name := "fnExactPackOf", fn := fun _ => fun
  | [d1, d2, d3] => { results := [.lit (.bool false)], args := [d1, d2, d3] }
  | _ => none }
def FnExactPackOfWrongFalsely : Prop := fnExactPackOfRow.holds Try.pinned (OpenSpec.ofChange fnExactPackOfWrong)

/-- 'laws.FnExactPackChange': WHATEVER THE INPUT: true; the input reads as it did. -/
def fnExactPackChangeSpec : ChangeSpec := { name := "fnExactPackChange", fn := fun _ => fun
  | [d1, d2, d3] => { results := [.lit (.bool true)], args := [d1, d2, d3] }
  | _ => none }
def fnExactPackChangeRow : OpenClaim := { program := "ytolkepopoblbeaa", sum := "b5cf5ab2b713552f4aa396679c4cc159cf4b22d3a924697db318824b010dea81", func := "loop.example/g00852/laws.FnExactPackChange", spec := "fnExactPackChange", inPlace := ["math.sqrt"], unfollowed := true, recurses := true, apart := false }
def FnExactPackChangeSaid : Prop := fnExactPackChangeRow.holds Try.pinned (OpenSpec.ofChange fnExactPackChangeSpec)

/-- ITS FALSE NEIGHBOUR: 'it returns false'. Refute it at one input. -/
def fnExactPackChangeWrong : ChangeSpec := { name := "fnExactPackChange", fn := fun _ => fun
  | [d1, d2, d3] => { results := [.lit (.bool false)], args := [d1, d2, d3] }
  | _ => none }
def FnExactPackChangeWrongFalsely : Prop := fnExactPackChangeRow.holds Try.pinned (OpenSpec.ofChange fnExactPackChangeWrong)

/-- 'laws.FnExactFlatLevel': WHATEVER THE INPUT: true; the input reads as it did. -/
def fnExactFlatLevelSpec : ChangeSpec := { name := "fnExactFlatLevel", fn := fun _ => fun
  | [d1, d2] => { results := [.lit (.bool true)], args := [d1, d2] }
  | _ => none }
def fnExactFlatLevelRow : OpenClaim := { program := "ytolkepopoblbeaa", sum := "b5cf5ab2b713552f4aa396679c4cc159cf4b22d3a924697db318824b010dea81", func := "loop.example/g00852/laws.FnExactFlatLevel", spec := "fnExactFlatLevel", inPlace := ["math.sqrt"], unfollowed := true, recurses := true, apart := false }
def FnExactFlatLevelSaid : Prop := fnExactFlatLevelRow.holds Try.pinned (OpenSpec.ofChange fnExactFlatLevelSpec)

/-- ITS FALSE NEIGHBOUR: 'it returns false'. Refute it at one input. -/
def fnExactFlatLevelWrong : ChangeSpec := { name := "fnExactFlatLevel", fn := fun _ => fun
  | [d1, d2] => { results := [.lit (.bool false)], args := [d1, d2] }
  | _ => none }
def FnExactFlatLevelWrongFalsely : Prop := fnExactFlatLevelRow.holds Try.pinned (OpenSpec.ofChange fnExactFlatLevelWrong)

/-- 'laws.FnExactSharePack': WHATEVER THE INPUT: true; the input reads as it did. -/
def fnExactSharePackSpec : ChangeSpec := { name := "fnExactSharePack", fn := fun _ => fun
  | [d1, d2, d3] => { results := [.lit (.bool true)], args := [d1, d2, d3] }
  | _ => none }
def fnExactSharePackRow : OpenClaim := { program := "ytolkepopoblbeaa", sum := "b5cf5ab2b713552f4aa396679c4cc159cf4b22d3a924697db318824b010dea81", func := "loop.example/g00852/laws.FnExactSharePack", spec := "fnExactSharePack", inPlace := ["math.sqrt"], unfollowed := true, recurses := true, apart := false }
def FnExactSharePackSaid : Prop := fnExactSharePackRow.holds Try.pinned (OpenSpec.ofChange fnExactSharePackSpec)

/-- ITS FALSE NEIGHBOUR: 'it returns false'. Refute it at one input. -/
def fnExactSharePackWrong : ChangeSpec := { name := "fnExactSharePack", fn := fun _ => fun
  | [d1, d2, d3] => { results := [.lit (.bool false)], args := [d1, d2, d3] }
  | _ => none }
def FnExactSharePackWrongFalsely : Prop := fnExactSharePackRow.holds Try.pinned (OpenSpec.ofChange fnExactSharePackWrong)

/-- 'laws.FnExactFirstTrouble': WHATEVER THE INPUT: true; the input reads as it did. -/
def fnExactFirstTroubleSpec : ChangeSpec := { name := "fnExactFirstTrouble", fn := fun _ => fun
  | [d1, d2, d3] => { results := [.lit (.bool true)], args := [d1, d2, d3] }
  | _ => none }
def fnExactFirstTroubleRow : OpenClaim := { program := "ytolkepopoblbeaa", sum := "b5cf5ab2b713552f4aa396679c4cc159cf4b22d3a924697db318824b010dea81", func := "loop.example/g00852/laws.FnExactFirstTrouble", spec := "fnExactFirstTrouble", unfollowed := true, recurses := true, apart := false }
def FnExactFirstTroubleSaid : Prop := fnExactFirstTroubleRow.holds Try.pinned (OpenSpec.ofChange fnExactFirstTroubleSpec)

/-- ITS FALSE NEIGHBOUR: 'it returns false'. Refute it at one input. -/
def fnExactFirstTroubleWrong : ChangeSpec := { name := "fnExactFirstTrouble", fn := fun _ => fun
  | [d1, d2, d3] => { results := [.lit (.bool false)], args := [d1, d2, d3] }
  | _ => none }
def FnExactFirstTroubleWrongFalsely : Prop := fnExactFirstTroubleRow.holds Try.pinned (OpenSpec.ofChange fnExactFirstTroubleWrong)

/-- 'laws.FnExactSteadyHours': WHATEVER THE INPUT: true; the input reads as it did. -/
def fnExactSteadyHoursSpec : ChangeSpec := { name := "fnExactSteadyHours", fn := fun _ => fun
  | [d1, d2, d3] => { results := [.lit (.bool true)], args := [d1, d2, d3] }
  | _ => none }
def fnExactSteadyHoursRow : OpenClaim := { program := "ytolkepopoblbeaa", sum := "b5cf5ab2b713552f4aa396679c4cc159cf4b22d3a924697db318824b010dea81", func := "loop.example/g00852/laws.FnExactSteadyHours", spec := "fnExactSteadyHours", unfollowed := true, recurses := true, apart := false }
def FnExactSteadyHoursSaid : Prop := fnExactSteadyHoursRow.holds Try.pinned (OpenSpec.ofChange fnExactSteadyHoursSpec)

/-- ITS FALSE NEIGHBOUR: 'it returns false'. Refute it at one input. -/
def fnExactSteadyHoursWrong : ChangeSpec := { name := "fnExactSteadyHours", fn := fun _ => fun
  | [d1, d2, d3] => { results := [.lit (.bool false)], args := [d1, d2, d3] }
  | _ => none }
def FnExactSteadyHoursWrongFalsely : Prop := fnExactSteadyHoursRow.holds Try.pinned (OpenSpec.ofChange fnExactSteadyHoursWrong)

/-- 'laws.FnExactClosestSupplies': WHATEVER THE INPUT: true; the input reads as it did. -/
def fnExactClosestSuppliesSpec : ChangeSpec := { name := "fnExactClosestSupplies", fn := fun _ => fun
  | [d1, d2, d3] => { results := [.lit (.bool true)], args := [d1, d2, d3] }
  | _ => none }
def fnExactClosestSuppliesRow : OpenClaim := { program := "ytolkepopoblbeaa", sum := "b5cf5ab2b713552f4aa396679c4cc159cf4b22d3a924697db318824b010dea81", func := "loop.example/g00852/laws.FnExactClosestSupplies", spec := "fnExactClosestSupplies", unfollowed := true, recurses := true, apart := false }
def FnExactClosestSuppliesSaid : Prop := fnExactClosestSuppliesRow.holds Try.pinned (OpenSpec.ofChange fnExactClosestSuppliesSpec)

/-- ITS FALSE NEIGHBOUR: 'it returns false'. Refute it at one input. -/
def fnExactClosestSuppliesWrong : ChangeSpec := { name := "fnExactClosestSupplies", fn := fun _ => fun
  | [d1, d2, d3] => { results := [.lit (.bool false)], args := [d1, d2, d3] }
  | _ => none }
def FnExactClosestSuppliesWrongFalsely : Prop := fnExactClosestSuppliesRow.holds Try.pinned (OpenSpec.ofChange fnExactClosestSuppliesWrong)

/-- 'laws.FnExactStepHour': WHATEVER THE INPUT: true; the input reads as it did. -/
def fnExactStepHourSpec : ChangeSpec := { name := "fnExactStepHour", fn := fun _ => fun
  | [d1, d2, d3] => { results := [.lit (.bool true)], args := [d1, d2, d3] }
  | _ => none }
def fnExactStepHourRow : OpenClaim := { program := "ytolkepopoblbeaa", sum := "b5cf5ab2b713552f4aa396679c4cc159cf4b22d3a924697db318824b010dea81", func := "loop.example/g00852/laws.FnExactStepHour", spec := "fnExactStepHour", unfollowed := true, recurses := true, apart := false }
def FnExactStepHourSaid : Prop := fnExactStepHourRow.holds Try.pinned (OpenSpec.ofChange fnExactStepHourSpec)

/-- ITS FALSE NEIGHBOUR: 'it returns false'. Refute it at one input. -/
def fnExactStepHourWrong : ChangeSpec := { name := "fnExactStepHour", fn := fun _ => fun
  | [d1, d2, d3] => { results := [.lit (.bool false)], args := [d1, d2, d3] }
  | _ => none }
def FnExactStepHourWrongFalsely : Prop := fnExactStepHourRow.holds Try.pinned (OpenSpec.ofChange fnExactStepHourWrong)

/-- 'laws.FnLinepack': WHATEVER THE INPUT: true; the input reads as it did. -/
def fnLinepackSpec : ChangeSpec := { name := "fnLinepack", fn := fun _ => fun
  | [d] => { results := [.lit (.bool true)], args := [d] }
  | _ => none }
def fnLinepackRow : OpenClaim := { program := "ytolkepopoblbeaa", sum := "b5cf5ab2b713552f4aa396679c4cc159cf4b22d3a924697db318824b010dea81", func := "loop.example/g00852/laws.FnLinepack", spec := "fnLinepack", inPlace := ["math.sqrt"], unfollowed := true, recurses := true, apart := false }
def FnLinepackSaid : Prop := fnLinepackRow.holds Try.pinned (OpenSpec.ofChange fnLinepackSpec)

/-- ITS FALSE NEIGHBOUR: 'it returns false'. Refute it at one input. -/
def fnLinepackWrong : ChangeSpec := { name := "fnLinepack", fn := fun _ => fun
  | [d] => { results := [.lit (.bool false)], args := [d] }
  | _ => none }
def FnLinepackWrongFalsely : Prop := fnLinepackRow.holds Try.pinned (OpenSpec.ofChange fnLinepackWrong)

/-- 'laws.FnFlatLevels': WHATEVER THE INPUT: true; the input reads as it did. -/
def fnFlatLevelsSpec : ChangeSpec := { name := "fnFlatLevels", fn := fun _ => fun
  | [d] => { results := [.lit (.bool true)], args := [d] }
  | _ => none }
def fnFlatLevelsRow : OpenClaim := { program := "ytolkepopoblbeaa", sum := "b5cf5ab2b713552f4aa396679c4cc159cf4b22d3a924697db318824b010dea81", func := "loop.example/g00852/laws.FnFlatLevels", spec := "fnFlatLevels", inPlace := ["math.sqrt"], unfollowed := true, recurses := true, apart := false }
def FnFlatLevelsSaid : Prop := fnFlatLevelsRow.holds Try.pinned (OpenSpec.ofChange fnFlatLevelsSpec)

/-- ITS FALSE NEIGHBOUR: 'it returns false'. Refute it at one input. -/
def fnFlatLevelsWrong : ChangeSpec := { name := "fnFlatLevels", fn := fun _ => fun
  | [d] => { results := [.lit (.bool false)], args := [d] }
  | _ => none }
def FnFlatLevelsWrongFalsely : Prop := fnFlatLevelsRow.holds Try.pinned (OpenSpec.ofChange fnFlatLevelsWrong)

/-- 'laws.FnSharedPacks': WHATEVER THE INPUT: true; the input reads as it did. -/
def fnSharedPacksSpec : ChangeSpec := { name := "fnSharedPacks", fn := fun _ => fun
  | [d] => { results := [.lit (.bool true)], args := [d] }
  | _ => none }
def fnSharedPacksRow : OpenClaim := { program := "ytolkepopoblbeaa", sum := "b5cf5ab2b713552f4aa396679c4cc159cf4b22d3a924697db318824b010dea81", func := "loop.example/g00852/laws.FnSharedPacks", spec := "fnSharedPacks", inPlace := ["math.sqrt"], unfollowed := true, recurses := true, apart := false }
def FnSharedPacksSaid : Prop := fnSharedPacksRow.holds Try.pinned (OpenSpec.ofChange fnSharedPacksSpec)

/-- ITS FALSE NEIGHBOUR: 'it returns false'. Refute it at one input. -/
def fnSharedPacksWrong : ChangeSpec := { name := "fnSharedPacks", fn := fun _ => fun
  | [d] => { results := [.lit (.bool false)], args := [d] }
  | _ => none }
def FnSharedPacksWrongFalsely : Prop := fnSharedPacksRow.holds Try.pinned (OpenSpec.ofChange fnSharedPacksWrong)

/- THE SECOND FORM. 'bulk': how many values and letters a reading holds, each counted each time it is reached (what is shared counts as often as it is met; a slice's spare places count too). A statement '..UptoSaid' is the law's where the arguments, and the package variables that the reading takes, are together of bulk at most 1048576: NARROWER than '..Said'. Prove '..Said' where nothing that the law and all that it calls make is longer than what came in: it says more and counts as full. Else prove '..UptoSaid'. A law counts once. -/
mutual
def uptoBulk {H : Type} : DataW H → Nat
  | .lit (.string bytes) => bytes.length + 1
  | .lit _ => 1
  | .nil => 1
  | .ptr d => uptoBulk d + 1
  | .slice elems spare => uptoBulkAll elems + uptoBulkAll spare + 1
  | .agg parts => uptoBulkAll parts + 1
  | .iface _ d => uptoBulk d + 1
  | .map entries => uptoBulkEntries entries + 1
  | .held _ => 1
def uptoBulkAll {H : Type} : List (DataW H) → Nat
  | [] => 0
  | d :: r => uptoBulk d + uptoBulkAll r
def uptoBulkEntries {H : Type} : List (Lit × DataW H) → Nat
  | [] => 0
  | x :: r => uptoBulkEntry x + uptoBulkEntries r
def uptoBulkEntry {H : Type} : Lit × DataW H → Nat
  | (.string bytes, d) => bytes.length + uptoBulk d + 1
  | (_, d) => uptoBulk d + 1
 end
def uptoSmall : (H : Type) → List (DataW H) → Bool := fun _ ds => decide (uptoBulkAll ds ≤ 1048576)
def OpenSpec.upto (s : _root_.Go.ChangeSpec) : _root_.Go.OpenSpec := { _root_.Go.OpenSpec.ofChange s with cond := some uptoSmall }

/-- 'laws.FnExactPackBounds', WHERE WHAT IT READS IS OF BULK AT MOST 1048576: true; the input reads as it did. -/
def fnExactPackBoundsUptoRow : OpenClaim := { program := "ytolkepopoblbeaa", sum := "b5cf5ab2b713552f4aa396679c4cc159cf4b22d3a924697db318824b010dea81", func := "loop.example/g00852/laws.FnExactPackBounds", spec := "fnExactPackBounds", inPlace := ["math.sqrt"], unfollowed := true, recurses := true, apart := false, narrowed := true }
def FnExactPackBoundsUptoSaid : Prop := fnExactPackBoundsUptoRow.holds Try.pinned (OpenSpec.upto fnExactPackBoundsSpec)

/-- 'laws.FnExactPackOf', WHERE WHAT IT READS IS OF BULK AT MOST 1048576: true; the input reads as it did. -/
def fnExactPackOfUptoRow : OpenClaim := { program := "ytolkepopoblbeaa", sum := "b5cf5ab2b713552f4aa396679c4cc159cf4b22d3a924697db318824b010dea81", func := "loop.example/g00852/laws.FnExactPackOf", spec := "fnExactPackOf", inPlace := ["math.sqrt"], unfollowed := true, recurses := true, apart := false, narrowed := true }
def FnExactPackOfUptoSaid : Prop := fnExactPackOfUptoRow.holds Try.pinned (OpenSpec.upto fnExactPackOfSpec)

/-- 'laws.FnExactPackChange', WHERE WHAT IT READS IS OF BULK AT MOST 1048576: true; the input reads as it did. -/
def fnExactPackChangeUptoRow : OpenClaim := { program := "ytolkepopoblbeaa", sum := "b5cf5ab2b713552f4aa396679c4cc159cf4b22d3a924697db318824b010dea81", func := "loop.example/g00852/laws.FnExactPackChange", spec := "fnExactPackChange", inPlace := ["math.sqrt"], unfollowed := true, recurses := true, apart := false, narrowed := true }
def FnExactPackChangeUptoSaid : Prop := fnExactPackChangeUptoRow.holds Try.pinned (OpenSpec.upto fnExactPackChangeSpec)

/-- 'laws.FnExactFlatLevel', WHERE WHAT IT READS IS OF BULK AT MOST 1048576: true; the input reads as it did. -/
def fnExactFlatLevelUptoRow : OpenClaim := { program := "ytolkepopoblbeaa", sum := "b5cf5ab2b713552f4aa396679c4cc159cf4b22d3a924697db318824b010dea81", func := "loop.example/g00852/laws.FnExactFlatLevel", spec := "fnExactFlatLevel", inPlace := ["math.sqrt"], unfollowed := true, recurses := true, apart := false, narrowed := true }
def FnExactFlatLevelUptoSaid : Prop := fnExactFlatLevelUptoRow.holds Try.pinned (OpenSpec.upto fnExactFlatLevelSpec)

/-- 'laws.FnExactSharePack', WHERE WHAT IT READS IS OF BULK AT MOST 1048576: true; the input reads as it did. -/
def fnExactSharePackUptoRow : OpenClaim := { program := "ytolkepopoblbeaa", sum := "b5cf5ab2b713552f4aa396679c4cc159cf4b22d3a924697db318824b010dea81", func := "loop.example/g00852/laws.FnExactSharePack", spec := "fnExactSharePack", inPlace := ["math.sqrt"], unfollowed := true, recurses := true, apart := false, narrowed := true }
def FnExactSharePackUptoSaid : Prop := fnExactSharePackUptoRow.holds Try.pinned (OpenSpec.upto fnExactSharePackSpec)

/-- 'laws.FnExactFirstTrouble', WHERE WHAT IT READS IS OF BULK AT MOST 1048576: true; the input reads as it did. -/
def fnExactFirstTroubleUptoRow : OpenClaim := { program := "ytolkepopoblbeaa", sum := "b5cf5ab2b713552f4aa396679c4cc159cf4b22d3a924697db318824b010dea81", func := "loop.example/g00852/laws.FnExactFirstTrouble", spec := "fnExactFirstTrouble", unfollowed := true, recurses := true, apart := false, narrowed := true }
def FnExactFirstTroubleUptoSaid : Prop := fnExactFirstTroubleUptoRow.holds Try.pinned (OpenSpec.upto fnExactFirstTroubleSpec)

/-- 'laws.FnExactSteadyHours', WHERE WHAT IT READS IS OF BULK AT MOST 1048576: true; the input reads as it did. -/
def fnExactSteadyHoursUptoRow : OpenClaim := { program := "ytolkepopoblbeaa", sum := "b5cf5ab2b713552f4aa396679c4cc159cf4b22d3a924697db318824b010dea81", func := "loop.example/g00852/laws.FnExactSteadyHours", spec := "fnExactSteadyHours", unfollowed := true, recurses := true, apart := false, narrowed := true }
def FnExactSteadyHoursUptoSaid : Prop := fnExactSteadyHoursUptoRow.holds Try.pinned (OpenSpec.upto fnExactSteadyHoursSpec)

/-- 'laws.FnExactClosestSupplies', WHERE WHAT IT READS IS OF BULK AT MOST 1048576: true; the input reads as it did. -/
def fnExactClosestSuppliesUptoRow : OpenClaim := { program := "ytolkepopoblbeaa", sum := "b5cf5ab2b713552f4aa396679c4cc159cf4b22d3a924697db318824b010dea81", func := "loop.example/g00852/laws.FnExactClosestSupplies", spec := "fnExactClosestSupplies", unfollowed := true, recurses := true, apart := false, narrowed := true }
def FnExactClosestSuppliesUptoSaid : Prop := fnExactClosestSuppliesUptoRow.holds Try.pinned (OpenSpec.upto fnExactClosestSuppliesSpec)

/-- 'laws.FnExactStepHour', WHERE WHAT IT READS IS OF BULK AT MOST 1048576: true; the input reads as it did. -/
def fnExactStepHourUptoRow : OpenClaim := { program := "ytolkepopoblbeaa", sum := "b5cf5ab2b713552f4aa396679c4cc159cf4b22d3a924697db318824b010dea81", func := "loop.example/g00852/laws.FnExactStepHour", spec := "fnExactStepHour", unfollowed := true, recurses := true, apart := false, narrowed := true }
def FnExactStepHourUptoSaid : Prop := fnExactStepHourUptoRow.holds Try.pinned (OpenSpec.upto fnExactStepHourSpec)

/-- 'laws.FnLinepack', WHERE WHAT IT READS IS OF BULK AT MOST 1048576: true; the input reads as it did. -/
def fnLinepackUptoRow : OpenClaim := { program := "ytolkepopoblbeaa", sum := "b5cf5ab2b713552f4aa396679c4cc159cf4b22d3a924697db318824b010dea81", func := "loop.example/g00852/laws.FnLinepack", spec := "fnLinepack", inPlace := ["math.sqrt"], unfollowed := true, recurses := true, apart := false, narrowed := true }
def FnLinepackUptoSaid : Prop := fnLinepackUptoRow.holds Try.pinned (OpenSpec.upto fnLinepackSpec)

/-- 'laws.FnFlatLevels', WHERE WHAT IT READS IS OF BULK AT MOST 1048576: true; the input reads as it did. -/
def fnFlatLevelsUptoRow : OpenClaim := { program := "ytolkepopoblbeaa", sum := "b5cf5ab2b713552f4aa396679c4cc159cf4b22d3a924697db318824b010dea81", func := "loop.example/g00852/laws.FnFlatLevels", spec := "fnFlatLevels", inPlace := ["math.sqrt"], unfollowed := true, recurses := true, apart := false, narrowed := true }
def FnFlatLevelsUptoSaid : Prop := fnFlatLevelsUptoRow.holds Try.pinned (OpenSpec.upto fnFlatLevelsSpec)

/-- 'laws.FnSharedPacks', WHERE WHAT IT READS IS OF BULK AT MOST 1048576: true; the input reads as it did. -/
def fnSharedPacksUptoRow : OpenClaim := { program := "ytolkepopoblbeaa", sum := "b5cf5ab2b713552f4aa396679c4cc159cf4b22d3a924697db318824b010dea81", func := "loop.example/g00852/laws.FnSharedPacks", spec := "fnSharedPacks", inPlace := ["math.sqrt"], unfollowed := true, recurses := true, apart := false, narrowed := true }
def FnSharedPacksUptoSaid : Prop := fnSharedPacksUptoRow.holds Try.pinned (OpenSpec.upto fnSharedPacksSpec)

end Rows
end Go.Proofs.Ytolkepopoblbeaa
