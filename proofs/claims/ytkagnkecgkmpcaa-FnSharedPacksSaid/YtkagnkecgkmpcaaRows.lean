/-
  No cell of these rows narrows 'for every input' (looked for: loops, veiled, ifaces, maps, wideKeys, modest, calm, conditions, laid).
  DERIVED. THE GIVEN ROWS OF THIS SEAT. 3 by the template 'for every input the law returns true; each argument reads behind the call as it read before'; 0 by the template 'total and deterministic' (their statements: YtkagnkecgkmpcaaTotals.lean).
  GIVEN WITH THE SEED: the statements are not yours to turn. If you find one false, say at which input.
  Laid BY PROGRAM, IN A SANDBOX (cutbox-rows.mjs): the forced cells as the released guide's own fill.sh prints them over the translation 2be3552f2bbe8ab4… (all of the seat's roots in one cut). By AI agents, Wed Nov 11 2026. No macro, syntax, notation, axiom, sorry.
-/
import Derived.Test.YtkagnkecgkmpcaaChecked
import GoSem.Claim
import GoSem.ClaimJoined
import GoSem.ClaimMapViews
import Derived.JoinedTies
import Derived.KernelRfl
namespace Go.Proofs.Ytkagnkecgkmpcaa
/- THE CELL 'sum', in the pinned program and in every row, IS THE sha256 OF THE DUMP (.gsa) THAT YtkagnkecgkmpcaaProg.lean LOADS. Nothing in Lean hashes anything: it is a label: what it is worth is what the hold of that sum in a sandbox is worth. -/
noncomputable def Try.pinned : Pinned := { name := "ytkagnkecgkmpcaa", sum := "2be3552f2bbe8ab41f25a9fa064b7f4c40d91e37f082c69262f7c138ebcec86f", checked := Try.checked }
namespace Rows
def none {H : Type} : Left H := { results := [], args := [] }

/-- 'laws.FnLinepack': WHATEVER THE INPUT: true; the input reads as it did. -/
def fnLinepackSpec : ChangeSpec := { name := "fnLinepack", fn := fun _ => fun
  | [d] => { results := [.lit (.bool true)], args := [d] }
  | _ => none }
def fnLinepackRow : OpenClaim := { program := "ytkagnkecgkmpcaa", sum := "2be3552f2bbe8ab41f25a9fa064b7f4c40d91e37f082c69262f7c138ebcec86f", func := "loop.example/g00852/laws.FnLinepack", spec := "fnLinepack", inPlace := ["math.sqrt"], unfollowed := true, recurses := true, apart := false }
def FnLinepackSaid : Prop := fnLinepackRow.holds Try.pinned (OpenSpec.ofChange fnLinepackSpec)

/-- ITS FALSE NEIGHBOUR: 'it returns false'. Refute it at one input. -/
def fnLinepackWrong : ChangeSpec := { name := "fnLinepack", fn := fun _ => fun
  | [d] => { results := [.lit (.bool false)], args := [d] }
  | _ => none }
def FnLinepackWrongFalsely : Prop := fnLinepackRow.holds Try.pinned (OpenSpec.ofChange fnLinepackWrong)

/-- 'laws.FnFlatLevels': WHATEVER THE INPUT: true; the input reads as it did. -/
def fnFlatLevelsSpec : ChangeSpec := { name := "fnFlatLevels", fn := fun _ => fun
  | [d] => { results := [.lit (.bool true)], args := [d] }
  | _ => none }
def fnFlatLevelsRow : OpenClaim := { program := "ytkagnkecgkmpcaa", sum := "2be3552f2bbe8ab41f25a9fa064b7f4c40d91e37f082c69262f7c138ebcec86f", func := "loop.example/g00852/laws.FnFlatLevels", spec := "fnFlatLevels", inPlace := ["math.sqrt"], unfollowed := true, recurses := true, apart := false }
def FnFlatLevelsSaid : Prop := fnFlatLevelsRow.holds Try.pinned (OpenSpec.ofChange fnFlatLevelsSpec)

/-- ITS FALSE NEIGHBOUR: 'it returns false'. Refute it at one input. -/
def fnFlatLevelsWrong : ChangeSpec := { name := "fnFlatLevels", fn := fun _ => fun
  | [d] => { results := [.lit (.bool false)], args := [d] }
  | _ => none }
def FnFlatLevelsWrongFalsely : Prop := fnFlatLevelsRow.holds Try.pinned (OpenSpec.ofChange fnFlatLevelsWrong)

/-- 'laws.FnSharedPacks': WHATEVER THE INPUT: true; the input reads as it did. -/
def fnSharedPacksSpec : ChangeSpec := { name := "fnSharedPacks", fn := fun _ => fun
  | [d] => { results := [.lit (.bool true)], args := [d] }
  | _ => none }
def fnSharedPacksRow : OpenClaim := { program := "ytkagnkecgkmpcaa", sum := "2be3552f2bbe8ab41f25a9fa064b7f4c40d91e37f082c69262f7c138ebcec86f", func := "loop.example/g00852/laws.FnSharedPacks", spec := "fnSharedPacks", inPlace := ["math.sqrt"], unfollowed := true, recurses := true, apart := false }
def FnSharedPacksSaid : Prop := fnSharedPacksRow.holds Try.pinned (OpenSpec.ofChange fnSharedPacksSpec)

/-- ITS FALSE NEIGHBOUR: 'it returns false'. Refute it at one input. -/
def fnSharedPacksWrong : ChangeSpec := { name := "fnSharedPacks", fn := fun _ => fun
  | [d] => { results := [.lit (.bool false)], args := [d] }
  | _ => none }
def FnSharedPacksWrongFalsely : Prop := fnSharedPacksRow.holds Try.pinned (OpenSpec.ofChange fnSharedPacksWrong)

/- THE SECOND FORM. 'bulk': how many values and letters a reading holds, each counted each time it is reached (what is shared counts as often as it is met; a slice's spare places count too). A statement '..UptoSaid' is the law's where the arguments, and the package variables that the reading takes, are together of bulk at most 1048576: NARROWER than '..Said'. Prove '..Said' where nothing that the law and all that it calls make is longer than what came in: it says more and counts as full. Else prove '..UptoSaid'. A law counts once. -/
mutual
def uptoBulk {H : Type} : DataW H → Nat
  | .lit (.string bytes) => bytes.length + 1
  | .lit _ => 1
  | .nil => 1
  | .ptr d => uptoBulk d + 1
  | .slice elems spare => uptoBulkAll elems + uptoBulkAll spare + 1
  | .agg parts => uptoBulkAll parts + 1
  | .iface _ d => uptoBulk d + 1
  | .map entries => uptoBulkEntries entries + 1
  | .held _ => 1
def uptoBulkAll {H : Type} : List (DataW H) → Nat
  | [] => 0
  | d :: r => uptoBulk d + uptoBulkAll r
def uptoBulkEntries {H : Type} : List (Lit × DataW H) → Nat
  | [] => 0
  | x :: r => uptoBulkEntry x + uptoBulkEntries r
def uptoBulkEntry {H : Type} : Lit × DataW H → Nat
  | (.string bytes, d) => bytes.length + uptoBulk d + 1
  | (_, d) => uptoBulk d + 1
 end
def uptoSmall : (H : Type) → List (DataW H) → Bool := fun _ ds => decide (uptoBulkAll ds ≤ 1048576)
def OpenSpec.upto (s : _root_.Go.ChangeSpec) : _root_.Go.OpenSpec := { _root_.Go.OpenSpec.ofChange s with cond := some uptoSmall }

/-- 'laws.FnLinepack', WHERE WHAT IT READS IS OF BULK AT MOST 1048576: true; the input reads as it did. -/
def fnLinepackUptoRow : OpenClaim := { program := "ytkagnkecgkmpcaa", sum := "2be3552f2bbe8ab41f25a9fa064b7f4c40d91e37f082c69262f7c138ebcec86f", func := "loop.example/g00852/laws.FnLinepack", spec := "fnLinepack", inPlace := ["math.sqrt"], unfollowed := true, recurses := true, apart := false, narrowed := true }
def FnLinepackUptoSaid : Prop := fnLinepackUptoRow.holds Try.pinned (OpenSpec.upto fnLinepackSpec)

/-- 'laws.FnFlatLevels', WHERE WHAT IT READS IS OF BULK AT MOST 1048576: true; the input reads as it did. -/
def fnFlatLevelsUptoRow : OpenClaim := { program := "ytkagnkecgkmpcaa", sum := "2be3552f2bbe8ab41f25a9fa064b7f4c40d91e37f082c69262f7c138ebcec86f", func := "loop.example/g00852/laws.FnFlatLevels", spec := "fnFlatLevels", inPlace := ["math.sqrt"], unfollowed := true, recurses := true, apart := false, narrowed := true }
def FnFlatLevelsUptoSaid : Prop := fnFlatLevelsUptoRow.holds Try.pinned (OpenSpec.upto fnFlatLevelsSpec)

/-- 'laws.FnSharedPacks', WHERE WHAT IT READS IS OF BULK AT MOST 1048576: true; the input reads as it did. -/
def fnSharedPacksUptoRow : OpenClaim := { program := "ytkagnkecgkmpcaa", sum := "2be3552f2bbe8ab41f25a9fa064b7f4c40d91e37f082c69262f7c138ebcec86f", func := "loop.example/g00852/laws.FnSharedPacks", spec := "fnSharedPacks", inPlace := ["math.sqrt"], unfollowed := true, recurses := true, apart := false, narrowed := true }
def FnSharedPacksUptoSaid : Prop := fnSharedPacksUptoRow.holds Try.pinned (OpenSpec.upto fnSharedPacksSpec)

end Rows
end Go.Proofs.Ytkagnkecgkmpcaa
