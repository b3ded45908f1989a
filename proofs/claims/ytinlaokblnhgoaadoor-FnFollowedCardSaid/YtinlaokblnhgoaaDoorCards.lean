/-
  DERIVED. GIVEN WITH THE SEED: THE CARDS: each row of YtinlaokblnhgoaaDoorRows.lean that lists a variable, with what it lists TIED to the program's text (the seventh form; the later family's looks); each row that meets fmt, with fmt's text TOLD by the authors' own Lean function (tested against real Go, not proved from fmt's source: count such statements apart). THE CARD IS WHAT COUNTS. Prove the row's statement (the work); the ties are given (YtinlaokblnhgoaaDoorTie.lean); close each card by the builder's one call (the guide's Derived/Test/ToyasCard.lean, 'card_holds'). Laid BY PROGRAM, IN A SANDBOX (cutbox-door.mjs). By AI agents, Wed Nov 11 2026. No macro, syntax, notation, axiom, sorry.
-/
import Derived.Test.YtinlaokblnhgoaaDoorRows
import GoSem.ClaimSeven
namespace Go.Proofs.YtinlaokblnhgoaaDoor
namespace Rows

/-- THE TIED CARD OF 'laws.FnFollowed'. -/
def fnFollowedCard : Claim7 := { stood := { row := fnFollowedRow, standIns := [], harness := (true, "17df7690c8bdc13d7eac8f2333ddc11028358b96173377430d8bc6ed427695fa"), looks := true }, kinds := [], alts := [], laidByText := true, laidKinds := [.data, .data, .data, .data, .sentinel, .sentinel, .pinned], laidTests := true, laidLooks := .later }
def FnFollowedCardSaid : Prop := Claim7.holds Tryd.pinned (.plain (OpenSpec.ofChange fnFollowedSpec)) fnFollowedCard

/-- THE SECOND FORM's CARD OF 'laws.FnFollowed'. -/
def fnFollowedUptoCard : Claim7 := { stood := { row := fnFollowedUptoRow, standIns := [], harness := (true, "17df7690c8bdc13d7eac8f2333ddc11028358b96173377430d8bc6ed427695fa"), looks := true }, kinds := [], alts := [], laidByText := true, laidKinds := [.data, .data, .data, .data, .sentinel, .sentinel, .pinned], laidTests := true, laidLooks := .later }
def FnFollowedUptoCardSaid : Prop := Claim7.holds Tryd.pinned (.plain (OpenSpec.upto fnFollowedSpec)) fnFollowedUptoCard
end Rows
end Go.Proofs.YtinlaokblnhgoaaDoor
