/-
  DERIVED. GIVEN WITH THE SEED: THE CARDS: each row of YtbdacplndmnkhaaGreatDoorRows.lean that lists a variable, with what it lists TIED to the program's text (the seventh form; the later family's looks); each row that meets fmt, with fmt's text TOLD by the authors' own Lean function (tested against real Go, not proved from fmt's source: count such statements apart). THE CARD IS WHAT COUNTS. Prove the row's statement (the work); the ties are given (YtbdacplndmnkhaaGreatDoorTie.lean); close each card by the builder's one call (the guide's Derived/Test/ToyasCard.lean, 'card_holds'). Laid BY PROGRAM, IN A SANDBOX (cutbox-door.mjs). By AI agents, Wed Nov 11 2026. No macro, syntax, notation, axiom, sorry.
-/
import Derived.Test.YtbdacplndmnkhaaGreatDoorRows
import GoSem.ClaimSeven
namespace Go.Proofs.YtbdacplndmnkhaaGreatDoor
namespace Rows

/-- THE TIED CARD OF 'laws.FnContractText'. -/
def fnContractTextCard : Claim7 := { stood := { row := fnContractTextRow, standIns := [], harness := (true, "9f7a07315b4e4d0b96936253387e49cfb686d380dde8b9a1ebff9c525fcdf957"), looks := true }, kinds := [], alts := [], laidByText := true, laidKinds := [.data, .data, .data, .data, .sentinel, .sentinel, .pinned], laidTests := true, laidLooks := .later }
def FnContractTextCardSaid : Prop := Claim7.holds Tryz.pinned (.plain (OpenSpec.ofChange fnContractTextSpec)) fnContractTextCard

/-- THE SECOND FORM's CARD OF 'laws.FnContractText'. -/
def fnContractTextUptoCard : Claim7 := { stood := { row := fnContractTextUptoRow, standIns := [], harness := (true, "9f7a07315b4e4d0b96936253387e49cfb686d380dde8b9a1ebff9c525fcdf957"), looks := true }, kinds := [], alts := [], laidByText := true, laidKinds := [.data, .data, .data, .data, .sentinel, .sentinel, .pinned], laidTests := true, laidLooks := .later }
def FnContractTextUptoCardSaid : Prop := Claim7.holds Tryz.pinned (.plain (OpenSpec.upto fnContractTextSpec)) fnContractTextUptoCard
end Rows
end Go.Proofs.YtbdacplndmnkhaaGreatDoor
