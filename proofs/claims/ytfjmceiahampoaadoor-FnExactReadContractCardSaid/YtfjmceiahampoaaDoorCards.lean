/-
  DERIVED. GIVEN WITH THE SEED: THE CARDS: each row of YtfjmceiahampoaaDoorRows.lean that lists a variable, with what it lists TIED to the program's text (the seventh form; the later family's looks); each row that meets fmt, with fmt's text TOLD by the authors' own Lean function (tested against real Go, not proved from fmt's source: count such statements apart). THE CARD IS WHAT COUNTS. Prove the row's statement (the work); the ties are given (YtfjmceiahampoaaDoorTie.lean); close each card by the builder's one call (the guide's Derived/Test/ToyasCard.lean, 'card_holds'). Laid BY PROGRAM, IN A SANDBOX (cutbox-door.mjs). By AI agents, Wed Nov 11 2026. No macro, syntax, notation, axiom, sorry.
-/
import Derived.Test.YtfjmceiahampoaaDoorRows
import GoSem.ClaimSeven
namespace Go.Proofs.YtfjmceiahampoaaDoor
namespace Rows

/-- THE TIED CARD OF 'laws.FnExactReadContract'. -/
def fnExactReadContractCard : Claim7 := { stood := { row := fnExactReadContractRow, standIns := [], harness := (true, "964b8957f9a0bf14863da3950ca5dd7d76408f6ce1b4216876e4fd04e5c946a6"), looks := true }, kinds := [], alts := [], laidByText := true, laidKinds := [.data, .data, .data, .data, .sentinel, .sentinel, .pinned], laidTests := true, laidLooks := .later }
def FnExactReadContractCardSaid : Prop := Claim7.holds Tryd.pinned (.plain (OpenSpec.ofChange fnExactReadContractSpec)) fnExactReadContractCard

/-- THE TIED CARD OF 'laws.FnExactStoreText'. -/
def fnExactStoreTextCard : Claim7 := { stood := { row := fnExactStoreTextRow, standIns := [], harness := (true, "964b8957f9a0bf14863da3950ca5dd7d76408f6ce1b4216876e4fd04e5c946a6"), looks := true }, kinds := [], alts := [], laidByText := true, laidKinds := [.data, .data, .data], laidTests := true, laidLooks := .later }
def FnExactStoreTextCardSaid : Prop := Claim7.holds Tryd.pinned (.plain (OpenSpec.ofChange fnExactStoreTextSpec)) fnExactStoreTextCard

/-- THE TIED CARD OF 'laws.FnExactContractText'. -/
def fnExactContractTextCard : Claim7 := { stood := { row := fnExactContractTextRow, standIns := [], harness := (true, "964b8957f9a0bf14863da3950ca5dd7d76408f6ce1b4216876e4fd04e5c946a6"), looks := true }, kinds := [], alts := [], laidByText := true, laidKinds := [.data, .data, .data], laidTests := true, laidLooks := .later }
def FnExactContractTextCardSaid : Prop := Claim7.holds Tryd.pinned (.plain (OpenSpec.ofChange fnExactContractTextSpec)) fnExactContractTextCard

/-- THE TIED CARD OF 'laws.FnFollowed'. -/
def fnFollowedCard : Claim7 := { stood := { row := fnFollowedRow, standIns := [], harness := (true, "964b8957f9a0bf14863da3950ca5dd7d76408f6ce1b4216876e4fd04e5c946a6"), looks := true }, kinds := [], alts := [], laidByText := true, laidKinds := [.data, .data, .data, .data, .sentinel, .sentinel, .pinned], laidTests := true, laidLooks := .later }
def FnFollowedCardSaid : Prop := Claim7.holds Tryd.pinned (.plain (OpenSpec.ofChange fnFollowedSpec)) fnFollowedCard

/-- THE TIED CARD OF 'laws.FnExactReadStore'. -/
def fnExactReadStoreCard : Claim7 := { stood := { row := fnExactReadStoreRow, standIns := [], harness := (true, "964b8957f9a0bf14863da3950ca5dd7d76408f6ce1b4216876e4fd04e5c946a6"), looks := true }, kinds := [], alts := [], laidByText := true, laidKinds := [.data, .data, .data, .data, .sentinel, .sentinel, .pinned], laidTests := true, laidLooks := .later }
def FnExactReadStoreCardSaid : Prop := Claim7.holds Tryd.pinned (.plain (OpenSpec.ofChange fnExactReadStoreSpec)) fnExactReadStoreCard

/-- THE SECOND FORM's CARD OF 'laws.FnExactReadContract'. -/
def fnExactReadContractUptoCard : Claim7 := { stood := { row := fnExactReadContractUptoRow, standIns := [], harness := (true, "964b8957f9a0bf14863da3950ca5dd7d76408f6ce1b4216876e4fd04e5c946a6"), looks := true }, kinds := [], alts := [], laidByText := true, laidKinds := [.data, .data, .data, .data, .sentinel, .sentinel, .pinned], laidTests := true, laidLooks := .later }
def FnExactReadContractUptoCardSaid : Prop := Claim7.holds Tryd.pinned (.plain (OpenSpec.upto fnExactReadContractSpec)) fnExactReadContractUptoCard

/-- THE SECOND FORM's CARD OF 'laws.FnExactStoreText'. -/
def fnExactStoreTextUptoCard : Claim7 := { stood := { row := fnExactStoreTextUptoRow, standIns := [], harness := (true, "964b8957f9a0bf14863da3950ca5dd7d76408f6ce1b4216876e4fd04e5c946a6"), looks := true }, kinds := [], alts := [], laidByText := true, laidKinds := [.data, .data, .data], laidTests := true, laidLooks := .later }
def FnExactStoreTextUptoCardSaid : Prop := Claim7.holds Tryd.pinned (.plain (OpenSpec.upto fnExactStoreTextSpec)) fnExactStoreTextUptoCard

/-- THE SECOND FORM's CARD OF 'laws.FnExactContractText'. -/
def fnExactContractTextUptoCard : Claim7 := { stood := { row := fnExactContractTextUptoRow, standIns := [], harness := (true, "964b8957f9a0bf14863da3950ca5dd7d76408f6ce1b4216876e4fd04e5c946a6"), looks := true }, kinds := [], alts := [], laidByText := true, laidKinds := [.data, .data, .data], laidTests := true, laidLooks := .later }
def FnExactContractTextUptoCardSaid : Prop := Claim7.holds Tryd.pinned (.plain (OpenSpec.upto fnExactContractTextSpec)) fnExactContractTextUptoCard

/-- THE SECOND FORM's CARD OF 'laws.FnFollowed'. -/
def fnFollowedUptoCard : Claim7 := { stood := { row := fnFollowedUptoRow, standIns := [], harness := (true, "964b8957f9a0bf14863da3950ca5dd7d76408f6ce1b4216876e4fd04e5c946a6"), looks := true }, kinds := [], alts := [], laidByText := true, laidKinds := [.data, .data, .data, .data, .sentinel, .sentinel, .pinned], laidTests := true, laidLooks := .later }
def FnFollowedUptoCardSaid : Prop := Claim7.holds Tryd.pinned (.plain (OpenSpec.upto fnFollowedSpec)) fnFollowedUptoCard

/-- THE SECOND FORM's CARD OF 'laws.FnExactReadStore'. -/
def fnExactReadStoreUptoCard : Claim7 := { stood := { row := fnExactReadStoreUptoRow, standIns := [], harness := (true, "964b8957f9a0bf14863da3950ca5dd7d76408f6ce1b4216876e4fd04e5c946a6"), looks := true }, kinds := [], alts := [], laidByText := true, laidKinds := [.data, .data, .data, .data, .sentinel, .sentinel, .pinned], laidTests := true, laidLooks := .later }
def FnExactReadStoreUptoCardSaid : Prop := Claim7.holds Tryd.pinned (.plain (OpenSpec.upto fnExactReadStoreSpec)) fnExactReadStoreUptoCard
end Rows
end Go.Proofs.YtfjmceiahampoaaDoor
