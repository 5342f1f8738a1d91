/-
  DERIVED. GIVEN WITH THE SEED: THE CARDS: each row of YtlomjbfhalmalaaGreatDoorRows.lean that lists a variable, with what it lists TIED to the program's text (the seventh form; the later family's looks); each row that meets fmt, with fmt's text TOLD by the authors' own Lean function (tested against real Go, not proved from fmt's source: count such statements apart). THE CARD IS WHAT COUNTS. Prove the row's statement (the work); the ties are given (YtlomjbfhalmalaaGreatDoorTie.lean); close each card by the builder's one call (the guide's Derived/Test/ToyasCard.lean, 'card_holds'). Laid BY PROGRAM, IN A SANDBOX (cutbox-door.mjs). By AI agents, Wed Nov 11 2026. No macro, syntax, notation, axiom, sorry.
-/
import Derived.Test.YtlomjbfhalmalaaGreatDoorRows
import GoSem.ClaimSeven
namespace Go.Proofs.YtlomjbfhalmalaaGreatDoor
namespace Rows

/-- THE TIED CARD OF 'glossarylaw28.QueryPrints'. -/
def queryPrintsCard : Claim7 := { stood := { row := queryPrintsRow, standIns := [], harness := (true, "9c906e2db941e449e0817f9a65fc0c5c9fcf1d344643e0fa473ffb65c0b15fd3"), looks := true }, kinds := [], alts := [], laidByText := true, laidKinds := [.data, .handle, .pinned], laidTests := true, laidLooks := .later }
def QueryPrintsCardSaid : Prop := Claim7.holds Tryz.pinned (.plain (OpenSpec.ofChange queryPrintsSpec)) queryPrintsCard

/-- THE TIED CARD OF 'glossarylaw28.QueryLikes'. -/
def queryLikesCard : Claim7 := { stood := { row := queryLikesRow, standIns := [], harness := (true, "9c906e2db941e449e0817f9a65fc0c5c9fcf1d344643e0fa473ffb65c0b15fd3"), looks := true }, kinds := [], alts := [], laidByText := true, laidKinds := [.data, .handle, .pinned], laidTests := true, laidLooks := .later }
def QueryLikesCardSaid : Prop := Claim7.holds Tryz.pinned (.plain (OpenSpec.ofChange queryLikesSpec)) queryLikesCard

/-- THE TIED CARD OF 'glossarylaw28.QueryEdits'. -/
def queryEditsCard : Claim7 := { stood := { row := queryEditsRow, standIns := [], harness := (true, "9c906e2db941e449e0817f9a65fc0c5c9fcf1d344643e0fa473ffb65c0b15fd3"), looks := true }, kinds := [], alts := [], laidByText := true, laidKinds := [.data, .handle, .pinned], laidTests := true, laidLooks := .later }
def QueryEditsCardSaid : Prop := Claim7.holds Tryz.pinned (.plain (OpenSpec.ofChange queryEditsSpec)) queryEditsCard

/-- THE TIED CARD OF 'glossarylaw28.QueryBack'. -/
def queryBackCard : Claim7 := { stood := { row := queryBackRow, standIns := [], harness := (true, "9c906e2db941e449e0817f9a65fc0c5c9fcf1d344643e0fa473ffb65c0b15fd3"), looks := true }, kinds := [], alts := [], laidByText := true, laidKinds := [.data, .handle, .pinned], laidTests := true, laidLooks := .later }
def QueryBackCardSaid : Prop := Claim7.holds Tryz.pinned (.plain (OpenSpec.ofChange queryBackSpec)) queryBackCard

/-- THE TIED CARD OF 'glossarylaw28.QueryForm'. -/
def queryFormCard : Claim7 := { stood := { row := queryFormRow, standIns := [], harness := (true, "9c906e2db941e449e0817f9a65fc0c5c9fcf1d344643e0fa473ffb65c0b15fd3"), looks := true }, kinds := [], alts := [], laidByText := true, laidKinds := [.data, .handle, .pinned], laidTests := true, laidLooks := .later }
def QueryFormCardSaid : Prop := Claim7.holds Tryz.pinned (.plain (OpenSpec.ofChange queryFormSpec)) queryFormCard

/-- THE TIED CARD OF 'glossarylaw28.QueryNear'. -/
def queryNearCard : Claim7 := { stood := { row := queryNearRow, standIns := [], harness := (true, "9c906e2db941e449e0817f9a65fc0c5c9fcf1d344643e0fa473ffb65c0b15fd3"), looks := true }, kinds := [], alts := [], laidByText := true, laidKinds := [.data, .handle, .pinned], laidTests := true, laidLooks := .later }
def QueryNearCardSaid : Prop := Claim7.holds Tryz.pinned (.plain (OpenSpec.ofChange queryNearSpec)) queryNearCard

/-- THE TIED CARD OF 'glossarylaw28.QueryKnown'. -/
def queryKnownCard : Claim7 := { stood := { row := queryKnownRow, standIns := [], harness := (true, "9c906e2db941e449e0817f9a65fc0c5c9fcf1d344643e0fa473ffb65c0b15fd3"), looks := true }, kinds := [], alts := [], laidByText := true, laidKinds := [.data, .handle, .pinned], laidTests := true, laidLooks := .later }
def QueryKnownCardSaid : Prop := Claim7.holds Tryz.pinned (.plain (OpenSpec.ofChange queryKnownSpec)) queryKnownCard

/-- THE TIED CARD OF 'glossarylaw28.QueryTakes'. -/
def queryTakesCard : Claim7 := { stood := { row := queryTakesRow, standIns := [], harness := (true, "9c906e2db941e449e0817f9a65fc0c5c9fcf1d344643e0fa473ffb65c0b15fd3"), looks := true }, kinds := [], alts := [], laidByText := true, laidKinds := [.data, .handle, .pinned], laidTests := true, laidLooks := .later }
def QueryTakesCardSaid : Prop := Claim7.holds Tryz.pinned (.plain (OpenSpec.ofChange queryTakesSpec)) queryTakesCard

/-- THE SECOND FORM's CARD OF 'glossarylaw28.QueryPrints'. -/
def queryPrintsUptoCard : Claim7 := { stood := { row := queryPrintsUptoRow, standIns := [], harness := (true, "9c906e2db941e449e0817f9a65fc0c5c9fcf1d344643e0fa473ffb65c0b15fd3"), looks := true }, kinds := [], alts := [], laidByText := true, laidKinds := [.data, .handle, .pinned], laidTests := true, laidLooks := .later }
def QueryPrintsUptoCardSaid : Prop := Claim7.holds Tryz.pinned (.plain (OpenSpec.upto queryPrintsSpec)) queryPrintsUptoCard

/-- THE SECOND FORM's CARD OF 'glossarylaw28.QueryLikes'. -/
def queryLikesUptoCard : Claim7 := { stood := { row := queryLikesUptoRow, standIns := [], harness := (true, "9c906e2db941e449e0817f9a65fc0c5c9fcf1d344643e0fa473ffb65c0b15fd3"), looks := true }, kinds := [], alts := [], laidByText := true, laidKinds := [.data, .handle, .pinned], laidTests := true, laidLooks := .later }
def QueryLikesUptoCardSaid : Prop := Claim7.holds Tryz.pinned (.plain (OpenSpec.upto queryLikesSpec)) queryLikesUptoCard

/-- THE SECOND FORM's CARD OF 'glossarylaw28.QueryEdits'. -/
def queryEditsUptoCard : Claim7 := { stood := { row := queryEditsUptoRow, standIns := [], harness := (true, "9c906e2db941e449e0817f9a65fc0c5c9fcf1d344643e0fa473ffb65c0b15fd3"), looks := true }, kinds := [], alts := [], laidByText := true, laidKinds := [.data, .handle, .pinned], laidTests := true, laidLooks := .later }
def QueryEditsUptoCardSaid : Prop := Claim7.holds Tryz.pinned (.plain (OpenSpec.upto queryEditsSpec)) queryEditsUptoCard

/-- THE SECOND FORM's CARD OF 'glossarylaw28.QueryBack'. -/
def queryBackUptoCard : Claim7 := { stood := { row := queryBackUptoRow, standIns := [], harness := (true, "9c906e2db941e449e0817f9a65fc0c5c9fcf1d344643e0fa473ffb65c0b15fd3"), looks := true }, kinds := [], alts := [], laidByText := true, laidKinds := [.data, .handle, .pinned], laidTests := true, laidLooks := .later }
def QueryBackUptoCardSaid : Prop := Claim7.holds Tryz.pinned (.plain (OpenSpec.upto queryBackSpec)) queryBackUptoCard

/-- THE SECOND FORM's CARD OF 'glossarylaw28.QueryForm'. -/
def queryFormUptoCard : Claim7 := { stood := { row := queryFormUptoRow, standIns := [], harness := (true, "9c906e2db941e449e0817f9a65fc0c5c9fcf1d344643e0fa473ffb65c0b15fd3"), looks := true }, kinds := [], alts := [], laidByText := true, laidKinds := [.data, .handle, .pinned], laidTests := true, laidLooks := .later }
def QueryFormUptoCardSaid : Prop := Claim7.holds Tryz.pinned (.plain (OpenSpec.upto queryFormSpec)) queryFormUptoCard

/-- THE SECOND FORM's CARD OF 'glossarylaw28.QueryNear'. -/
def queryNearUptoCard : Claim7 := { stood := { row := queryNearUptoRow, standIns := [], harness := (true, "9c906e2db941e449e0817f9a65fc0c5c9fcf1d344643e0fa473ffb65c0b15fd3"), looks := true }, kinds := [], alts := [], laidByText := true, laidKinds := [.data, .handle, .pinned], laidTests := true, laidLooks := .later }
def QueryNearUptoCardSaid : Prop := Claim7.holds Tryz.pinned (.plain (OpenSpec.upto queryNearSpec)) queryNearUptoCard

/-- THE SECOND FORM's CARD OF 'glossarylaw28.QueryKnown'. -/
def queryKnownUptoCard : Claim7 := { stood := { row := queryKnownUptoRow, standIns := [], harness := (true, "9c906e2db941e449e0817f9a65fc0c5c9fcf1d344643e0fa473ffb65c0b15fd3"), looks := true }, kinds := [], alts := [], laidByText := true, laidKinds := [.data, .handle, .pinned], laidTests := true, laidLooks := .later }
def QueryKnownUptoCardSaid : Prop := Claim7.holds Tryz.pinned (.plain (OpenSpec.upto queryKnownSpec)) queryKnownUptoCard

/-- THE SECOND FORM's CARD OF 'glossarylaw28.QueryTakes'. -/
def queryTakesUptoCard : Claim7 := { stood := { row := queryTakesUptoRow, standIns := [], harness := (true, "9c906e2db941e449e0817f9a65fc0c5c9fcf1d344643e0fa473ffb65c0b15fd3"), looks := true }, kinds := [], alts := [], laidByText := true, laidKinds := [.data, .handle, .pinned], laidTests := true, laidLooks := .later }
def QueryTakesUptoCardSaid : Prop := Claim7.holds Tryz.pinned (.plain (OpenSpec.upto queryTakesSpec)) queryTakesUptoCard
end Rows
end Go.Proofs.YtlomjbfhalmalaaGreatDoor
