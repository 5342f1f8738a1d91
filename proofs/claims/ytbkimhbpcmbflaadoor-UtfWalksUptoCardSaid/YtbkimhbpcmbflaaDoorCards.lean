/-
  DERIVED. GIVEN WITH THE SEED: THE CARDS: each row of YtbkimhbpcmbflaaDoorRows.lean that lists a variable, with what it lists TIED to the program's text (the seventh form; the later family's looks); each row that meets fmt, with fmt's text TOLD by the authors' own Lean function (tested against real Go, not proved from fmt's source: count such statements apart). THE CARD IS WHAT COUNTS. Prove the row's statement (the work); the ties are given (YtbkimhbpcmbflaaDoorTie.lean); close each card by the builder's one call (the guide's Derived/Test/ToyasCard.lean, 'card_holds'). Laid BY PROGRAM, IN A SANDBOX (cutbox-door.mjs). By AI agents, Wed Nov 11 2026. No macro, syntax, notation, axiom, sorry.
-/
import Derived.Test.YtbkimhbpcmbflaaDoorRows
import GoSem.ClaimSeven
namespace Go.Proofs.YtbkimhbpcmbflaaDoor
namespace Rows

/-- THE TIED CARD OF 'glossarylaw02.PointsOf'. -/
def pointsOfCard : Claim7 := { stood := { row := pointsOfRow, standIns := [], harness := (true, "4afcca76ee03ec7aad16e2387d0b410d1e5d790ea602d2b2a4dc153825a3dc25"), looks := true }, kinds := [], alts := [], laidByText := true, laidKinds := [.handle], laidTests := true, laidLooks := .later }
def PointsOfCardSaid : Prop := Claim7.holds Tryd.pinned (.plain (OpenSpec.ofChange pointsOfSpec)) pointsOfCard

/-- THE TIED CARD OF 'glossarylaw02.PointsText'. -/
def pointsTextCard : Claim7 := { stood := { row := pointsTextRow, standIns := [], harness := (true, "4afcca76ee03ec7aad16e2387d0b410d1e5d790ea602d2b2a4dc153825a3dc25"), looks := true }, kinds := [], alts := [], laidByText := true, laidKinds := [.handle], laidTests := true, laidLooks := .later }
def PointsTextCardSaid : Prop := Claim7.holds Tryd.pinned (.plain (OpenSpec.ofChange pointsTextSpec)) pointsTextCard

/-- THE TIED CARD OF 'glossarylaw02.PointsBack'. -/
def pointsBackCard : Claim7 := { stood := { row := pointsBackRow, standIns := [], harness := (true, "4afcca76ee03ec7aad16e2387d0b410d1e5d790ea602d2b2a4dc153825a3dc25"), looks := true }, kinds := [], alts := [], laidByText := true, laidKinds := [.handle], laidTests := true, laidLooks := .later }
def PointsBackCardSaid : Prop := Claim7.holds Tryd.pinned (.plain (OpenSpec.ofChange pointsBackSpec)) pointsBackCard

/-- THE TIED CARD OF 'glossarylaw02.PointsRow'. -/
def pointsRowCard : Claim7 := { stood := { row := pointsRowRow, standIns := [], harness := (true, "4afcca76ee03ec7aad16e2387d0b410d1e5d790ea602d2b2a4dc153825a3dc25"), looks := true }, kinds := [], alts := [], laidByText := true, laidKinds := [.handle], laidTests := true, laidLooks := .later }
def PointsRowCardSaid : Prop := Claim7.holds Tryd.pinned (.plain (OpenSpec.ofChange pointsRowSpec)) pointsRowCard

/-- THE TIED CARD OF 'glossarylaw01.UtfFulls'. -/
def utfFullsCard : Claim7 := { stood := { row := utfFullsRow, standIns := [], harness := (true, "4afcca76ee03ec7aad16e2387d0b410d1e5d790ea602d2b2a4dc153825a3dc25"), looks := true }, kinds := [], alts := [], laidByText := true, laidKinds := [.data, .pinned], laidTests := true, laidLooks := .later }
def UtfFullsCardSaid : Prop := Claim7.holds Tryd.pinned (.plain (OpenSpec.ofChange utfFullsSpec)) utfFullsCard

/-- THE TIED CARD OF 'glossarylaw01.UtfBads'. -/
def utfBadsCard : Claim7 := { stood := { row := utfBadsRow, standIns := [], harness := (true, "4afcca76ee03ec7aad16e2387d0b410d1e5d790ea602d2b2a4dc153825a3dc25"), looks := true }, kinds := [], alts := [], laidByText := true, laidKinds := [.data, .pinned], laidTests := true, laidLooks := .later }
def UtfBadsCardSaid : Prop := Claim7.holds Tryd.pinned (.plain (OpenSpec.ofChange utfBadsSpec)) utfBadsCard

/-- THE TIED CARD OF 'glossarylaw01.UtfMends'. -/
def utfMendsCard : Claim7 := { stood := { row := utfMendsRow, standIns := [], harness := (true, "4afcca76ee03ec7aad16e2387d0b410d1e5d790ea602d2b2a4dc153825a3dc25"), looks := true }, kinds := [], alts := [], laidByText := true, laidKinds := [.data, .pinned], laidTests := true, laidLooks := .later }
def UtfMendsCardSaid : Prop := Claim7.holds Tryd.pinned (.plain (OpenSpec.ofChange utfMendsSpec)) utfMendsCard

/-- THE TIED CARD OF 'glossarylaw01.UtfCuts'. -/
def utfCutsCard : Claim7 := { stood := { row := utfCutsRow, standIns := [], harness := (true, "4afcca76ee03ec7aad16e2387d0b410d1e5d790ea602d2b2a4dc153825a3dc25"), looks := true }, kinds := [], alts := [], laidByText := true, laidKinds := [.data, .pinned], laidTests := true, laidLooks := .later }
def UtfCutsCardSaid : Prop := Claim7.holds Tryd.pinned (.plain (OpenSpec.ofChange utfCutsSpec)) utfCutsCard

/-- THE TIED CARD OF 'glossarylaw01.UtfEncodes'. -/
def utfEncodesCard : Claim7 := { stood := { row := utfEncodesRow, standIns := [], harness := (true, "4afcca76ee03ec7aad16e2387d0b410d1e5d790ea602d2b2a4dc153825a3dc25"), looks := true }, kinds := [], alts := [], laidByText := true, laidKinds := [.data, .pinned], laidTests := true, laidLooks := .later }
def UtfEncodesCardSaid : Prop := Claim7.holds Tryd.pinned (.plain (OpenSpec.ofChange utfEncodesSpec)) utfEncodesCard

/-- THE TIED CARD OF 'glossarylaw02.PointsNext'. -/
def pointsNextCard : Claim7 := { stood := { row := pointsNextRow, standIns := [], harness := (true, "4afcca76ee03ec7aad16e2387d0b410d1e5d790ea602d2b2a4dc153825a3dc25"), looks := true }, kinds := [], alts := [], laidByText := true, laidKinds := [.data, .handle, .pinned], laidTests := true, laidLooks := .later }
def PointsNextCardSaid : Prop := Claim7.holds Tryd.pinned (.plain (OpenSpec.ofChange pointsNextSpec)) pointsNextCard

/-- THE TIED CARD OF 'glossarylaw02.PointsOrder'. -/
def pointsOrderCard : Claim7 := { stood := { row := pointsOrderRow, standIns := [], harness := (true, "4afcca76ee03ec7aad16e2387d0b410d1e5d790ea602d2b2a4dc153825a3dc25"), looks := true }, kinds := [], alts := [], laidByText := true, laidKinds := [.data, .handle, .pinned], laidTests := true, laidLooks := .later }
def PointsOrderCardSaid : Prop := Claim7.holds Tryd.pinned (.plain (OpenSpec.ofChange pointsOrderSpec)) pointsOrderCard

/-- THE TIED CARD OF 'glossarylaw02.PointsRange'. -/
def pointsRangeCard : Claim7 := { stood := { row := pointsRangeRow, standIns := [], harness := (true, "4afcca76ee03ec7aad16e2387d0b410d1e5d790ea602d2b2a4dc153825a3dc25"), looks := true }, kinds := [], alts := [], laidByText := true, laidKinds := [.data, .handle, .pinned], laidTests := true, laidLooks := .later }
def PointsRangeCardSaid : Prop := Claim7.holds Tryd.pinned (.plain (OpenSpec.ofChange pointsRangeSpec)) pointsRangeCard

/-- THE TIED CARD OF 'glossarylaw01.UtfUnits'. -/
def utfUnitsCard : Claim7 := { stood := { row := utfUnitsRow, standIns := [], harness := (true, "4afcca76ee03ec7aad16e2387d0b410d1e5d790ea602d2b2a4dc153825a3dc25"), looks := true }, kinds := [], alts := [], laidByText := true, laidKinds := [.data, .pinned], laidTests := true, laidLooks := .later }
def UtfUnitsCardSaid : Prop := Claim7.holds Tryd.pinned (.plain (OpenSpec.ofChange utfUnitsSpec)) utfUnitsCard

/-- THE TIED CARD OF 'glossarylaw01.UtfWalks'. -/
def utfWalksCard : Claim7 := { stood := { row := utfWalksRow, standIns := [], harness := (true, "4afcca76ee03ec7aad16e2387d0b410d1e5d790ea602d2b2a4dc153825a3dc25"), looks := true }, kinds := [], alts := [], laidByText := true, laidKinds := [.data, .pinned], laidTests := true, laidLooks := .later }
def UtfWalksCardSaid : Prop := Claim7.holds Tryd.pinned (.plain (OpenSpec.ofChange utfWalksSpec)) utfWalksCard

/-- THE TIED CARD OF 'glossarylaw02.PointsMutual'. -/
def pointsMutualCard : Claim7 := { stood := { row := pointsMutualRow, standIns := [], harness := (true, "4afcca76ee03ec7aad16e2387d0b410d1e5d790ea602d2b2a4dc153825a3dc25"), looks := true }, kinds := [], alts := [], laidByText := true, laidKinds := [.data, .handle, .pinned], laidTests := true, laidLooks := .later }
def PointsMutualCardSaid : Prop := Claim7.holds Tryd.pinned (.plain (OpenSpec.ofChange pointsMutualSpec)) pointsMutualCard

/-- THE TIED CARD OF 'glossarylaw02.PointsPlaces'. -/
def pointsPlacesCard : Claim7 := { stood := { row := pointsPlacesRow, standIns := [], harness := (true, "4afcca76ee03ec7aad16e2387d0b410d1e5d790ea602d2b2a4dc153825a3dc25"), looks := true }, kinds := [], alts := [], laidByText := true, laidKinds := [.data, .handle, .pinned], laidTests := true, laidLooks := .later }
def PointsPlacesCardSaid : Prop := Claim7.holds Tryd.pinned (.plain (OpenSpec.ofChange pointsPlacesSpec)) pointsPlacesCard

/-- THE TIED CARD OF 'glossarylaw02.PointsKnown'. -/
def pointsKnownCard : Claim7 := { stood := { row := pointsKnownRow, standIns := [], harness := (true, "4afcca76ee03ec7aad16e2387d0b410d1e5d790ea602d2b2a4dc153825a3dc25"), looks := true }, kinds := [], alts := [], laidByText := true, laidKinds := [.data, .handle, .pinned], laidTests := true, laidLooks := .later }
def PointsKnownCardSaid : Prop := Claim7.holds Tryd.pinned (.plain (OpenSpec.ofChange pointsKnownSpec)) pointsKnownCard

/-- THE TIED CARD OF 'glossarylaw01.UtfMended'. -/
def utfMendedCard : Claim7 := { stood := { row := utfMendedRow, standIns := [], harness := (true, "4afcca76ee03ec7aad16e2387d0b410d1e5d790ea602d2b2a4dc153825a3dc25"), looks := true }, kinds := [], alts := [], laidByText := true, laidKinds := [.data, .pinned], laidTests := true, laidLooks := .later }
def UtfMendedCardSaid : Prop := Claim7.holds Tryd.pinned (.plain (OpenSpec.ofChange utfMendedSpec)) utfMendedCard

/-- THE TIED CARD OF 'glossarylaw01.UtfRange'. -/
def utfRangeCard : Claim7 := { stood := { row := utfRangeRow, standIns := [], harness := (true, "4afcca76ee03ec7aad16e2387d0b410d1e5d790ea602d2b2a4dc153825a3dc25"), looks := true }, kinds := [], alts := [], laidByText := true, laidKinds := [.data, .pinned], laidTests := true, laidLooks := .later }
def UtfRangeCardSaid : Prop := Claim7.holds Tryd.pinned (.plain (OpenSpec.ofChange utfRangeSpec)) utfRangeCard

/-- THE TIED CARD OF 'glossarylaw01.UtfKnown'. -/
def utfKnownCard : Claim7 := { stood := { row := utfKnownRow, standIns := [], harness := (true, "4afcca76ee03ec7aad16e2387d0b410d1e5d790ea602d2b2a4dc153825a3dc25"), looks := true }, kinds := [], alts := [], laidByText := true, laidKinds := [.data, .pinned], laidTests := true, laidLooks := .later }
def UtfKnownCardSaid : Prop := Claim7.holds Tryd.pinned (.plain (OpenSpec.ofChange utfKnownSpec)) utfKnownCard

/-- THE TIED CARD OF 'glossarylaw01.UtfSides'. -/
def utfSidesCard : Claim7 := { stood := { row := utfSidesRow, standIns := [], harness := (true, "4afcca76ee03ec7aad16e2387d0b410d1e5d790ea602d2b2a4dc153825a3dc25"), looks := true }, kinds := [], alts := [], laidByText := true, laidKinds := [.data, .pinned], laidTests := true, laidLooks := .later }
def UtfSidesCardSaid : Prop := Claim7.holds Tryd.pinned (.plain (OpenSpec.ofChange utfSidesSpec)) utfSidesCard

/-- THE SECOND FORM's CARD OF 'glossarylaw02.PointsOf'. -/
def pointsOfUptoCard : Claim7 := { stood := { row := pointsOfUptoRow, standIns := [], harness := (true, "4afcca76ee03ec7aad16e2387d0b410d1e5d790ea602d2b2a4dc153825a3dc25"), looks := true }, kinds := [], alts := [], laidByText := true, laidKinds := [.handle], laidTests := true, laidLooks := .later }
def PointsOfUptoCardSaid : Prop := Claim7.holds Tryd.pinned (.plain (OpenSpec.upto pointsOfSpec)) pointsOfUptoCard

/-- THE SECOND FORM's CARD OF 'glossarylaw02.PointsText'. -/
def pointsTextUptoCard : Claim7 := { stood := { row := pointsTextUptoRow, standIns := [], harness := (true, "4afcca76ee03ec7aad16e2387d0b410d1e5d790ea602d2b2a4dc153825a3dc25"), looks := true }, kinds := [], alts := [], laidByText := true, laidKinds := [.handle], laidTests := true, laidLooks := .later }
def PointsTextUptoCardSaid : Prop := Claim7.holds Tryd.pinned (.plain (OpenSpec.upto pointsTextSpec)) pointsTextUptoCard

/-- THE SECOND FORM's CARD OF 'glossarylaw02.PointsBack'. -/
def pointsBackUptoCard : Claim7 := { stood := { row := pointsBackUptoRow, standIns := [], harness := (true, "4afcca76ee03ec7aad16e2387d0b410d1e5d790ea602d2b2a4dc153825a3dc25"), looks := true }, kinds := [], alts := [], laidByText := true, laidKinds := [.handle], laidTests := true, laidLooks := .later }
def PointsBackUptoCardSaid : Prop := Claim7.holds Tryd.pinned (.plain (OpenSpec.upto pointsBackSpec)) pointsBackUptoCard

/-- THE SECOND FORM's CARD OF 'glossarylaw02.PointsRow'. -/
def pointsRowUptoCard : Claim7 := { stood := { row := pointsRowUptoRow, standIns := [], harness := (true, "4afcca76ee03ec7aad16e2387d0b410d1e5d790ea602d2b2a4dc153825a3dc25"), looks := true }, kinds := [], alts := [], laidByText := true, laidKinds := [.handle], laidTests := true, laidLooks := .later }
def PointsRowUptoCardSaid : Prop := Claim7.holds Tryd.pinned (.plain (OpenSpec.upto pointsRowSpec)) pointsRowUptoCard

/-- THE SECOND FORM's CARD OF 'glossarylaw01.UtfFulls'. -/
def utfFullsUptoCard : Claim7 := { stood := { row := utfFullsUptoRow, standIns := [], harness := (true, "4afcca76ee03ec7aad16e2387d0b410d1e5d790ea602d2b2a4dc153825a3dc25"), looks := true }, kinds := [], alts := [], laidByText := true, laidKinds := [.data, .pinned], laidTests := true, laidLooks := .later }
def UtfFullsUptoCardSaid : Prop := Claim7.holds Tryd.pinned (.plain (OpenSpec.upto utfFullsSpec)) utfFullsUptoCard

/-- THE SECOND FORM's CARD OF 'glossarylaw01.UtfBads'. -/
def utfBadsUptoCard : Claim7 := { stood := { row := utfBadsUptoRow, standIns := [], harness := (true, "4afcca76ee03ec7aad16e2387d0b410d1e5d790ea602d2b2a4dc153825a3dc25"), looks := true }, kinds := [], alts := [], laidByText := true, laidKinds := [.data, .pinned], laidTests := true, laidLooks := .later }
def UtfBadsUptoCardSaid : Prop := Claim7.holds Tryd.pinned (.plain (OpenSpec.upto utfBadsSpec)) utfBadsUptoCard

/-- THE SECOND FORM's CARD OF 'glossarylaw01.UtfMends'. -/
def utfMendsUptoCard : Claim7 := { stood := { row := utfMendsUptoRow, standIns := [], harness := (true, "4afcca76ee03ec7aad16e2387d0b410d1e5d790ea602d2b2a4dc153825a3dc25"), looks := true }, kinds := [], alts := [], laidByText := true, laidKinds := [.data, .pinned], laidTests := true, laidLooks := .later }
def UtfMendsUptoCardSaid : Prop := Claim7.holds Tryd.pinned (.plain (OpenSpec.upto utfMendsSpec)) utfMendsUptoCard

/-- THE SECOND FORM's CARD OF 'glossarylaw01.UtfCuts'. -/
def utfCutsUptoCard : Claim7 := { stood := { row := utfCutsUptoRow, standIns := [], harness := (true, "4afcca76ee03ec7aad16e2387d0b410d1e5d790ea602d2b2a4dc153825a3dc25"), looks := true }, kinds := [], alts := [], laidByText := true, laidKinds := [.data, .pinned], laidTests := true, laidLooks := .later }
def UtfCutsUptoCardSaid : Prop := Claim7.holds Tryd.pinned (.plain (OpenSpec.upto utfCutsSpec)) utfCutsUptoCard

/-- THE SECOND FORM's CARD OF 'glossarylaw01.UtfEncodes'. -/
def utfEncodesUptoCard : Claim7 := { stood := { row := utfEncodesUptoRow, standIns := [], harness := (true, "4afcca76ee03ec7aad16e2387d0b410d1e5d790ea602d2b2a4dc153825a3dc25"), looks := true }, kinds := [], alts := [], laidByText := true, laidKinds := [.data, .pinned], laidTests := true, laidLooks := .later }
def UtfEncodesUptoCardSaid : Prop := Claim7.holds Tryd.pinned (.plain (OpenSpec.upto utfEncodesSpec)) utfEncodesUptoCard

/-- THE SECOND FORM's CARD OF 'glossarylaw02.PointsNext'. -/
def pointsNextUptoCard : Claim7 := { stood := { row := pointsNextUptoRow, standIns := [], harness := (true, "4afcca76ee03ec7aad16e2387d0b410d1e5d790ea602d2b2a4dc153825a3dc25"), looks := true }, kinds := [], alts := [], laidByText := true, laidKinds := [.data, .handle, .pinned], laidTests := true, laidLooks := .later }
def PointsNextUptoCardSaid : Prop := Claim7.holds Tryd.pinned (.plain (OpenSpec.upto pointsNextSpec)) pointsNextUptoCard

/-- THE SECOND FORM's CARD OF 'glossarylaw02.PointsOrder'. -/
def pointsOrderUptoCard : Claim7 := { stood := { row := pointsOrderUptoRow, standIns := [], harness := (true, "4afcca76ee03ec7aad16e2387d0b410d1e5d790ea602d2b2a4dc153825a3dc25"), looks := true }, kinds := [], alts := [], laidByText := true, laidKinds := [.data, .handle, .pinned], laidTests := true, laidLooks := .later }
def PointsOrderUptoCardSaid : Prop := Claim7.holds Tryd.pinned (.plain (OpenSpec.upto pointsOrderSpec)) pointsOrderUptoCard

/-- THE SECOND FORM's CARD OF 'glossarylaw02.PointsRange'. -/
def pointsRangeUptoCard : Claim7 := { stood := { row := pointsRangeUptoRow, standIns := [], harness := (true, "4afcca76ee03ec7aad16e2387d0b410d1e5d790ea602d2b2a4dc153825a3dc25"), looks := true }, kinds := [], alts := [], laidByText := true, laidKinds := [.data, .handle, .pinned], laidTests := true, laidLooks := .later }
def PointsRangeUptoCardSaid : Prop := Claim7.holds Tryd.pinned (.plain (OpenSpec.upto pointsRangeSpec)) pointsRangeUptoCard

/-- THE SECOND FORM's CARD OF 'glossarylaw01.UtfUnits'. -/
def utfUnitsUptoCard : Claim7 := { stood := { row := utfUnitsUptoRow, standIns := [], harness := (true, "4afcca76ee03ec7aad16e2387d0b410d1e5d790ea602d2b2a4dc153825a3dc25"), looks := true }, kinds := [], alts := [], laidByText := true, laidKinds := [.data, .pinned], laidTests := true, laidLooks := .later }
def UtfUnitsUptoCardSaid : Prop := Claim7.holds Tryd.pinned (.plain (OpenSpec.upto utfUnitsSpec)) utfUnitsUptoCard

/-- THE SECOND FORM's CARD OF 'glossarylaw01.UtfWalks'. -/
def utfWalksUptoCard : Claim7 := { stood := { row := utfWalksUptoRow, standIns := [], harness := (true, "4afcca76ee03ec7aad16e2387d0b410d1e5d790ea602d2b2a4dc153825a3dc25"), looks := true }, kinds := [], alts := [], laidByText := true, laidKinds := [.data, .pinned], laidTests := true, laidLooks := .later }
def UtfWalksUptoCardSaid : Prop := Claim7.holds Tryd.pinned (.plain (OpenSpec.upto utfWalksSpec)) utfWalksUptoCard

/-- THE SECOND FORM's CARD OF 'glossarylaw02.PointsMutual'. -/
def pointsMutualUptoCard : Claim7 := { stood := { row := pointsMutualUptoRow, standIns := [], harness := (true, "4afcca76ee03ec7aad16e2387d0b410d1e5d790ea602d2b2a4dc153825a3dc25"), looks := true }, kinds := [], alts := [], laidByText := true, laidKinds := [.data, .handle, .pinned], laidTests := true, laidLooks := .later }
def PointsMutualUptoCardSaid : Prop := Claim7.holds Tryd.pinned (.plain (OpenSpec.upto pointsMutualSpec)) pointsMutualUptoCard

/-- THE SECOND FORM's CARD OF 'glossarylaw02.PointsPlaces'. -/
def pointsPlacesUptoCard : Claim7 := { stood := { row := pointsPlacesUptoRow, standIns := [], harness := (true, "4afcca76ee03ec7aad16e2387d0b410d1e5d790ea602d2b2a4dc153825a3dc25"), looks := true }, kinds := [], alts := [], laidByText := true, laidKinds := [.data, .handle, .pinned], laidTests := true, laidLooks := .later }
def PointsPlacesUptoCardSaid : Prop := Claim7.holds Tryd.pinned (.plain (OpenSpec.upto pointsPlacesSpec)) pointsPlacesUptoCard

/-- THE SECOND FORM's CARD OF 'glossarylaw02.PointsKnown'. -/
def pointsKnownUptoCard : Claim7 := { stood := { row := pointsKnownUptoRow, standIns := [], harness := (true, "4afcca76ee03ec7aad16e2387d0b410d1e5d790ea602d2b2a4dc153825a3dc25"), looks := true }, kinds := [], alts := [], laidByText := true, laidKinds := [.data, .handle, .pinned], laidTests := true, laidLooks := .later }
def PointsKnownUptoCardSaid : Prop := Claim7.holds Tryd.pinned (.plain (OpenSpec.upto pointsKnownSpec)) pointsKnownUptoCard

/-- THE SECOND FORM's CARD OF 'glossarylaw01.UtfMended'. -/
def utfMendedUptoCard : Claim7 := { stood := { row := utfMendedUptoRow, standIns := [], harness := (true, "4afcca76ee03ec7aad16e2387d0b410d1e5d790ea602d2b2a4dc153825a3dc25"), looks := true }, kinds := [], alts := [], laidByText := true, laidKinds := [.data, .pinned], laidTests := true, laidLooks := .later }
def UtfMendedUptoCardSaid : Prop := Claim7.holds Tryd.pinned (.plain (OpenSpec.upto utfMendedSpec)) utfMendedUptoCard

/-- THE SECOND FORM's CARD OF 'glossarylaw01.UtfRange'. -/
def utfRangeUptoCard : Claim7 := { stood := { row := utfRangeUptoRow, standIns := [], harness := (true, "4afcca76ee03ec7aad16e2387d0b410d1e5d790ea602d2b2a4dc153825a3dc25"), looks := true }, kinds := [], alts := [], laidByText := true, laidKinds := [.data, .pinned], laidTests := true, laidLooks := .later }
def UtfRangeUptoCardSaid : Prop := Claim7.holds Tryd.pinned (.plain (OpenSpec.upto utfRangeSpec)) utfRangeUptoCard

/-- THE SECOND FORM's CARD OF 'glossarylaw01.UtfKnown'. -/
def utfKnownUptoCard : Claim7 := { stood := { row := utfKnownUptoRow, standIns := [], harness := (true, "4afcca76ee03ec7aad16e2387d0b410d1e5d790ea602d2b2a4dc153825a3dc25"), looks := true }, kinds := [], alts := [], laidByText := true, laidKinds := [.data, .pinned], laidTests := true, laidLooks := .later }
def UtfKnownUptoCardSaid : Prop := Claim7.holds Tryd.pinned (.plain (OpenSpec.upto utfKnownSpec)) utfKnownUptoCard

/-- THE SECOND FORM's CARD OF 'glossarylaw01.UtfSides'. -/
def utfSidesUptoCard : Claim7 := { stood := { row := utfSidesUptoRow, standIns := [], harness := (true, "4afcca76ee03ec7aad16e2387d0b410d1e5d790ea602d2b2a4dc153825a3dc25"), looks := true }, kinds := [], alts := [], laidByText := true, laidKinds := [.data, .pinned], laidTests := true, laidLooks := .later }
def UtfSidesUptoCardSaid : Prop := Claim7.holds Tryd.pinned (.plain (OpenSpec.upto utfSidesSpec)) utfSidesUptoCard
end Rows
end Go.Proofs.YtbkimhbpcmbflaaDoor
