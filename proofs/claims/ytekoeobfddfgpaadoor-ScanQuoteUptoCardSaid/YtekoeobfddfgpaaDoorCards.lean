/-
  DERIVED. GIVEN WITH THE SEED: THE CARDS: each row of YtekoeobfddfgpaaDoorRows.lean that lists a variable, with what it lists TIED to the program's text (the seventh form; the later family's looks); each row that meets fmt, with fmt's text TOLD by the authors' own Lean function (tested against real Go, not proved from fmt's source: count such statements apart). THE CARD IS WHAT COUNTS. Prove the row's statement (the work); the ties are given (YtekoeobfddfgpaaDoorTie.lean); close each card by the builder's one call (the guide's Derived/Test/ToyasCard.lean, 'card_holds'). Laid BY PROGRAM, IN A SANDBOX (cutbox-door.mjs). By AI agents, Wed Nov 11 2026. No macro, syntax, notation, axiom, sorry.
-/
import Derived.Test.YtekoeobfddfgpaaDoorRows
import GoSem.ClaimSeven
namespace Go.Proofs.YtekoeobfddfgpaaDoor
namespace Rows

/-- THE TIED CARD OF 'glossarylaw05.ScanJoined'. -/
def scanJoinedCard : Claim7 := { stood := { row := scanJoinedRow, standIns := [], harness := (true, "8010f53d0906501386fc8e9beb78ced7482d251f4fdb64311fca396d3493aa65"), looks := true }, kinds := [], alts := [], laidByText := true, laidKinds := [.data, .handle, .pinned], laidTests := true, laidLooks := .later }
def ScanJoinedCardSaid : Prop := Claim7.holds Tryd.pinned (.plain (OpenSpec.ofChange scanJoinedSpec)) scanJoinedCard

/-- THE TIED CARD OF 'glossarylaw05.ScanNoted'. -/
def scanNotedCard : Claim7 := { stood := { row := scanNotedRow, standIns := [], harness := (true, "8010f53d0906501386fc8e9beb78ced7482d251f4fdb64311fca396d3493aa65"), looks := true }, kinds := [], alts := [], laidByText := true, laidKinds := [.data, .handle, .pinned], laidTests := true, laidLooks := .later }
def ScanNotedCardSaid : Prop := Claim7.holds Tryd.pinned (.plain (OpenSpec.ofChange scanNotedSpec)) scanNotedCard

/-- THE TIED CARD OF 'glossarylaw05.ScanPlaces'. -/
def scanPlacesCard : Claim7 := { stood := { row := scanPlacesRow, standIns := [], harness := (true, "8010f53d0906501386fc8e9beb78ced7482d251f4fdb64311fca396d3493aa65"), looks := true }, kinds := [], alts := [], laidByText := true, laidKinds := [.data, .handle, .pinned], laidTests := true, laidLooks := .later }
def ScanPlacesCardSaid : Prop := Claim7.holds Tryd.pinned (.plain (OpenSpec.ofChange scanPlacesSpec)) scanPlacesCard

/-- THE TIED CARD OF 'glossarylaw05.ScanQuote'. -/
def scanQuoteCard : Claim7 := { stood := { row := scanQuoteRow, standIns := [], harness := (true, "8010f53d0906501386fc8e9beb78ced7482d251f4fdb64311fca396d3493aa65"), looks := true }, kinds := [], alts := [], laidByText := true, laidKinds := [.data, .handle, .pinned], laidTests := true, laidLooks := .later }
def ScanQuoteCardSaid : Prop := Claim7.holds Tryd.pinned (.plain (OpenSpec.ofChange scanQuoteSpec)) scanQuoteCard

/-- THE TIED CARD OF 'glossarylaw05.ScanBack'. -/
def scanBackCard : Claim7 := { stood := { row := scanBackRow, standIns := [], harness := (true, "8010f53d0906501386fc8e9beb78ced7482d251f4fdb64311fca396d3493aa65"), looks := true }, kinds := [], alts := [], laidByText := true, laidKinds := [.data, .handle, .pinned], laidTests := true, laidLooks := .later }
def ScanBackCardSaid : Prop := Claim7.holds Tryd.pinned (.plain (OpenSpec.ofChange scanBackSpec)) scanBackCard

/-- THE SECOND FORM's CARD OF 'glossarylaw05.ScanJoined'. -/
def scanJoinedUptoCard : Claim7 := { stood := { row := scanJoinedUptoRow, standIns := [], harness := (true, "8010f53d0906501386fc8e9beb78ced7482d251f4fdb64311fca396d3493aa65"), looks := true }, kinds := [], alts := [], laidByText := true, laidKinds := [.data, .handle, .pinned], laidTests := true, laidLooks := .later }
def ScanJoinedUptoCardSaid : Prop := Claim7.holds Tryd.pinned (.plain (OpenSpec.upto scanJoinedSpec)) scanJoinedUptoCard

/-- THE SECOND FORM's CARD OF 'glossarylaw05.ScanNoted'. -/
def scanNotedUptoCard : Claim7 := { stood := { row := scanNotedUptoRow, standIns := [], harness := (true, "8010f53d0906501386fc8e9beb78ced7482d251f4fdb64311fca396d3493aa65"), looks := true }, kinds := [], alts := [], laidByText := true, laidKinds := [.data, .handle, .pinned], laidTests := true, laidLooks := .later }
def ScanNotedUptoCardSaid : Prop := Claim7.holds Tryd.pinned (.plain (OpenSpec.upto scanNotedSpec)) scanNotedUptoCard

/-- THE SECOND FORM's CARD OF 'glossarylaw05.ScanPlaces'. -/
def scanPlacesUptoCard : Claim7 := { stood := { row := scanPlacesUptoRow, standIns := [], harness := (true, "8010f53d0906501386fc8e9beb78ced7482d251f4fdb64311fca396d3493aa65"), looks := true }, kinds := [], alts := [], laidByText := true, laidKinds := [.data, .handle, .pinned], laidTests := true, laidLooks := .later }
def ScanPlacesUptoCardSaid : Prop := Claim7.holds Tryd.pinned (.plain (OpenSpec.upto scanPlacesSpec)) scanPlacesUptoCard

/-- THE SECOND FORM's CARD OF 'glossarylaw05.ScanQuote'. -/
def scanQuoteUptoCard : Claim7 := { stood := { row := scanQuoteUptoRow, standIns := [], harness := (true, "8010f53d0906501386fc8e9beb78ced7482d251f4fdb64311fca396d3493aa65"), looks := true }, kinds := [], alts := [], laidByText := true, laidKinds := [.data, .handle, .pinned], laidTests := true, laidLooks := .later }
def ScanQuoteUptoCardSaid : Prop := Claim7.holds Tryd.pinned (.plain (OpenSpec.upto scanQuoteSpec)) scanQuoteUptoCard

/-- THE SECOND FORM's CARD OF 'glossarylaw05.ScanBack'. -/
def scanBackUptoCard : Claim7 := { stood := { row := scanBackUptoRow, standIns := [], harness := (true, "8010f53d0906501386fc8e9beb78ced7482d251f4fdb64311fca396d3493aa65"), looks := true }, kinds := [], alts := [], laidByText := true, laidKinds := [.data, .handle, .pinned], laidTests := true, laidLooks := .later }
def ScanBackUptoCardSaid : Prop := Claim7.holds Tryd.pinned (.plain (OpenSpec.upto scanBackSpec)) scanBackUptoCard
end Rows
end Go.Proofs.YtekoeobfddfgpaaDoor
