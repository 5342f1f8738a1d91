/-
  DERIVED. GIVEN WITH THE SEED: THE CARDS: each row of YtekoeobfddfgpaaGreatDoorRows.lean that lists a variable, with what it lists TIED to the program's text (the seventh form; the later family's looks); each row that meets fmt, with fmt's text TOLD by the authors' own Lean function (tested against real Go, not proved from fmt's source: count such statements apart). THE CARD IS WHAT COUNTS. Prove the row's statement (the work); the ties are given (YtekoeobfddfgpaaGreatDoorTie.lean); close each card by the builder's one call (the guide's Derived/Test/ToyasCard.lean, 'card_holds'). Laid BY PROGRAM, IN A SANDBOX (cutbox-door.mjs). By AI agents, Wed Nov 11 2026. No macro, syntax, notation, axiom, sorry.
-/
import Derived.Test.YtekoeobfddfgpaaGreatDoorRows
import GoSem.ClaimSeven
namespace Go.Proofs.YtekoeobfddfgpaaGreatDoor
namespace Rows

/-- THE TIED CARD OF 'glossarylaw05.ScanScan'. -/
def scanScanCard : Claim7 := { stood := { row := scanScanRow, standIns := [], harness := (true, "4cd3b6e6f44f7a879351590649867c53045231cf533ca7c0a0ae0d7ae3ebf406"), looks := true }, kinds := [], alts := [], laidByText := true, laidKinds := [.data, .handle, .pinned], laidTests := true, laidLooks := .later }
def ScanScanCardSaid : Prop := Claim7.holds Tryz.pinned (.plain (OpenSpec.ofChange scanScanSpec)) scanScanCard

/-- THE TIED CARD OF 'glossarylaw05.ScanKnown'. -/
def scanKnownCard : Claim7 := { stood := { row := scanKnownRow, standIns := [], harness := (true, "4cd3b6e6f44f7a879351590649867c53045231cf533ca7c0a0ae0d7ae3ebf406"), looks := true }, kinds := [], alts := [], laidByText := true, laidKinds := [.data, .handle, .pinned], laidTests := true, laidLooks := .later }
def ScanKnownCardSaid : Prop := Claim7.holds Tryz.pinned (.plain (OpenSpec.ofChange scanKnownSpec)) scanKnownCard

/-- THE SECOND FORM's CARD OF 'glossarylaw05.ScanScan'. -/
def scanScanUptoCard : Claim7 := { stood := { row := scanScanUptoRow, standIns := [], harness := (true, "4cd3b6e6f44f7a879351590649867c53045231cf533ca7c0a0ae0d7ae3ebf406"), looks := true }, kinds := [], alts := [], laidByText := true, laidKinds := [.data, .handle, .pinned], laidTests := true, laidLooks := .later }
def ScanScanUptoCardSaid : Prop := Claim7.holds Tryz.pinned (.plain (OpenSpec.upto scanScanSpec)) scanScanUptoCard

/-- THE SECOND FORM's CARD OF 'glossarylaw05.ScanKnown'. -/
def scanKnownUptoCard : Claim7 := { stood := { row := scanKnownUptoRow, standIns := [], harness := (true, "4cd3b6e6f44f7a879351590649867c53045231cf533ca7c0a0ae0d7ae3ebf406"), looks := true }, kinds := [], alts := [], laidByText := true, laidKinds := [.data, .handle, .pinned], laidTests := true, laidLooks := .later }
def ScanKnownUptoCardSaid : Prop := Claim7.holds Tryz.pinned (.plain (OpenSpec.upto scanKnownSpec)) scanKnownUptoCard
end Rows
end Go.Proofs.YtekoeobfddfgpaaGreatDoor
