/-
  DERIVED. GIVEN WITH THE SEED: THE CARDS: each row of YtojncnpmlhhccaaGreatDoorRows.lean that lists a variable, with what it lists TIED to the program's text (the seventh form; the later family's looks); each row that meets fmt, with fmt's text TOLD by the authors' own Lean function (tested against real Go, not proved from fmt's source: count such statements apart). THE CARD IS WHAT COUNTS. Prove the row's statement (the work); the ties are given (YtojncnpmlhhccaaGreatDoorTie.lean); close each card by the builder's one call (the guide's Derived/Test/ToyasCard.lean, 'card_holds'). Laid BY PROGRAM, IN A SANDBOX (cutbox-door.mjs). By AI agents, Wed Nov 11 2026. No macro, syntax, notation, axiom, sorry.
-/
import Derived.Test.YtojncnpmlhhccaaGreatDoorRows
import GoSem.ClaimSeven
namespace Go.Proofs.YtojncnpmlhhccaaGreatDoor
namespace Rows

/-- THE TIED CARD OF 'chisellaw43.ReparseReads'. -/
def reparseReadsCard : Claim7 := { stood := { row := reparseReadsRow, standIns := [], harness := (true, "0b4d9de4eb5d74b858c76bc617f5b3839d2c8bee3341969688070b1a99769cea"), looks := true }, kinds := [], alts := [], laidByText := true, laidKinds := [.data, .data, .data, .data, .sentinel, .sentinel, .pinned, .pinned], laidTests := true, laidLooks := .later }
def ReparseReadsCardSaid : Prop := Claim7.holds Tryz.pinned (.plain (OpenSpec.ofChange reparseReadsSpec)) reparseReadsCard

/-- THE TIED CARD OF 'chisellaw43.ReparseParts'. -/
def reparsePartsCard : Claim7 := { stood := { row := reparsePartsRow, standIns := [], harness := (true, "0b4d9de4eb5d74b858c76bc617f5b3839d2c8bee3341969688070b1a99769cea"), looks := true }, kinds := [], alts := [], laidByText := true, laidKinds := [.data, .data, .data, .data, .sentinel, .sentinel, .pinned, .pinned], laidTests := true, laidLooks := .later }
def ReparsePartsCardSaid : Prop := Claim7.holds Tryz.pinned (.plain (OpenSpec.ofChange reparsePartsSpec)) reparsePartsCard

/-- THE TIED CARD OF 'chisellaw43.ReparseLong'. -/
def reparseLongCard : Claim7 := { stood := { row := reparseLongRow, standIns := [], harness := (true, "0b4d9de4eb5d74b858c76bc617f5b3839d2c8bee3341969688070b1a99769cea"), looks := true }, kinds := [], alts := [], laidByText := true, laidKinds := [.data, .data, .data, .data, .sentinel, .sentinel, .pinned, .pinned], laidTests := true, laidLooks := .later }
def ReparseLongCardSaid : Prop := Claim7.holds Tryz.pinned (.plain (OpenSpec.ofChange reparseLongSpec)) reparseLongCard

/-- THE TIED CARD OF 'chisellaw43.ReparseWritten'. -/
def reparseWrittenCard : Claim7 := { stood := { row := reparseWrittenRow, standIns := [], harness := (true, "0b4d9de4eb5d74b858c76bc617f5b3839d2c8bee3341969688070b1a99769cea"), looks := true }, kinds := [], alts := [], laidByText := true, laidKinds := [.data, .data, .data, .data, .sentinel, .sentinel, .listed, .data, .pinned, .pinned], laidTests := true, laidLooks := .later }
def ReparseWrittenCardSaid : Prop := Claim7.holds Tryz.pinned (.plain (OpenSpec.ofChange reparseWrittenSpec)) reparseWrittenCard

/-- THE TIED CARD OF 'chisellaw43.ReparseAgain'. -/
def reparseAgainCard : Claim7 := { stood := { row := reparseAgainRow, standIns := [], harness := (true, "0b4d9de4eb5d74b858c76bc617f5b3839d2c8bee3341969688070b1a99769cea"), looks := true }, kinds := [], alts := [], laidByText := true, laidKinds := [.data, .data, .data, .data, .sentinel, .sentinel, .listed, .data, .pinned, .pinned], laidTests := true, laidLooks := .later }
def ReparseAgainCardSaid : Prop := Claim7.holds Tryz.pinned (.plain (OpenSpec.ofChange reparseAgainSpec)) reparseAgainCard

/-- THE SECOND FORM's CARD OF 'chisellaw43.ReparseReads'. -/
def reparseReadsUptoCard : Claim7 := { stood := { row := reparseReadsUptoRow, standIns := [], harness := (true, "0b4d9de4eb5d74b858c76bc617f5b3839d2c8bee3341969688070b1a99769cea"), looks := true }, kinds := [], alts := [], laidByText := true, laidKinds := [.data, .data, .data, .data, .sentinel, .sentinel, .pinned, .pinned], laidTests := true, laidLooks := .later }
def ReparseReadsUptoCardSaid : Prop := Claim7.holds Tryz.pinned (.plain (OpenSpec.upto reparseReadsSpec)) reparseReadsUptoCard

/-- THE SECOND FORM's CARD OF 'chisellaw43.ReparseParts'. -/
def reparsePartsUptoCard : Claim7 := { stood := { row := reparsePartsUptoRow, standIns := [], harness := (true, "0b4d9de4eb5d74b858c76bc617f5b3839d2c8bee3341969688070b1a99769cea"), looks := true }, kinds := [], alts := [], laidByText := true, laidKinds := [.data, .data, .data, .data, .sentinel, .sentinel, .pinned, .pinned], laidTests := true, laidLooks := .later }
def ReparsePartsUptoCardSaid : Prop := Claim7.holds Tryz.pinned (.plain (OpenSpec.upto reparsePartsSpec)) reparsePartsUptoCard

/-- THE SECOND FORM's CARD OF 'chisellaw43.ReparseLong'. -/
def reparseLongUptoCard : Claim7 := { stood := { row := reparseLongUptoRow, standIns := [], harness := (true, "0b4d9de4eb5d74b858c76bc617f5b3839d2c8bee3341969688070b1a99769cea"), looks := true }, kinds := [], alts := [], laidByText := true, laidKinds := [.data, .data, .data, .data, .sentinel, .sentinel, .pinned, .pinned], laidTests := true, laidLooks := .later }
def ReparseLongUptoCardSaid : Prop := Claim7.holds Tryz.pinned (.plain (OpenSpec.upto reparseLongSpec)) reparseLongUptoCard

/-- THE SECOND FORM's CARD OF 'chisellaw43.ReparseWritten'. -/
def reparseWrittenUptoCard : Claim7 := { stood := { row := reparseWrittenUptoRow, standIns := [], harness := (true, "0b4d9de4eb5d74b858c76bc617f5b3839d2c8bee3341969688070b1a99769cea"), looks := true }, kinds := [], alts := [], laidByText := true, laidKinds := [.data, .data, .data, .data, .sentinel, .sentinel, .listed, .data, .pinned, .pinned], laidTests := true, laidLooks := .later }
def ReparseWrittenUptoCardSaid : Prop := Claim7.holds Tryz.pinned (.plain (OpenSpec.upto reparseWrittenSpec)) reparseWrittenUptoCard

/-- THE SECOND FORM's CARD OF 'chisellaw43.ReparseAgain'. -/
def reparseAgainUptoCard : Claim7 := { stood := { row := reparseAgainUptoRow, standIns := [], harness := (true, "0b4d9de4eb5d74b858c76bc617f5b3839d2c8bee3341969688070b1a99769cea"), looks := true }, kinds := [], alts := [], laidByText := true, laidKinds := [.data, .data, .data, .data, .sentinel, .sentinel, .listed, .data, .pinned, .pinned], laidTests := true, laidLooks := .later }
def ReparseAgainUptoCardSaid : Prop := Claim7.holds Tryz.pinned (.plain (OpenSpec.upto reparseAgainSpec)) reparseAgainUptoCard
end Rows
end Go.Proofs.YtojncnpmlhhccaaGreatDoor
