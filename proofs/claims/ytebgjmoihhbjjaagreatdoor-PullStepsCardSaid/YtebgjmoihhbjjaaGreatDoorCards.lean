/-
  DERIVED. GIVEN WITH THE SEED: THE CARDS: each row of YtebgjmoihhbjjaaGreatDoorRows.lean that lists a variable, with what it lists TIED to the program's text (the seventh form; the later family's looks); each row that meets fmt, with fmt's text TOLD by the authors' own Lean function (tested against real Go, not proved from fmt's source: count such statements apart). THE CARD IS WHAT COUNTS. Prove the row's statement (the work); the ties are given (YtebgjmoihhbjjaaGreatDoorTie.lean); close each card by the builder's one call (the guide's Derived/Test/ToyasCard.lean, 'card_holds'). Laid BY PROGRAM, IN A SANDBOX (cutbox-door.mjs). By AI agents, Wed Nov 11 2026. No macro, syntax, notation, axiom, sorry.
-/
import Derived.Test.YtebgjmoihhbjjaaGreatDoorRows
import GoSem.ClaimSeven
namespace Go.Proofs.YtebgjmoihhbjjaaGreatDoor
namespace Rows

/-- THE TIED CARD OF 'chisellaw11.PullDocs'. -/
def pullDocsCard : Claim7 := { stood := { row := pullDocsRow, standIns := [], harness := (true, "d6b047ce8161fcf6eb98a7706d57076a614f33bb17366e68afb42a44efcdee5e"), looks := true }, kinds := [], alts := [], laidByText := true, laidKinds := [.data, .data, .data, .data, .sentinel, .sentinel, .data, .data, .pinned, .pinned], laidTests := true, laidLooks := .later }
def PullDocsCardSaid : Prop := Claim7.holds Tryz.pinned (.plain (OpenSpec.ofChange pullDocsSpec)) pullDocsCard

/-- THE TIED CARD OF 'chisellaw11.PullSteps'. -/
def pullStepsCard : Claim7 := { stood := { row := pullStepsRow, standIns := [], harness := (true, "d6b047ce8161fcf6eb98a7706d57076a614f33bb17366e68afb42a44efcdee5e"), looks := true }, kinds := [], alts := [], laidByText := true, laidKinds := [.data, .data, .data, .data, .sentinel, .sentinel, .data, .data, .pinned, .pinned], laidTests := true, laidLooks := .later }
def PullStepsCardSaid : Prop := Claim7.holds Tryz.pinned (.plain (OpenSpec.ofChange pullStepsSpec)) pullStepsCard

/-- THE TIED CARD OF 'chisellaw11.PullTags'. -/
def pullTagsCard : Claim7 := { stood := { row := pullTagsRow, standIns := [], harness := (true, "d6b047ce8161fcf6eb98a7706d57076a614f33bb17366e68afb42a44efcdee5e"), looks := true }, kinds := [], alts := [], laidByText := true, laidKinds := [.data, .data, .data, .data, .sentinel, .sentinel, .data, .data, .pinned, .pinned], laidTests := true, laidLooks := .later }
def PullTagsCardSaid : Prop := Claim7.holds Tryz.pinned (.plain (OpenSpec.ofChange pullTagsSpec)) pullTagsCard

/-- THE TIED CARD OF 'chisellaw11.PullEnds'. -/
def pullEndsCard : Claim7 := { stood := { row := pullEndsRow, standIns := [], harness := (true, "d6b047ce8161fcf6eb98a7706d57076a614f33bb17366e68afb42a44efcdee5e"), looks := true }, kinds := [], alts := [], laidByText := true, laidKinds := [.data, .data, .data, .data, .sentinel, .sentinel, .data, .data, .pinned, .pinned], laidTests := true, laidLooks := .later }
def PullEndsCardSaid : Prop := Claim7.holds Tryz.pinned (.plain (OpenSpec.ofChange pullEndsSpec)) pullEndsCard

/-- THE TIED CARD OF 'chisellaw11.PullOne'. -/
def pullOneCard : Claim7 := { stood := { row := pullOneRow, standIns := [], harness := (true, "d6b047ce8161fcf6eb98a7706d57076a614f33bb17366e68afb42a44efcdee5e"), looks := true }, kinds := [], alts := [], laidByText := true, laidKinds := [.data, .data, .data, .data, .sentinel, .sentinel, .data, .data, .pinned, .pinned], laidTests := true, laidLooks := .later }
def PullOneCardSaid : Prop := Claim7.holds Tryz.pinned (.plain (OpenSpec.ofChange pullOneSpec)) pullOneCard

/-- THE TIED CARD OF 'chisellaw11.PullKnown'. -/
def pullKnownCard : Claim7 := { stood := { row := pullKnownRow, standIns := [], harness := (true, "d6b047ce8161fcf6eb98a7706d57076a614f33bb17366e68afb42a44efcdee5e"), looks := true }, kinds := [], alts := [], laidByText := true, laidKinds := [.data, .data, .data, .data, .sentinel, .sentinel, .data, .data, .pinned, .pinned], laidTests := true, laidLooks := .later }
def PullKnownCardSaid : Prop := Claim7.holds Tryz.pinned (.plain (OpenSpec.ofChange pullKnownSpec)) pullKnownCard

/-- THE TIED CARD OF 'chisellaw11.PullDeep'. -/
def pullDeepCard : Claim7 := { stood := { row := pullDeepRow, standIns := [], harness := (true, "d6b047ce8161fcf6eb98a7706d57076a614f33bb17366e68afb42a44efcdee5e"), looks := true }, kinds := [], alts := [], laidByText := true, laidKinds := [.data, .data, .data, .data, .sentinel, .sentinel, .data, .data, .pinned, .pinned], laidTests := true, laidLooks := .later }
def PullDeepCardSaid : Prop := Claim7.holds Tryz.pinned (.plain (OpenSpec.ofChange pullDeepSpec)) pullDeepCard

/-- THE TIED CARD OF 'chisellaw11.PullWritten'. -/
def pullWrittenCard : Claim7 := { stood := { row := pullWrittenRow, standIns := [], harness := (true, "d6b047ce8161fcf6eb98a7706d57076a614f33bb17366e68afb42a44efcdee5e"), looks := true }, kinds := [], alts := [], laidByText := true, laidKinds := [.data, .data, .data, .data, .sentinel, .sentinel, .data, .data, .pinned, .pinned], laidTests := true, laidLooks := .later }
def PullWrittenCardSaid : Prop := Claim7.holds Tryz.pinned (.plain (OpenSpec.ofChange pullWrittenSpec)) pullWrittenCard

/-- THE SECOND FORM's CARD OF 'chisellaw11.PullDocs'. -/
def pullDocsUptoCard : Claim7 := { stood := { row := pullDocsUptoRow, standIns := [], harness := (true, "d6b047ce8161fcf6eb98a7706d57076a614f33bb17366e68afb42a44efcdee5e"), looks := true }, kinds := [], alts := [], laidByText := true, laidKinds := [.data, .data, .data, .data, .sentinel, .sentinel, .data, .data, .pinned, .pinned], laidTests := true, laidLooks := .later }
def PullDocsUptoCardSaid : Prop := Claim7.holds Tryz.pinned (.plain (OpenSpec.upto pullDocsSpec)) pullDocsUptoCard

/-- THE SECOND FORM's CARD OF 'chisellaw11.PullSteps'. -/
def pullStepsUptoCard : Claim7 := { stood := { row := pullStepsUptoRow, standIns := [], harness := (true, "d6b047ce8161fcf6eb98a7706d57076a614f33bb17366e68afb42a44efcdee5e"), looks := true }, kinds := [], alts := [], laidByText := true, laidKinds := [.data, .data, .data, .data, .sentinel, .sentinel, .data, .data, .pinned, .pinned], laidTests := true, laidLooks := .later }
def PullStepsUptoCardSaid : Prop := Claim7.holds Tryz.pinned (.plain (OpenSpec.upto pullStepsSpec)) pullStepsUptoCard

/-- THE SECOND FORM's CARD OF 'chisellaw11.PullTags'. -/
def pullTagsUptoCard : Claim7 := { stood := { row := pullTagsUptoRow, standIns := [], harness := (true, "d6b047ce8161fcf6eb98a7706d57076a614f33bb17366e68afb42a44efcdee5e"), looks := true }, kinds := [], alts := [], laidByText := true, laidKinds := [.data, .data, .data, .data, .sentinel, .sentinel, .data, .data, .pinned, .pinned], laidTests := true, laidLooks := .later }
def PullTagsUptoCardSaid : Prop := Claim7.holds Tryz.pinned (.plain (OpenSpec.upto pullTagsSpec)) pullTagsUptoCard

/-- THE SECOND FORM's CARD OF 'chisellaw11.PullEnds'. -/
def pullEndsUptoCard : Claim7 := { stood := { row := pullEndsUptoRow, standIns := [], harness := (true, "d6b047ce8161fcf6eb98a7706d57076a614f33bb17366e68afb42a44efcdee5e"), looks := true }, kinds := [], alts := [], laidByText := true, laidKinds := [.data, .data, .data, .data, .sentinel, .sentinel, .data, .data, .pinned, .pinned], laidTests := true, laidLooks := .later }
def PullEndsUptoCardSaid : Prop := Claim7.holds Tryz.pinned (.plain (OpenSpec.upto pullEndsSpec)) pullEndsUptoCard

/-- THE SECOND FORM's CARD OF 'chisellaw11.PullOne'. -/
def pullOneUptoCard : Claim7 := { stood := { row := pullOneUptoRow, standIns := [], harness := (true, "d6b047ce8161fcf6eb98a7706d57076a614f33bb17366e68afb42a44efcdee5e"), looks := true }, kinds := [], alts := [], laidByText := true, laidKinds := [.data, .data, .data, .data, .sentinel, .sentinel, .data, .data, .pinned, .pinned], laidTests := true, laidLooks := .later }
def PullOneUptoCardSaid : Prop := Claim7.holds Tryz.pinned (.plain (OpenSpec.upto pullOneSpec)) pullOneUptoCard

/-- THE SECOND FORM's CARD OF 'chisellaw11.PullKnown'. -/
def pullKnownUptoCard : Claim7 := { stood := { row := pullKnownUptoRow, standIns := [], harness := (true, "d6b047ce8161fcf6eb98a7706d57076a614f33bb17366e68afb42a44efcdee5e"), looks := true }, kinds := [], alts := [], laidByText := true, laidKinds := [.data, .data, .data, .data, .sentinel, .sentinel, .data, .data, .pinned, .pinned], laidTests := true, laidLooks := .later }
def PullKnownUptoCardSaid : Prop := Claim7.holds Tryz.pinned (.plain (OpenSpec.upto pullKnownSpec)) pullKnownUptoCard

/-- THE SECOND FORM's CARD OF 'chisellaw11.PullDeep'. -/
def pullDeepUptoCard : Claim7 := { stood := { row := pullDeepUptoRow, standIns := [], harness := (true, "d6b047ce8161fcf6eb98a7706d57076a614f33bb17366e68afb42a44efcdee5e"), looks := true }, kinds := [], alts := [], laidByText := true, laidKinds := [.data, .data, .data, .data, .sentinel, .sentinel, .data, .data, .pinned, .pinned], laidTests := true, laidLooks := .later }
def PullDeepUptoCardSaid : Prop := Claim7.holds Tryz.pinned (.plain (OpenSpec.upto pullDeepSpec)) pullDeepUptoCard

/-- THE SECOND FORM's CARD OF 'chisellaw11.PullWritten'. -/
def pullWrittenUptoCard : Claim7 := { stood := { row := pullWrittenUptoRow, standIns := [], harness := (true, "d6b047ce8161fcf6eb98a7706d57076a614f33bb17366e68afb42a44efcdee5e"), looks := true }, kinds := [], alts := [], laidByText := true, laidKinds := [.data, .data, .data, .data, .sentinel, .sentinel, .data, .data, .pinned, .pinned], laidTests := true, laidLooks := .later }
def PullWrittenUptoCardSaid : Prop := Claim7.holds Tryz.pinned (.plain (OpenSpec.upto pullWrittenSpec)) pullWrittenUptoCard
end Rows
end Go.Proofs.YtebgjmoihhbjjaaGreatDoor
