/-
  DERIVED. GIVEN WITH THE SEED: THE CARDS: each row of YtnhccnjdpdhhaaaDoorRows.lean that lists a variable, with what it lists TIED to the program's text (the seventh form; the later family's looks); each row that meets fmt, with fmt's text TOLD by the authors' own Lean function (tested against real Go, not proved from fmt's source: count such statements apart). THE CARD IS WHAT COUNTS. Prove the row's statement (the work); the ties are given (YtnhccnjdpdhhaaaDoorTie.lean); close each card by the builder's one call (the guide's Derived/Test/ToyasCard.lean, 'card_holds'). Laid BY PROGRAM, IN A SANDBOX (cutbox-door.mjs). By AI agents, Wed Nov 11 2026. No macro, syntax, notation, axiom, sorry.
-/
import Derived.Test.YtnhccnjdpdhhaaaDoorRows
import GoSem.ClaimSeven
namespace Go.Proofs.YtnhccnjdpdhhaaaDoor
namespace Rows

/-- THE TIED CARD OF 'hourglasslaw.EvlogEncodes'. -/
def evlogEncodesCard : Claim7 := { stood := { row := evlogEncodesRow, standIns := [], harness := (true, "908581019a00493f5b8fb8b754f2f712311d8cb4141c17144ef0db3673841b7f"), looks := false }, kinds := [], alts := [], laidByText := true, laidKinds := [.data], laidTests := true, laidLooks := .later }
def EvlogEncodesCardSaid : Prop := Claim7.holds Tryd.pinned (.plain (OpenSpec.ofChange evlogEncodesSpec)) evlogEncodesCard

/-- THE TIED CARD OF 'hourglasslaw.EvlogDecodes'. -/
def evlogDecodesCard : Claim7 := { stood := { row := evlogDecodesRow, standIns := [], harness := (true, "908581019a00493f5b8fb8b754f2f712311d8cb4141c17144ef0db3673841b7f"), looks := false }, kinds := [], alts := [], laidByText := true, laidKinds := [.data], laidTests := true, laidLooks := .later }
def EvlogDecodesCardSaid : Prop := Claim7.holds Tryd.pinned (.plain (OpenSpec.ofChange evlogDecodesSpec)) evlogDecodesCard

/-- THE TIED CARD OF 'hourglasslaw.RunChecks'. -/
def runChecksCard : Claim7 := { stood := { row := runChecksRow, standIns := [], harness := (true, "908581019a00493f5b8fb8b754f2f712311d8cb4141c17144ef0db3673841b7f"), looks := false }, kinds := [], alts := [], laidByText := true, laidKinds := [.data], laidTests := true, laidLooks := .later }
def RunChecksCardSaid : Prop := Claim7.holds Tryd.pinned (.plain (OpenSpec.ofChange runChecksSpec)) runChecksCard

/-- THE TIED CARD OF 'hourglasskeep.EventsSpoilt'. -/
def eventsSpoiltCard : Claim7 := { stood := { row := eventsSpoiltRow, standIns := [], harness := (true, "908581019a00493f5b8fb8b754f2f712311d8cb4141c17144ef0db3673841b7f"), looks := false }, kinds := [], alts := [], laidByText := true, laidKinds := [.data], laidTests := true, laidLooks := .later }
def EventsSpoiltCardSaid : Prop := Claim7.holds Tryd.pinned (.plain (OpenSpec.ofChange eventsSpoiltSpec)) eventsSpoiltCard

/-- THE TIED CARD OF 'hourglasskeep.EventsOnce'. -/
def eventsOnceCard : Claim7 := { stood := { row := eventsOnceRow, standIns := [], harness := (true, "908581019a00493f5b8fb8b754f2f712311d8cb4141c17144ef0db3673841b7f"), looks := false }, kinds := [], alts := [], laidByText := true, laidKinds := [.data], laidTests := true, laidLooks := .later }
def EventsOnceCardSaid : Prop := Claim7.holds Tryd.pinned (.plain (OpenSpec.ofChange eventsOnceSpec)) eventsOnceCard

/-- THE TIED CARD OF 'hourglasskeep.EventsBack'. -/
def eventsBackCard : Claim7 := { stood := { row := eventsBackRow, standIns := [], harness := (true, "908581019a00493f5b8fb8b754f2f712311d8cb4141c17144ef0db3673841b7f"), looks := false }, kinds := [], alts := [], laidByText := true, laidKinds := [.data], laidTests := true, laidLooks := .later }
def EventsBackCardSaid : Prop := Claim7.holds Tryd.pinned (.plain (OpenSpec.ofChange eventsBackSpec)) eventsBackCard

/-- THE SECOND FORM's CARD OF 'hourglasslaw.EvlogEncodes'. -/
def evlogEncodesUptoCard : Claim7 := { stood := { row := evlogEncodesUptoRow, standIns := [], harness := (true, "908581019a00493f5b8fb8b754f2f712311d8cb4141c17144ef0db3673841b7f"), looks := false }, kinds := [], alts := [], laidByText := true, laidKinds := [.data], laidTests := true, laidLooks := .later }
def EvlogEncodesUptoCardSaid : Prop := Claim7.holds Tryd.pinned (.plain (OpenSpec.upto evlogEncodesSpec)) evlogEncodesUptoCard

/-- THE SECOND FORM's CARD OF 'hourglasslaw.EvlogDecodes'. -/
def evlogDecodesUptoCard : Claim7 := { stood := { row := evlogDecodesUptoRow, standIns := [], harness := (true, "908581019a00493f5b8fb8b754f2f712311d8cb4141c17144ef0db3673841b7f"), looks := false }, kinds := [], alts := [], laidByText := true, laidKinds := [.data], laidTests := true, laidLooks := .later }
def EvlogDecodesUptoCardSaid : Prop := Claim7.holds Tryd.pinned (.plain (OpenSpec.upto evlogDecodesSpec)) evlogDecodesUptoCard

/-- THE SECOND FORM's CARD OF 'hourglasslaw.RunChecks'. -/
def runChecksUptoCard : Claim7 := { stood := { row := runChecksUptoRow, standIns := [], harness := (true, "908581019a00493f5b8fb8b754f2f712311d8cb4141c17144ef0db3673841b7f"), looks := false }, kinds := [], alts := [], laidByText := true, laidKinds := [.data], laidTests := true, laidLooks := .later }
def RunChecksUptoCardSaid : Prop := Claim7.holds Tryd.pinned (.plain (OpenSpec.upto runChecksSpec)) runChecksUptoCard

/-- THE SECOND FORM's CARD OF 'hourglasskeep.EventsSpoilt'. -/
def eventsSpoiltUptoCard : Claim7 := { stood := { row := eventsSpoiltUptoRow, standIns := [], harness := (true, "908581019a00493f5b8fb8b754f2f712311d8cb4141c17144ef0db3673841b7f"), looks := false }, kinds := [], alts := [], laidByText := true, laidKinds := [.data], laidTests := true, laidLooks := .later }
def EventsSpoiltUptoCardSaid : Prop := Claim7.holds Tryd.pinned (.plain (OpenSpec.upto eventsSpoiltSpec)) eventsSpoiltUptoCard

/-- THE SECOND FORM's CARD OF 'hourglasskeep.EventsOnce'. -/
def eventsOnceUptoCard : Claim7 := { stood := { row := eventsOnceUptoRow, standIns := [], harness := (true, "908581019a00493f5b8fb8b754f2f712311d8cb4141c17144ef0db3673841b7f"), looks := false }, kinds := [], alts := [], laidByText := true, laidKinds := [.data], laidTests := true, laidLooks := .later }
def EventsOnceUptoCardSaid : Prop := Claim7.holds Tryd.pinned (.plain (OpenSpec.upto eventsOnceSpec)) eventsOnceUptoCard

/-- THE SECOND FORM's CARD OF 'hourglasskeep.EventsBack'. -/
def eventsBackUptoCard : Claim7 := { stood := { row := eventsBackUptoRow, standIns := [], harness := (true, "908581019a00493f5b8fb8b754f2f712311d8cb4141c17144ef0db3673841b7f"), looks := false }, kinds := [], alts := [], laidByText := true, laidKinds := [.data], laidTests := true, laidLooks := .later }
def EventsBackUptoCardSaid : Prop := Claim7.holds Tryd.pinned (.plain (OpenSpec.upto eventsBackSpec)) eventsBackUptoCard
end Rows
end Go.Proofs.YtnhccnjdpdhhaaaDoor
