/-
  DERIVED. GIVEN WITH THE SEED: THE CARDS: each row of YtiekilpddmdhnaaDoorRows.lean that lists a variable, with what it lists TIED to the program's text (the seventh form; the later family's looks); each row that meets fmt, with fmt's text TOLD by the authors' own Lean function (tested against real Go, not proved from fmt's source: count such statements apart). THE CARD IS WHAT COUNTS. Prove the row's statement (the work); the ties are given (YtiekilpddmdhnaaDoorTie.lean); close each card by the builder's one call (the guide's Derived/Test/ToyasCard.lean, 'card_holds'). Laid BY PROGRAM, IN A SANDBOX (cutbox-door.mjs). By AI agents, Wed Nov 11 2026. No macro, syntax, notation, axiom, sorry.
-/
import Derived.Test.YtiekilpddmdhnaaDoorRows
import GoSem.ClaimSeven
namespace Go.Proofs.YtiekilpddmdhnaaDoor
namespace Rows

/-- THE TIED CARD OF 'hourglasslaw.EvlogDecodes'. -/
def evlogDecodesCard : Claim7 := { stood := { row := evlogDecodesRow, standIns := [], harness := (true, "e55afe1ce27be1a43eb16e8afa0a21f2f0f12e9e635a624c298bd28e3b5f27cc"), looks := false }, kinds := [], alts := [], laidByText := true, laidKinds := [.data], laidTests := true, laidLooks := .later }
def EvlogDecodesCardSaid : Prop := Claim7.holds Tryd.pinned (.plain (OpenSpec.ofChange evlogDecodesSpec)) evlogDecodesCard

/-- THE TIED CARD OF 'hourglasslaw.RunChecks'. -/
def runChecksCard : Claim7 := { stood := { row := runChecksRow, standIns := [], harness := (true, "e55afe1ce27be1a43eb16e8afa0a21f2f0f12e9e635a624c298bd28e3b5f27cc"), looks := false }, kinds := [], alts := [], laidByText := true, laidKinds := [.data], laidTests := true, laidLooks := .later }
def RunChecksCardSaid : Prop := Claim7.holds Tryd.pinned (.plain (OpenSpec.ofChange runChecksSpec)) runChecksCard

/-- THE TIED CARD OF 'hourglasslaw.RunRecords'. -/
def runRecordsCard : Claim7 := { stood := { row := runRecordsRow, standIns := [], harness := (true, "e55afe1ce27be1a43eb16e8afa0a21f2f0f12e9e635a624c298bd28e3b5f27cc"), looks := false }, kinds := [], alts := [], laidByText := true, laidKinds := [.data], laidTests := true, laidLooks := .later }
def RunRecordsCardSaid : Prop := Claim7.holds Tryd.pinned (.plain (OpenSpec.ofChange runRecordsSpec)) runRecordsCard

/-- THE TIED CARD OF 'hourglasslaw.RunReplays'. -/
def runReplaysCard : Claim7 := { stood := { row := runReplaysRow, standIns := [], harness := (true, "e55afe1ce27be1a43eb16e8afa0a21f2f0f12e9e635a624c298bd28e3b5f27cc"), looks := false }, kinds := [], alts := [], laidByText := true, laidKinds := [.data], laidTests := true, laidLooks := .later }
def RunReplaysCardSaid : Prop := Claim7.holds Tryd.pinned (.plain (OpenSpec.ofChange runReplaysSpec)) runReplaysCard

/-- THE SECOND FORM's CARD OF 'hourglasslaw.EvlogDecodes'. -/
def evlogDecodesUptoCard : Claim7 := { stood := { row := evlogDecodesUptoRow, standIns := [], harness := (true, "e55afe1ce27be1a43eb16e8afa0a21f2f0f12e9e635a624c298bd28e3b5f27cc"), looks := false }, kinds := [], alts := [], laidByText := true, laidKinds := [.data], laidTests := true, laidLooks := .later }
def EvlogDecodesUptoCardSaid : Prop := Claim7.holds Tryd.pinned (.plain (OpenSpec.upto evlogDecodesSpec)) evlogDecodesUptoCard

/-- THE SECOND FORM's CARD OF 'hourglasslaw.RunChecks'. -/
def runChecksUptoCard : Claim7 := { stood := { row := runChecksUptoRow, standIns := [], harness := (true, "e55afe1ce27be1a43eb16e8afa0a21f2f0f12e9e635a624c298bd28e3b5f27cc"), looks := false }, kinds := [], alts := [], laidByText := true, laidKinds := [.data], laidTests := true, laidLooks := .later }
def RunChecksUptoCardSaid : Prop := Claim7.holds Tryd.pinned (.plain (OpenSpec.upto runChecksSpec)) runChecksUptoCard

/-- THE SECOND FORM's CARD OF 'hourglasslaw.RunRecords'. -/
def runRecordsUptoCard : Claim7 := { stood := { row := runRecordsUptoRow, standIns := [], harness := (true, "e55afe1ce27be1a43eb16e8afa0a21f2f0f12e9e635a624c298bd28e3b5f27cc"), looks := false }, kinds := [], alts := [], laidByText := true, laidKinds := [.data], laidTests := true, laidLooks := .later }
def RunRecordsUptoCardSaid : Prop := Claim7.holds Tryd.pinned (.plain (OpenSpec.upto runRecordsSpec)) runRecordsUptoCard

/-- THE SECOND FORM's CARD OF 'hourglasslaw.RunReplays'. -/
def runReplaysUptoCard : Claim7 := { stood := { row := runReplaysUptoRow, standIns := [], harness := (true, "e55afe1ce27be1a43eb16e8afa0a21f2f0f12e9e635a624c298bd28e3b5f27cc"), looks := false }, kinds := [], alts := [], laidByText := true, laidKinds := [.data], laidTests := true, laidLooks := .later }
def RunReplaysUptoCardSaid : Prop := Claim7.holds Tryd.pinned (.plain (OpenSpec.upto runReplaysSpec)) runReplaysUptoCard
end Rows
end Go.Proofs.YtiekilpddmdhnaaDoor
