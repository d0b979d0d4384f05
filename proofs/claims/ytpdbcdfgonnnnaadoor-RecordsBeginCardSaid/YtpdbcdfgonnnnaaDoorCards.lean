/-
  DERIVED. GIVEN WITH THE SEED: THE CARDS: each row of YtpdbcdfgonnnnaaDoorRows.lean that lists a variable, with what it lists TIED to the program's text (the seventh form; the later family's looks); each row that meets fmt, with fmt's text TOLD by the authors' own Lean function (tested against real Go, not proved from fmt's source: count such statements apart). THE CARD IS WHAT COUNTS. Prove the row's statement (the work); the ties are given (YtpdbcdfgonnnnaaDoorTie.lean); close each card by the builder's one call (the guide's Derived/Test/ToyasCard.lean, 'card_holds'). Laid BY PROGRAM, IN A SANDBOX (cutbox-door.mjs). By AI agents, Wed Nov 11 2026. No macro, syntax, notation, axiom, sorry.
-/
import Derived.Test.YtpdbcdfgonnnnaaDoorRows
import GoSem.ClaimSeven
namespace Go.Proofs.YtpdbcdfgonnnnaaDoor
namespace Rows

/-- THE TIED CARD OF 'hourglasstop.TopReplay'. -/
def topReplayCard : Claim7 := { stood := { row := topReplayRow, standIns := [], harness := (true, "850d05a04a8e8d5f98819d9d0a54a36c2c86ac0283d882885c8e6c491e21e498"), looks := false }, kinds := [], alts := [], laidByText := true, laidKinds := [.data], laidTests := true, laidLooks := .later }
def TopReplayCardSaid : Prop := Claim7.holds Tryd.pinned (.plain (OpenSpec.ofChange topReplaySpec)) topReplayCard

/-- THE TIED CARD OF 'hourglasstop.TopSeek'. -/
def topSeekCard : Claim7 := { stood := { row := topSeekRow, standIns := [], harness := (true, "850d05a04a8e8d5f98819d9d0a54a36c2c86ac0283d882885c8e6c491e21e498"), looks := false }, kinds := [], alts := [], laidByText := true, laidKinds := [.data], laidTests := true, laidLooks := .later }
def TopSeekCardSaid : Prop := Claim7.holds Tryd.pinned (.plain (OpenSpec.ofChange topSeekSpec)) topSeekCard

/-- THE TIED CARD OF 'hourglasskeep.RecordsBegin'. -/
def recordsBeginCard : Claim7 := { stood := { row := recordsBeginRow, standIns := [], harness := (true, "850d05a04a8e8d5f98819d9d0a54a36c2c86ac0283d882885c8e6c491e21e498"), looks := false }, kinds := [], alts := [], laidByText := true, laidKinds := [.data], laidTests := true, laidLooks := .later }
def RecordsBeginCardSaid : Prop := Claim7.holds Tryd.pinned (.plain (OpenSpec.ofChange recordsBeginSpec)) recordsBeginCard

/-- THE TIED CARD OF 'hourglasslaw.DeckSeeks'. -/
def deckSeeksCard : Claim7 := { stood := { row := deckSeeksRow, standIns := [], harness := (true, "850d05a04a8e8d5f98819d9d0a54a36c2c86ac0283d882885c8e6c491e21e498"), looks := false }, kinds := [], alts := [], laidByText := true, laidKinds := [.data], laidTests := true, laidLooks := .later }
def DeckSeeksCardSaid : Prop := Claim7.holds Tryd.pinned (.plain (OpenSpec.ofChange deckSeeksSpec)) deckSeeksCard

/-- THE TIED CARD OF 'hourglasskeep.SeeksFew'. -/
def seeksFewCard : Claim7 := { stood := { row := seeksFewRow, standIns := [], harness := (true, "850d05a04a8e8d5f98819d9d0a54a36c2c86ac0283d882885c8e6c491e21e498"), looks := false }, kinds := [], alts := [], laidByText := true, laidKinds := [.data], laidTests := true, laidLooks := .later }
def SeeksFewCardSaid : Prop := Claim7.holds Tryd.pinned (.plain (OpenSpec.ofChange seeksFewSpec)) seeksFewCard

/-- THE TIED CARD OF 'hourglasskeep.SeeksTell'. -/
def seeksTellCard : Claim7 := { stood := { row := seeksTellRow, standIns := [], harness := (true, "850d05a04a8e8d5f98819d9d0a54a36c2c86ac0283d882885c8e6c491e21e498"), looks := false }, kinds := [], alts := [], laidByText := true, laidKinds := [.data], laidTests := true, laidLooks := .later }
def SeeksTellCardSaid : Prop := Claim7.holds Tryd.pinned (.plain (OpenSpec.ofChange seeksTellSpec)) seeksTellCard

/-- THE SECOND FORM's CARD OF 'hourglasstop.TopReplay'. -/
def topReplayUptoCard : Claim7 := { stood := { row := topReplayUptoRow, standIns := [], harness := (true, "850d05a04a8e8d5f98819d9d0a54a36c2c86ac0283d882885c8e6c491e21e498"), looks := false }, kinds := [], alts := [], laidByText := true, laidKinds := [.data], laidTests := true, laidLooks := .later }
def TopReplayUptoCardSaid : Prop := Claim7.holds Tryd.pinned (.plain (OpenSpec.upto topReplaySpec)) topReplayUptoCard

/-- THE SECOND FORM's CARD OF 'hourglasstop.TopSeek'. -/
def topSeekUptoCard : Claim7 := { stood := { row := topSeekUptoRow, standIns := [], harness := (true, "850d05a04a8e8d5f98819d9d0a54a36c2c86ac0283d882885c8e6c491e21e498"), looks := false }, kinds := [], alts := [], laidByText := true, laidKinds := [.data], laidTests := true, laidLooks := .later }
def TopSeekUptoCardSaid : Prop := Claim7.holds Tryd.pinned (.plain (OpenSpec.upto topSeekSpec)) topSeekUptoCard

/-- THE SECOND FORM's CARD OF 'hourglasskeep.RecordsBegin'. -/
def recordsBeginUptoCard : Claim7 := { stood := { row := recordsBeginUptoRow, standIns := [], harness := (true, "850d05a04a8e8d5f98819d9d0a54a36c2c86ac0283d882885c8e6c491e21e498"), looks := false }, kinds := [], alts := [], laidByText := true, laidKinds := [.data], laidTests := true, laidLooks := .later }
def RecordsBeginUptoCardSaid : Prop := Claim7.holds Tryd.pinned (.plain (OpenSpec.upto recordsBeginSpec)) recordsBeginUptoCard

/-- THE SECOND FORM's CARD OF 'hourglasslaw.DeckSeeks'. -/
def deckSeeksUptoCard : Claim7 := { stood := { row := deckSeeksUptoRow, standIns := [], harness := (true, "850d05a04a8e8d5f98819d9d0a54a36c2c86ac0283d882885c8e6c491e21e498"), looks := false }, kinds := [], alts := [], laidByText := true, laidKinds := [.data], laidTests := true, laidLooks := .later }
def DeckSeeksUptoCardSaid : Prop := Claim7.holds Tryd.pinned (.plain (OpenSpec.upto deckSeeksSpec)) deckSeeksUptoCard

/-- THE SECOND FORM's CARD OF 'hourglasskeep.SeeksFew'. -/
def seeksFewUptoCard : Claim7 := { stood := { row := seeksFewUptoRow, standIns := [], harness := (true, "850d05a04a8e8d5f98819d9d0a54a36c2c86ac0283d882885c8e6c491e21e498"), looks := false }, kinds := [], alts := [], laidByText := true, laidKinds := [.data], laidTests := true, laidLooks := .later }
def SeeksFewUptoCardSaid : Prop := Claim7.holds Tryd.pinned (.plain (OpenSpec.upto seeksFewSpec)) seeksFewUptoCard

/-- THE SECOND FORM's CARD OF 'hourglasskeep.SeeksTell'. -/
def seeksTellUptoCard : Claim7 := { stood := { row := seeksTellUptoRow, standIns := [], harness := (true, "850d05a04a8e8d5f98819d9d0a54a36c2c86ac0283d882885c8e6c491e21e498"), looks := false }, kinds := [], alts := [], laidByText := true, laidKinds := [.data], laidTests := true, laidLooks := .later }
def SeeksTellUptoCardSaid : Prop := Claim7.holds Tryd.pinned (.plain (OpenSpec.upto seeksTellSpec)) seeksTellUptoCard
end Rows
end Go.Proofs.YtpdbcdfgonnnnaaDoor
