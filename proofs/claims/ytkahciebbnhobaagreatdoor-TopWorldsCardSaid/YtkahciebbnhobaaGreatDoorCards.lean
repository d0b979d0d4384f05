/-
  DERIVED. GIVEN WITH THE SEED: THE CARDS: each row of YtkahciebbnhobaaGreatDoorRows.lean that lists a variable, with what it lists TIED to the program's text (the seventh form; the later family's looks); each row that meets fmt, with fmt's text TOLD by the authors' own Lean function (tested against real Go, not proved from fmt's source: count such statements apart). THE CARD IS WHAT COUNTS. Prove the row's statement (the work); the ties are given (YtkahciebbnhobaaGreatDoorTie.lean); close each card by the builder's one call (the guide's Derived/Test/ToyasCard.lean, 'card_holds'). Laid BY PROGRAM, IN A SANDBOX (cutbox-door.mjs). By AI agents, Wed Nov 11 2026. No macro, syntax, notation, axiom, sorry.
-/
import Derived.Test.YtkahciebbnhobaaGreatDoorRows
import GoSem.ClaimSeven
namespace Go.Proofs.YtkahciebbnhobaaGreatDoor
namespace Rows

/-- THE TIED CARD OF 'hourglasstop.TopWorlds'. -/
def topWorldsCard : Claim7 := { stood := { row := topWorldsRow, standIns := [], harness := (true, "314ad316157752a439b5dcc8cede09b0c626e6bcd4393a3f4396cf6f98509159"), looks := false }, kinds := [], alts := [], laidByText := true, laidKinds := [.data], laidTests := true, laidLooks := .later }
def TopWorldsCardSaid : Prop := Claim7.holds Tryz.pinned (.plain (OpenSpec.ofChange topWorldsSpec)) topWorldsCard

/-- THE TIED CARD OF 'hourglasstop.TopTwice'. -/
def topTwiceCard : Claim7 := { stood := { row := topTwiceRow, standIns := [], harness := (true, "314ad316157752a439b5dcc8cede09b0c626e6bcd4393a3f4396cf6f98509159"), looks := false }, kinds := [], alts := [], laidByText := true, laidKinds := [.data], laidTests := true, laidLooks := .later }
def TopTwiceCardSaid : Prop := Claim7.holds Tryz.pinned (.plain (OpenSpec.ofChange topTwiceSpec)) topTwiceCard

/-- THE TIED CARD OF 'hourglasstop.TopEvents'. -/
def topEventsCard : Claim7 := { stood := { row := topEventsRow, standIns := [], harness := (true, "314ad316157752a439b5dcc8cede09b0c626e6bcd4393a3f4396cf6f98509159"), looks := false }, kinds := [], alts := [], laidByText := true, laidKinds := [.data], laidTests := true, laidLooks := .later }
def TopEventsCardSaid : Prop := Claim7.holds Tryz.pinned (.plain (OpenSpec.ofChange topEventsSpec)) topEventsCard

/-- THE SECOND FORM's CARD OF 'hourglasstop.TopWorlds'. -/
def topWorldsUptoCard : Claim7 := { stood := { row := topWorldsUptoRow, standIns := [], harness := (true, "314ad316157752a439b5dcc8cede09b0c626e6bcd4393a3f4396cf6f98509159"), looks := false }, kinds := [], alts := [], laidByText := true, laidKinds := [.data], laidTests := true, laidLooks := .later }
def TopWorldsUptoCardSaid : Prop := Claim7.holds Tryz.pinned (.plain (OpenSpec.upto topWorldsSpec)) topWorldsUptoCard

/-- THE SECOND FORM's CARD OF 'hourglasstop.TopTwice'. -/
def topTwiceUptoCard : Claim7 := { stood := { row := topTwiceUptoRow, standIns := [], harness := (true, "314ad316157752a439b5dcc8cede09b0c626e6bcd4393a3f4396cf6f98509159"), looks := false }, kinds := [], alts := [], laidByText := true, laidKinds := [.data], laidTests := true, laidLooks := .later }
def TopTwiceUptoCardSaid : Prop := Claim7.holds Tryz.pinned (.plain (OpenSpec.upto topTwiceSpec)) topTwiceUptoCard

/-- THE SECOND FORM's CARD OF 'hourglasstop.TopEvents'. -/
def topEventsUptoCard : Claim7 := { stood := { row := topEventsUptoRow, standIns := [], harness := (true, "314ad316157752a439b5dcc8cede09b0c626e6bcd4393a3f4396cf6f98509159"), looks := false }, kinds := [], alts := [], laidByText := true, laidKinds := [.data], laidTests := true, laidLooks := .later }
def TopEventsUptoCardSaid : Prop := Claim7.holds Tryz.pinned (.plain (OpenSpec.upto topEventsSpec)) topEventsUptoCard
end Rows
end Go.Proofs.YtkahciebbnhobaaGreatDoor
