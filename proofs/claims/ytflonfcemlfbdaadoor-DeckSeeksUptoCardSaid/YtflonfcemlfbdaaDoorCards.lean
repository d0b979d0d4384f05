/-
  DERIVED. GIVEN WITH THE SEED: THE CARDS: each row of YtflonfcemlfbdaaDoorRows.lean that lists a variable, with what it lists TIED to the program's text (the seventh form; the later family's looks); each row that meets fmt, with fmt's text TOLD by the authors' own Lean function (tested against real Go, not proved from fmt's source: count such statements apart). THE CARD IS WHAT COUNTS. Prove the row's statement (the work); the ties are given (YtflonfcemlfbdaaDoorTie.lean); close each card by the builder's one call (the guide's Derived/Test/ToyasCard.lean, 'card_holds'). Laid BY PROGRAM, IN A SANDBOX (cutbox-door.mjs). By AI agents, Wed Nov 11 2026. No macro, syntax, notation, axiom, sorry.
-/
import Derived.Test.YtflonfcemlfbdaaDoorRows
import GoSem.ClaimSeven
namespace Go.Proofs.YtflonfcemlfbdaaDoor
namespace Rows

/-- THE TIED CARD OF 'hourglasslaw.DeckSeeks'. -/
def deckSeeksCard : Claim7 := { stood := { row := deckSeeksRow, standIns := [], harness := (true, "4279e21c5cb956510527c06fa89436825139f13d00c397cf3b8aed24c735186f"), looks := false }, kinds := [], alts := [], laidByText := true, laidKinds := [.data], laidTests := true, laidLooks := .later }
def DeckSeeksCardSaid : Prop := Claim7.holds Tryd.pinned (.plain (OpenSpec.ofChange deckSeeksSpec)) deckSeeksCard

/-- THE SECOND FORM's CARD OF 'hourglasslaw.DeckSeeks'. -/
def deckSeeksUptoCard : Claim7 := { stood := { row := deckSeeksUptoRow, standIns := [], harness := (true, "4279e21c5cb956510527c06fa89436825139f13d00c397cf3b8aed24c735186f"), looks := false }, kinds := [], alts := [], laidByText := true, laidKinds := [.data], laidTests := true, laidLooks := .later }
def DeckSeeksUptoCardSaid : Prop := Claim7.holds Tryd.pinned (.plain (OpenSpec.upto deckSeeksSpec)) deckSeeksUptoCard
end Rows
end Go.Proofs.YtflonfcemlfbdaaDoor
