/-
  NARROWER THAN 'FOR EVERY INPUT', by the rows' own cells (each row's printed sentence says how): TopWorlds: laid · TopTwice: laid · TopEvents: laid.
  DERIVED. THE GIVEN ROWS OF THIS SEAT. 3 by the template 'for every input the law returns true; each argument reads behind the call as it read before'; 0 by the template 'total and deterministic' (their statements: YtkahciebbnhobaaGreatDoorTotals.lean).
  GIVEN WITH THE SEED: the statements are not yours to turn. If you find one false, say at which input.
  Laid BY PROGRAM, IN A SANDBOX (cutbox-rows.mjs): the forced cells as the released guide's own fill.sh prints them over the translation f5c33ce358696e91… (all of the seat's roots in one cut). By AI agents, Wed Nov 11 2026. No macro, syntax, notation, axiom, sorry.
-/
import Derived.Test.YtkahciebbnhobaaGreatDoorChecked
import GoSem.Claim
import GoSem.ClaimJoined
import GoSem.ClaimMapViews
import Derived.JoinedTies
import Derived.KernelRfl
namespace Go.Proofs.YtkahciebbnhobaaGreatDoor
/- THE CELL 'sum', in the pinned program and in every row, IS THE sha256 OF THE DUMP (.gsa) THAT YtkahciebbnhobaaGreatDoorProg.lean LOADS. Nothing in Lean hashes anything: it is a label: what it is worth is what the hold of that sum in a sandbox is worth. -/
noncomputable def Tryz.pinned : Pinned := { name := "ytkahciebbnhobaagreatdoor", sum := "f5c33ce358696e919439e74be908429133e1f3c127ee29318580fcb9b051a111", checked := Tryz.checked }
namespace Rows
def none {H : Type} : Left H := { results := [], args := [] }

/- WHAT THE LISTED PACKAGE-LEVEL VARIABLES READ AS WHEN THE CALL BEGINS. Each datum BY PROGRAM (the guide's laid-datum.mjs) off the statement by which the dump's own 'gosem.cut.vars' lays the variable. In a bare row this is a premise. The card (YtkahciebbnhobaaGreatDoorCards.lean) ties it to the program's text. -/
def laid_hourglass_evlog_words {H : Type} : DataW H := .agg [.lit (.int .i64 0), .lit (.int .i64 0), .lit (.int .i64 16), .lit (.int .i64 1)]

/-- 'hourglasstop.TopWorlds': WHATEVER THE INPUT: true; the input reads as it did. -/
def topWorldsSpec : ChangeSpec := { name := "topWorlds", fn := fun _ => fun
  | [d1, d2, d3, d4] => { results := [.lit (.bool true)], args := [d1, d2, d3, d4] }
  | _ => none }
def topWorldsRow : OpenClaim := { program := "ytkahciebbnhobaagreatdoor", sum := "f5c33ce358696e919439e74be908429133e1f3c127ee29318580fcb9b051a111", func := "hourglass/hourglasstop.TopWorlds", spec := "topWorlds", inPlace := ["internal/bytealg.IndexByteString", "internal/bytealg.IndexString"], unfollowed := true, recurses := true, named := ["hourglass/evlog.words", "internal/bytealg.MaxLen"], apart := false, laid := [("hourglass/evlog.words", laid_hourglass_evlog_words)] }
def TopWorldsSaid : Prop := topWorldsRow.holds Tryz.pinned (OpenSpec.ofChange topWorldsSpec)

/-- ITS FALSE NEIGHBOUR: 'it returns false'. Refute it at one input. -/
def topWorldsWrong : ChangeSpec := { name := "topWorlds", fn := fun _ => fun
  | [d1, d2, d3, d4] => { results := [.lit (.bool false)], args := [d1, d2, d3, d4] }
  | _ => none }
def TopWorldsWrongFalsely : Prop := topWorldsRow.holds Tryz.pinned (OpenSpec.ofChange topWorldsWrong)

/-- 'hourglasstop.TopTwice': WHATEVER THE INPUT: true; the input reads as it did. -/
def topTwiceSpec : ChangeSpec := { name := "topTwice", fn := fun _ => fun
  | [d1, d2, d3] => { results := [.lit (.bool true)], args := [d1, d2, d3] }
  | _ => none }
def topTwiceRow : OpenClaim := { program := "ytkahciebbnhobaagreatdoor", sum := "f5c33ce358696e919439e74be908429133e1f3c127ee29318580fcb9b051a111", func := "hourglass/hourglasstop.TopTwice", spec := "topTwice", inPlace := ["internal/bytealg.IndexByteString", "internal/bytealg.IndexString"], unfollowed := true, recurses := true, named := ["hourglass/evlog.words", "internal/bytealg.MaxLen"], apart := false, laid := [("hourglass/evlog.words", laid_hourglass_evlog_words)] }
def TopTwiceSaid : Prop := topTwiceRow.holds Tryz.pinned (OpenSpec.ofChange topTwiceSpec)

/-- ITS FALSE NEIGHBOUR: 'it returns false'. Refute it at one input. -/
def topTwiceWrong : ChangeSpec := { name := "topTwice", fn := fun _ => fun
  | [d1, d2, d3] => { results := [.lit (.bool false)], args := [d1, d2, d3] }
  | _ => none }
def TopTwiceWrongFalsely : Prop := topTwiceRow.holds Tryz.pinned (OpenSpec.ofChange topTwiceWrong)

/-- 'hourglasstop.TopEvents': WHATEVER THE INPUT: true; the input reads as it did. -/
def topEventsSpec : ChangeSpec := { name := "topEvents", fn := fun _ => fun
  | [d1, d2] => { results := [.lit (.bool true)], args := [d1, d2] }
  | _ => none }
def topEventsRow : OpenClaim := { program := "ytkahciebbnhobaagreatdoor", sum := "f5c33ce358696e919439e74be908429133e1f3c127ee29318580fcb9b051a111", func := "hourglass/hourglasstop.TopEvents", spec := "topEvents", inPlace := ["internal/bytealg.IndexByteString", "internal/bytealg.IndexString"], unfollowed := true, recurses := true, named := ["hourglass/evlog.words", "internal/bytealg.MaxLen"], apart := false, laid := [("hourglass/evlog.words", laid_hourglass_evlog_words)] }
def TopEventsSaid : Prop := topEventsRow.holds Tryz.pinned (OpenSpec.ofChange topEventsSpec)

/-- ITS FALSE NEIGHBOUR: 'it returns false'. Refute it at one input. -/
def topEventsWrong : ChangeSpec := { name := "topEvents", fn := fun _ => fun
  | [d1, d2] => { results := [.lit (.bool false)], args := [d1, d2] }
  | _ => none }
def TopEventsWrongFalsely : Prop := topEventsRow.holds Tryz.pinned (OpenSpec.ofChange topEventsWrong)

/- THE SECOND FORM. 'bulk': how many values and letters a reading holds, each counted each time it is reached (what is shared counts as often as it is met; a slice's spare places count too). A statement '..UptoSaid' is the law's where the arguments, and the package variables that the reading takes, are together of bulk at most 1048576: NARROWER than '..Said'. Prove '..Said' where nothing that the law and all that it calls make is longer than what came in: it says more and counts as full. Else prove '..UptoSaid'. A law counts once. -/
mutual
def uptoBulk {H : Type} : DataW H → Nat
  | .lit (.string bytes) => bytes.length + 1
  | .lit _ => 1
  | .nil => 1
  | .ptr d => uptoBulk d + 1
  | .slice elems spare => uptoBulkAll elems + uptoBulkAll spare + 1
  | .agg parts => uptoBulkAll parts + 1
  | .iface _ d => uptoBulk d + 1
  | .map entries => uptoBulkEntries entries + 1
  | .held _ => 1
def uptoBulkAll {H : Type} : List (DataW H) → Nat
  | [] => 0
  | d :: r => uptoBulk d + uptoBulkAll r
def uptoBulkEntries {H : Type} : List (Lit × DataW H) → Nat
  | [] => 0
  | x :: r => uptoBulkEntry x + uptoBulkEntries r
def uptoBulkEntry {H : Type} : Lit × DataW H → Nat
  | (.string bytes, d) => bytes.length + uptoBulk d + 1
  | (_, d) => uptoBulk d + 1
 end
def uptoSmall : (H : Type) → List (DataW H) → Bool := fun _ ds => decide (uptoBulkAll ds ≤ 1048576)
def OpenSpec.upto (s : _root_.Go.ChangeSpec) : _root_.Go.OpenSpec := { _root_.Go.OpenSpec.ofChange s with cond := some uptoSmall }

/-- 'hourglasstop.TopWorlds', WHERE WHAT IT READS IS OF BULK AT MOST 1048576: true; the input reads as it did. -/
def topWorldsUptoRow : OpenClaim := { program := "ytkahciebbnhobaagreatdoor", sum := "f5c33ce358696e919439e74be908429133e1f3c127ee29318580fcb9b051a111", func := "hourglass/hourglasstop.TopWorlds", spec := "topWorlds", inPlace := ["internal/bytealg.IndexByteString", "internal/bytealg.IndexString"], unfollowed := true, recurses := true, named := ["hourglass/evlog.words", "internal/bytealg.MaxLen"], apart := false, laid := [("hourglass/evlog.words", laid_hourglass_evlog_words)], narrowed := true }
def TopWorldsUptoSaid : Prop := topWorldsUptoRow.holds Tryz.pinned (OpenSpec.upto topWorldsSpec)

/-- 'hourglasstop.TopTwice', WHERE WHAT IT READS IS OF BULK AT MOST 1048576: true; the input reads as it did. -/
def topTwiceUptoRow : OpenClaim := { program := "ytkahciebbnhobaagreatdoor", sum := "f5c33ce358696e919439e74be908429133e1f3c127ee29318580fcb9b051a111", func := "hourglass/hourglasstop.TopTwice", spec := "topTwice", inPlace := ["internal/bytealg.IndexByteString", "internal/bytealg.IndexString"], unfollowed := true, recurses := true, named := ["hourglass/evlog.words", "internal/bytealg.MaxLen"], apart := false, laid := [("hourglass/evlog.words", laid_hourglass_evlog_words)], narrowed := true }
def TopTwiceUptoSaid : Prop := topTwiceUptoRow.holds Tryz.pinned (OpenSpec.upto topTwiceSpec)

/-- 'hourglasstop.TopEvents', WHERE WHAT IT READS IS OF BULK AT MOST 1048576: true; the input reads as it did. -/
def topEventsUptoRow : OpenClaim := { program := "ytkahciebbnhobaagreatdoor", sum := "f5c33ce358696e919439e74be908429133e1f3c127ee29318580fcb9b051a111", func := "hourglass/hourglasstop.TopEvents", spec := "topEvents", inPlace := ["internal/bytealg.IndexByteString", "internal/bytealg.IndexString"], unfollowed := true, recurses := true, named := ["hourglass/evlog.words", "internal/bytealg.MaxLen"], apart := false, laid := [("hourglass/evlog.words", laid_hourglass_evlog_words)], narrowed := true }
def TopEventsUptoSaid : Prop := topEventsUptoRow.holds Tryz.pinned (OpenSpec.upto topEventsSpec)

end Rows
end Go.Proofs.YtkahciebbnhobaaGreatDoor
