/-
  NARROWER THAN 'FOR EVERY INPUT', by the rows' own cells (each row's printed sentence says how): EvlogEncodes: laid · EvlogDecodes: laid · RunChecks: laid · EventsSpoilt: laid · EventsOnce: laid · EventsBack: laid.
  DERIVED. THE GIVEN ROWS OF THIS SEAT. 6 by the template 'for every input the law returns true; each argument reads behind the call as it read before'; 0 by the template 'total and deterministic' (their statements: YtnhccnjdpdhhaaaDoorTotals.lean).
  GIVEN WITH THE SEED: the statements are not yours to turn. If you find one false, say at which input.
  Laid BY PROGRAM, IN A SANDBOX (cutbox-rows.mjs): the forced cells as the released guide's own fill.sh prints them over the translation a45162f1534529ae… (all of the seat's roots in one cut). By AI agents, Wed Nov 11 2026. No macro, syntax, notation, axiom, sorry.
-/
import Derived.Test.YtnhccnjdpdhhaaaDoorChecked
import GoSem.Claim
import GoSem.ClaimJoined
import GoSem.ClaimMapViews
import Derived.JoinedTies
import Derived.KernelRfl
namespace Go.Proofs.YtnhccnjdpdhhaaaDoor
/- THE CELL 'sum', in the pinned program and in every row, IS THE sha256 OF THE DUMP (.gsa) THAT YtnhccnjdpdhhaaaDoorProg.lean LOADS. Nothing in Lean hashes anything: it is a label: what it is worth is what the hold of that sum in a sandbox is worth. -/
noncomputable def Tryd.pinned : Pinned := { name := "ytnhccnjdpdhhaaadoor", sum := "a45162f1534529aef183fe54d4c5090d23c105311a30b6050a281964f7c77e93", checked := Tryd.checked }
namespace Rows
def none {H : Type} : Left H := { results := [], args := [] }

/- WHAT THE LISTED PACKAGE-LEVEL VARIABLES READ AS WHEN THE CALL BEGINS. Each datum BY PROGRAM (the guide's laid-datum.mjs) off the statement by which the dump's own 'gosem.cut.vars' lays the variable. In a bare row this is a premise. The card (YtnhccnjdpdhhaaaDoorCards.lean) ties it to the program's text. -/
def laid_hourglass_evlog_words {H : Type} : DataW H := .agg [.lit (.int .i64 0), .lit (.int .i64 0), .lit (.int .i64 16), .lit (.int .i64 1)]

/-- 'hourglasslaw.EvlogEncodes': WHATEVER THE INPUT: true; the input reads as it did. -/
def evlogEncodesSpec : ChangeSpec := { name := "evlogEncodes", fn := fun _ => fun
  | [d] => { results := [.lit (.bool true)], args := [d] }
  | _ => none }
def evlogEncodesRow : OpenClaim := { program := "ytnhccnjdpdhhaaadoor", sum := "a45162f1534529aef183fe54d4c5090d23c105311a30b6050a281964f7c77e93", func := "hourglass/hourglasslaw.EvlogEncodes", spec := "evlogEncodes", unfollowed := true, recurses := true, named := ["hourglass/evlog.words"], apart := false, laid := [("hourglass/evlog.words", laid_hourglass_evlog_words)] }
def EvlogEncodesSaid : Prop := evlogEncodesRow.holds Tryd.pinned (OpenSpec.ofChange evlogEncodesSpec)

/-- ITS FALSE NEIGHBOUR: 'it returns false'. Refute it at one input. -/
def evlogEncodesWrong : ChangeSpec := { name := "evlogEncodes", fn := fun _ => fun
  | [d] => { results := [.lit (.bool false)], args := [d] }
  | _ => none }
def EvlogEncodesWrongFalsely : Prop := evlogEncodesRow.holds Tryd.pinned (OpenSpec.ofChange evlogEncodesWrong)

/-- 'hourglasslaw.EvlogDecodes': WHATEVER THE INPUT: true; the input reads as it did. -/
def evlogDecodesSpec : ChangeSpec := { name := "evlogDecodes", fn := fun _ => fun
  | [d] => { results := [.lit (.bool true)], args := [d] }
  | _ => none }
def evlogDecodesRow : OpenClaim := { program := "ytnhccnjdpdhhaaadoor", sum := "a45162f1534529aef183fe54d4c5090d23c105311a30b6050a281964f7c77e93", func := "hourglass/hourglasslaw.EvlogDecodes", spec := "evlogDecodes", unfollowed := true, recurses := true, named := ["hourglass/evlog.words"], apart := false, laid := [("hourglass/evlog.words", laid_hourglass_evlog_words)] }
def EvlogDecodesSaid : Prop := evlogDecodesRow.holds Tryd.pinned (OpenSpec.ofChange evlogDecodesSpec)

/-- ITS FALSE NEIGHBOUR: 'it returns false'. Refute it at one input. -/
def evlogDecodesWrong : ChangeSpec := { name := "evlogDecodes", fn := fun _ => fun
  | [d] => { results := [.lit (.bool false)], args := [d] }
  | _ => none }
def EvlogDecodesWrongFalsely : Prop := evlogDecodesRow.holds Tryd.pinned (OpenSpec.ofChange evlogDecodesWrong)

/-- 'hourglasslaw.RunChecks': WHATEVER THE INPUT: true; the input reads as it did. -/
def runChecksSpec : ChangeSpec := { name := "runChecks", fn := fun _ => fun
  | [d] => { results := [.lit (.bool true)], args := [d] }
  | _ => none }
def runChecksRow : OpenClaim := { program := "ytnhccnjdpdhhaaadoor", sum := "a45162f1534529aef183fe54d4c5090d23c105311a30b6050a281964f7c77e93", func := "hourglass/hourglasslaw.RunChecks", spec := "runChecks", unfollowed := true, recurses := true, named := ["hourglass/evlog.words"], apart := false, laid := [("hourglass/evlog.words", laid_hourglass_evlog_words)] }
def RunChecksSaid : Prop := runChecksRow.holds Tryd.pinned (OpenSpec.ofChange runChecksSpec)

/-- ITS FALSE NEIGHBOUR: 'it returns false'. Refute it at one input. -/
def runChecksWrong : ChangeSpec := { name := "runChecks", fn := fun _ => fun
  | [d] => { results := [.lit (.bool false)], args := [d] }
  | _ => none }
def RunChecksWrongFalsely : Prop := runChecksRow.holds Tryd.pinned (OpenSpec.ofChange runChecksWrong)

/-- 'hourglasskeep.EventsSpoilt': WHATEVER THE INPUT: true; the input reads as it did. -/
def eventsSpoiltSpec : ChangeSpec := { name := "eventsSpoilt", fn := fun _ => fun
  | [d1, d2, d3] => { results := [.lit (.bool true)], args := [d1, d2, d3] }
  | _ => none }
def eventsSpoiltRow : OpenClaim := { program := "ytnhccnjdpdhhaaadoor", sum := "a45162f1534529aef183fe54d4c5090d23c105311a30b6050a281964f7c77e93", func := "hourglass/hourglasskeep.EventsSpoilt", spec := "eventsSpoilt", unfollowed := true, recurses := true, named := ["hourglass/evlog.words"], apart := false, laid := [("hourglass/evlog.words", laid_hourglass_evlog_words)] }
def EventsSpoiltSaid : Prop := eventsSpoiltRow.holds Tryd.pinned (OpenSpec.ofChange eventsSpoiltSpec)

/-- ITS FALSE NEIGHBOUR: 'it returns false'. Refute it at one input. -/
def eventsSpoiltWrong : ChangeSpec := { name := "eventsSpoilt", fn := fun _ => fun
  | [d1, d2, d3] => { results := [.lit (.bool false)], args := [d1, d2, d3] }
  | _ => none }
def EventsSpoiltWrongFalsely : Prop := eventsSpoiltRow.holds Tryd.pinned (OpenSpec.ofChange eventsSpoiltWrong)

/-- 'hourglasskeep.EventsOnce': WHATEVER THE INPUT: true; the input reads as it did. -/
def eventsOnceSpec : ChangeSpec := { name := "eventsOnce", fn := fun _ => fun
  | [d] => { results := [.lit (.bool true)], args := [d] }
  | _ => none }
def eventsOnceRow : OpenClaim := { program := "ytnhccnjdpdhhaaadoor", sum := "a45162f1534529aef183fe54d4c5090d23c105311a30b6050a281964f7c77e93", func := "hourglass/hourglasskeep.EventsOnce", spec := "eventsOnce", unfollowed := true, recurses := true, named := ["hourglass/evlog.words"], apart := false, laid := [("hourglass/evlog.words", laid_hourglass_evlog_words)] }
def EventsOnceSaid : Prop := eventsOnceRow.holds Tryd.pinned (OpenSpec.ofChange eventsOnceSpec)

/-- ITS FALSE NEIGHBOUR: 'it returns false'. Refute it at one input. -/
def eventsOnceWrong : ChangeSpec := { name := "eventsOnce", fn := fun _ => fun
  | [d] => { results := [.lit (.bool false)], args := [d] }
  | _ => none }
def EventsOnceWrongFalsely : Prop := eventsOnceRow.holds Tryd.pinned (OpenSpec.ofChange eventsOnceWrong)

/-- 'hourglasskeep.EventsBack': WHATEVER THE INPUT: true; the input reads as it did. -/
def eventsBackSpec : ChangeSpec := { name := "eventsBack", fn := fun _ => fun
  | [d1, d2] => { results := [.lit (.bool true)], args := [d1, d2] }
  | _ => none }
def eventsBackRow : OpenClaim := { program := "ytnhccnjdpdhhaaadoor", sum := "a45162f1534529aef183fe54d4c5090d23c105311a30b6050a281964f7c77e93", func := "hourglass/hourglasskeep.EventsBack", spec := "eventsBack", unfollowed := true, recurses := true, named := ["hourglass/evlog.words"], apart := false, laid := [("hourglass/evlog.words", laid_hourglass_evlog_words)] }
def EventsBackSaid : Prop := eventsBackRow.holds Tryd.pinned (OpenSpec.ofChange eventsBackSpec)

/-- ITS FALSE NEIGHBOUR: 'it returns false'. Refute it at one input. -/
def eventsBackWrong : ChangeSpec := { name := "eventsBack", fn := fun _ => fun
  | [d1, d2] => { results := [.lit (.bool false)], args := [d1, d2] }
  | _ => none }
def EventsBackWrongFalsely : Prop := eventsBackRow.holds Tryd.pinned (OpenSpec.ofChange eventsBackWrong)

/- THE SECOND FORM. 'bulk': how many values and letters a reading holds, each counted each time it is reached (what is shared counts as often as it is met; a slice's spare places count too). A statement '..UptoSaid' is the law's where the arguments, and the package variables that the reading takes, are together of bulk at most 1048576: NARROWER than '..Said'. Prove '..Said' where nothing that the law and all that it calls make is longer than what came in: it says more and counts as full. Else prove '..UptoSaid'. A law counts once. -/
mutual
def uptoBulk {H : Type} : DataW H → Nat
  | .lit (.string bytes) => bytes.length + 1
  | .lit _ => 1
  | .nil => 1
  | .ptr d => uptoBulk d + 1
  | .slice elems spare => uptoBulkAll elems + uptoBulkAll spare + 1
  | .agg parts => uptoBulkAll parts + 1
  | .iface _ d => uptoBulk d + 1
  | .map entries => uptoBulkEntries entries + 1
  | .held _ => 1
def uptoBulkAll {H : Type} : List (DataW H) → Nat
  | [] => 0
  | d :: r => uptoBulk d + uptoBulkAll r
def uptoBulkEntries {H : Type} : List (Lit × DataW H) → Nat
  | [] => 0
  | x :: r => uptoBulkEntry x + uptoBulkEntries r
def uptoBulkEntry {H : Type} : Lit × DataW H → Nat
  | (.string bytes, d) => bytes.length + uptoBulk d + 1
  | (_, d) => uptoBulk d + 1
 end
def uptoSmall : (H : Type) → List (DataW H) → Bool := fun _ ds => decide (uptoBulkAll ds ≤ 1048576)
def OpenSpec.upto (s : _root_.Go.ChangeSpec) : _root_.Go.OpenSpec := { _root_.Go.OpenSpec.ofChange s with cond := some uptoSmall }

/-- 'hourglasslaw.EvlogEncodes', WHERE WHAT IT READS IS OF BULK AT MOST 1048576: true; the input reads as it did. -/
def evlogEncodesUptoRow : OpenClaim := { program := "ytnhccnjdpdhhaaadoor", sum := "a45162f1534529aef183fe54d4c5090d23c105311a30b6050a281964f7c77e93", func := "hourglass/hourglasslaw.EvlogEncodes", spec := "evlogEncodes", unfollowed := true, recurses := true, named := ["hourglass/evlog.words"], apart := false, laid := [("hourglass/evlog.words", laid_hourglass_evlog_words)], narrowed := true }
def EvlogEncodesUptoSaid : Prop := evlogEncodesUptoRow.holds Tryd.pinned (OpenSpec.upto evlogEncodesSpec)

/-- 'hourglasslaw.EvlogDecodes', WHERE WHAT IT READS IS OF BULK AT MOST 1048576: true; the input reads as it did. -/
def evlogDecodesUptoRow : OpenClaim := { program := "ytnhccnjdpdhhaaadoor", sum := "a45162f1534529aef183fe54d4c5090d23c105311a30b6050a281964f7c77e93", func := "hourglass/hourglasslaw.EvlogDecodes", spec := "evlogDecodes", unfollowed := true, recurses := true, named := ["hourglass/evlog.words"], apart := false, laid := [("hourglass/evlog.words", laid_hourglass_evlog_words)], narrowed := true }
def EvlogDecodesUptoSaid : Prop := evlogDecodesUptoRow.holds Tryd.pinned (OpenSpec.upto evlogDecodesSpec)

/-- 'hourglasslaw.RunChecks', WHERE WHAT IT READS IS OF BULK AT MOST 1048576: true; the input reads as it did. -/
def runChecksUptoRow : OpenClaim := { program := "ytnhccnjdpdhhaaadoor", sum := "a45162f1534529aef183fe54d4c5090d23c105311a30b6050a281964f7c77e93", func := "hourglass/hourglasslaw.RunChecks", spec := "runChecks", unfollowed := true, recurses := true, named := ["hourglass/evlog.words"], apart := false, laid := [("hourglass/evlog.words", laid_hourglass_evlog_words)], narrowed := true }
def RunChecksUptoSaid : Prop := runChecksUptoRow.holds Tryd.pinned (OpenSpec.upto runChecksSpec)

/-- 'hourglasskeep.EventsSpoilt', WHERE WHAT IT READS IS OF BULK AT MOST 1048576: true; the input reads as it did. -/
def eventsSpoiltUptoRow : OpenClaim := { program := "ytnhccnjdpdhhaaadoor", sum := "a45162f1534529aef183fe54d4c5090d23c105311a30b6050a281964f7c77e93", func := "hourglass/hourglasskeep.EventsSpoilt", spec := "eventsSpoilt", unfollowed := true, recurses := true, named := ["hourglass/evlog.words"], apart := false, laid := [("hourglass/evlog.words", laid_hourglass_evlog_words)], narrowed := true }
def EventsSpoiltUptoSaid : Prop := eventsSpoiltUptoRow.holds Tryd.pinned (OpenSpec.upto eventsSpoiltSpec)

/-- 'hourglasskeep.EventsOnce', WHERE WHAT IT READS IS OF BULK AT MOST 1048576: true; the input reads as it did. -/
def eventsOnceUptoRow : OpenClaim := { program := "ytnhccnjdpdhhaaadoor", sum := "a45162f1534529aef183fe54d4c5090d23c105311a30b6050a281964f7c77e93", func := "hourglass/hourglasskeep.EventsOnce", spec := "eventsOnce", unfollowed := true, recurses := true, named := ["hourglass/evlog.words"], apart := false, laid := [("hourglass/evlog.words", laid_hourglass_evlog_words)], narrowed := true }
def EventsOnceUptoSaid : Prop := eventsOnceUptoRow.holds Tryd.pinned (OpenSpec.upto eventsOnceSpec)

/-- 'hourglasskeep.EventsBack', WHERE WHAT IT READS IS OF BULK AT MOST 1048576: true; the input reads as it did. -/
def eventsBackUptoRow : OpenClaim := { program := "ytnhccnjdpdhhaaadoor", sum := "a45162f1534529aef183fe54d4c5090d23c105311a30b6050a281964f7c77e93", func := "hourglass/hourglasskeep.EventsBack", spec := "eventsBack", unfollowed := true, recurses := true, named := ["hourglass/evlog.words"], apart := false, laid := [("hourglass/evlog.words", laid_hourglass_evlog_words)], narrowed := true }
def EventsBackUptoSaid : Prop := eventsBackUptoRow.holds Tryd.pinned (OpenSpec.upto eventsBackSpec)

end Rows
end Go.Proofs.YtnhccnjdpdhhaaaDoor
