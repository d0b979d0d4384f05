/-
  NARROWER THAN 'FOR EVERY INPUT', by the rows' own cells (each row's printed sentence says how): EvlogDecodes: laid · RunChecks: laid · RunRecords: laid · RunReplays: laid.
  DERIVED. THE GIVEN ROWS OF THIS SEAT. 4 by the template 'for every input the law returns true; each argument reads behind the call as it read before'; 0 by the template 'total and deterministic' (their statements: YtiekilpddmdhnaaDoorTotals.lean).
  GIVEN WITH THE SEED: the statements are not yours to turn. If you find one false, say at which input.
  Laid BY PROGRAM, IN A SANDBOX (cutbox-rows.mjs): the forced cells as the released guide's own fill.sh prints them over the translation 577e75df9271bb80… (all of the seat's roots in one cut). By AI agents, Wed Nov 11 2026. No macro, syntax, notation, axiom, sorry.
-/
import Derived.Test.YtiekilpddmdhnaaDoorChecked
import GoSem.Claim
import GoSem.ClaimJoined
import GoSem.ClaimMapViews
import Derived.JoinedTies
import Derived.KernelRfl
namespace Go.Proofs.YtiekilpddmdhnaaDoor
/- THE CELL 'sum', in the pinned program and in every row, IS THE sha256 OF THE DUMP (.gsa) THAT YtiekilpddmdhnaaDoorProg.lean LOADS. Nothing in Lean hashes anything: it is a label: what it is worth is what the hold of that sum in a sandbox is worth. -/
noncomputable def Tryd.pinned : Pinned := { name := "ytiekilpddmdhnaadoor", sum := "577e75df9271bb807650bcc27c683a9e0aa04ae3fd49186eb15d5f7979cb5b74", checked := Tryd.checked }
namespace Rows
def none {H : Type} : Left H := { results := [], args := [] }

/- WHAT THE LISTED PACKAGE-LEVEL VARIABLES READ AS WHEN THE CALL BEGINS. Each datum BY PROGRAM (the guide's laid-datum.mjs) off the statement by which the dump's own 'gosem.cut.vars' lays the variable. In a bare row this is a premise. The card (YtiekilpddmdhnaaDoorCards.lean) ties it to the program's text. -/
def laid_hourglass_evlog_words {H : Type} : DataW H := .agg [.lit (.int .i64 0), .lit (.int .i64 0), .lit (.int .i64 16), .lit (.int .i64 1)]

/-- 'hourglasslaw.EvlogDecodes': WHATEVER THE INPUT: true; the input reads as it did. -/
def evlogDecodesSpec : ChangeSpec := { name := "evlogDecodes", fn := fun _ => fun
  | [d] => { results := [.lit (.bool true)], args := [d] }
  | _ => none }
def evlogDecodesRow : OpenClaim := { program := "ytiekilpddmdhnaadoor", sum := "577e75df9271bb807650bcc27c683a9e0aa04ae3fd49186eb15d5f7979cb5b74", func := "hourglass/hourglasslaw.EvlogDecodes", spec := "evlogDecodes", unfollowed := true, recurses := true, named := ["hourglass/evlog.words"], apart := false, laid := [("hourglass/evlog.words", laid_hourglass_evlog_words)] }
def EvlogDecodesSaid : Prop := evlogDecodesRow.holds Tryd.pinned (OpenSpec.ofChange evlogDecodesSpec)

/-- ITS FALSE NEIGHBOUR: 'it returns false'. Refute it at one input. -/
def evlogDecodesWrong : ChangeSpec := { name := "evlogDecodes", fn := fun _ => fun
  | [d] => { results := [.lit (.bool false)], args := [d] }
  | _ => none }
def EvlogDecodesWrongFalsely : Prop := evlogDecodesRow.holds Tryd.pinned (OpenSpec.ofChange evlogDecodesWrong)

/-- 'hourglasslaw.RunChecks': WHATEVER THE INPUT: true; the input reads as it did. -/
def runChecksSpec : ChangeSpec := { name := "runChecks", fn := fun _ => fun
  | [d] => { results := [.lit (.bool true)], args := [d] }
  | _ => none }
def runChecksRow : OpenClaim := { program := "ytiekilpddmdhnaadoor", sum := "577e75df9271bb807650bcc27c683a9e0aa04ae3fd49186eb15d5f7979cb5b74", func := "hourglass/hourglasslaw.RunChecks", spec := "runChecks", unfollowed := true, recurses := true, named := ["hourglass/evlog.words"], apart := false, laid := [("hourglass/evlog.words", laid_hourglass_evlog_words)] }
def RunChecksSaid : Prop := runChecksRow.holds Tryd.pinned (OpenSpec.ofChange runChecksSpec)

/-- ITS FALSE NEIGHBOUR: 'it returns false'. Refute it at one input. -/
def runChecksWrong : ChangeSpec := { name := "runChecks", fn := fun _ => fun
  | [d] => { results := [.lit (.bool false)], args := [d] }
  | _ => none }
def RunChecksWrongFalsely : Prop := runChecksRow.holds Tryd.pinned (OpenSpec.ofChange runChecksWrong)

/-- 'hourglasslaw.RunRecords': WHATEVER THE INPUT: true; the input reads as it did. -/
def runRecordsSpec : ChangeSpec := { name := "runRecords", fn := fun _ => fun
  | [d1, d2, d3] => { results := [.lit (.bool true)], args := [d1, d2, d3] }
  | _ => none }
def runRecordsRow : OpenClaim := { program := "ytiekilpddmdhnaadoor", sum := "577e75df9271bb807650bcc27c683a9e0aa04ae3fd49186eb15d5f7979cb5b74", func := "hourglass/hourglasslaw.RunRecords", spec := "runRecords", unfollowed := true, recurses := true, named := ["hourglass/evlog.words"], apart := false, laid := [("hourglass/evlog.words", laid_hourglass_evlog_words)] }
def RunRecordsSaid : Prop := runRecordsRow.holds Tryd.pinned (OpenSpec.ofChange runRecordsSpec)

/-- ITS FALSE NEIGHBOUR: 'it returns false'. Refute it at one input. -/
def runRecordsWrong : ChangeSpec := { name := "runRecords", fn := fun _ => fun
  | [d1, d2, d3] => { results := [.lit (.bool false)], args := [d1, d2, d3] }
  | _ => none }
def RunRecordsWrongFalsely : Prop := runRecordsRow.holds Tryd.pinned (OpenSpec.ofChange runRecordsWrong)

/-- 'hourglasslaw.RunReplays': WHATEVER THE INPUT: true; the input reads as it did. -/
def runReplaysSpec : ChangeSpec := { name := "runReplays", fn := fun _ => fun
  | [d1, d2] => { results := [.lit (.bool true)], args := [d1, d2] }
  | _ => none }
def runReplaysRow : OpenClaim := { program := "ytiekilpddmdhnaadoor", sum := "577e75df9271bb807650bcc27c683a9e0aa04ae3fd49186eb15d5f7979cb5b74", func := "hourglass/hourglasslaw.RunReplays", spec := "runReplays", unfollowed := true, recurses := true, named := ["hourglass/evlog.words"], apart := false, laid := [("hourglass/evlog.words", laid_hourglass_evlog_words)] }
def RunReplaysSaid : Prop := runReplaysRow.holds Tryd.pinned (OpenSpec.ofChange runReplaysSpec)

/-- ITS FALSE NEIGHBOUR: 'it returns false'. Refute it at one input. -/
def runReplaysWrong : ChangeSpec := { name := "runReplays", fn := fun _ => fun
  | [d1, d2] => { results := [.lit (.bool false)], args := [d1, d2] }
  | _ => none }
def RunReplaysWrongFalsely : Prop := runReplaysRow.holds Tryd.pinned (OpenSpec.ofChange runReplaysWrong)

/- THE SECOND FORM. 'bulk': how many values and letters a reading holds, each counted each time it is reached (what is shared counts as often as it is met; a slice's spare places count too). A statement '..UptoSaid' is the law's where the arguments, and the package variables that the reading takes, are together of bulk at most 1048576: NARROWER than '..Said'. Prove '..Said' where nothing that the law and all that it calls make is longer than what came in: it says more and counts as full. Else prove '..UptoSaid'. A law counts once. -/
mutual
def uptoBulk {H : Type} : DataW H → Nat
  | .lit (.string bytes) => bytes.length + 1
  | .lit _ => 1
  | .nil => 1
  | .ptr d => uptoBulk d + 1
  | .slice elems spare => uptoBulkAll elems + uptoBulkAll spare + 1
  | .agg parts => uptoBulkAll parts + 1
  | .iface _ d => uptoBulk d + 1
  | .map entries => uptoBulkEntries entries + 1
  | .held _ => 1
def uptoBulkAll {H : Type} : List (DataW H) → Nat
  | [] => 0
  | d :: r => uptoBulk d + uptoBulkAll r
def uptoBulkEntries {H : Type} : List (Lit × DataW H) → Nat
  | [] => 0
  | x :: r => uptoBulkEntry x + uptoBulkEntries r
def uptoBulkEntry {H : Type} : Lit × DataW H → Nat
  | (.string bytes, d) => bytes.length + uptoBulk d + 1
  | (_, d) => uptoBulk d + 1
 end
def uptoSmall : (H : Type) → List (DataW H) → Bool := fun _ ds => decide (uptoBulkAll ds ≤ 1048576)
def OpenSpec.upto (s : _root_.Go.ChangeSpec) : _root_.Go.OpenSpec := { _root_.Go.OpenSpec.ofChange s with cond := some uptoSmall }

/-- 'hourglasslaw.EvlogDecodes', WHERE WHAT IT READS IS OF BULK AT MOST 1048576: true; the input reads as it did. -/
def evlogDecodesUptoRow : OpenClaim := { program := "ytiekilpddmdhnaadoor", sum := "577e75df9271bb807650bcc27c683a9e0aa04ae3fd49186eb15d5f7979cb5b74", func := "hourglass/hourglasslaw.EvlogDecodes", spec := "evlogDecodes", unfollowed := true, recurses := true, named := ["hourglass/evlog.words"], apart := false, laid := [("hourglass/evlog.words", laid_hourglass_evlog_words)], narrowed := true }
def EvlogDecodesUptoSaid : Prop := evlogDecodesUptoRow.holds Tryd.pinned (OpenSpec.upto evlogDecodesSpec)

/-- 'hourglasslaw.RunChecks', WHERE WHAT IT READS IS OF BULK AT MOST 1048576: true; the input reads as it did. -/
def runChecksUptoRow : OpenClaim := { program := "ytiekilpddmdhnaadoor", sum := "577e75df9271bb807650bcc27c683a9e0aa04ae3fd49186eb15d5f7979cb5b74", func := "hourglass/hourglasslaw.RunChecks", spec := "runChecks", unfollowed := true, recurses := true, named := ["hourglass/evlog.words"], apart := false, laid := [("hourglass/evlog.words", laid_hourglass_evlog_words)], narrowed := true }
def RunChecksUptoSaid : Prop := runChecksUptoRow.holds Tryd.pinned (OpenSpec.upto runChecksSpec)

/-- 'hourglasslaw.RunRecords', WHERE WHAT IT READS IS OF BULK AT MOST 1048576: true; the input reads as it did. -/
def runRecordsUptoRow : OpenClaim := { program := "ytiekilpddmdhnaadoor", sum := "577e75df9271bb807650bcc27c683a9e0aa04ae3fd49186eb15d5f7979cb5b74", func := "hourglass/hourglasslaw.RunRecords", spec := "runRecords", unfollowed := true, recurses := true, named := ["hourglass/evlog.words"], apart := false, laid := [("hourglass/evlog.words", laid_hourglass_evlog_words)], narrowed := true }
def RunRecordsUptoSaid : Prop := runRecordsUptoRow.holds Tryd.pinned (OpenSpec.upto runRecordsSpec)

/-- 'hourglasslaw.RunReplays', WHERE WHAT IT READS IS OF BULK AT MOST 1048576: true; the input reads as it did. -/
def runReplaysUptoRow : OpenClaim := { program := "ytiekilpddmdhnaadoor", sum := "577e75df9271bb807650bcc27c683a9e0aa04ae3fd49186eb15d5f7979cb5b74", func := "hourglass/hourglasslaw.RunReplays", spec := "runReplays", unfollowed := true, recurses := true, named := ["hourglass/evlog.words"], apart := false, laid := [("hourglass/evlog.words", laid_hourglass_evlog_words)], narrowed := true }
def RunReplaysUptoSaid : Prop := runReplaysUptoRow.holds Tryd.pinned (OpenSpec.upto runReplaysSpec)

end Rows
end Go.Proofs.YtiekilpddmdhnaaDoor
