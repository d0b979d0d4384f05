/-
  NARROWER THAN 'FOR EVERY INPUT', by the rows' own cells (each row's printed sentence says how): TopReplay: laid · TopSeek: laid · RecordsBegin: laid · DeckSeeks: laid · SeeksFew: laid · SeeksTell: laid.
  DERIVED. THE GIVEN ROWS OF THIS SEAT. 6 by the template 'for every input the law returns true; each argument reads behind the call as it read before'; 0 by the template 'total and deterministic' (their statements: YtpdbcdfgonnnnaaDoorTotals.lean).
  GIVEN WITH THE SEED: the statements are not yours to turn. If you find one false, say at which input.
  Laid BY PROGRAM, IN A SANDBOX (cutbox-rows.mjs): the forced cells as the released guide's own fill.sh prints them over the translation dae9adbab009ad6b… (all of the seat's roots in one cut). By AI agents, Wed Nov 11 2026. No macro, syntax, notation, axiom, sorry.
-/
import Derived.Test.YtpdbcdfgonnnnaaDoorChecked
import GoSem.Claim
import GoSem.ClaimJoined
import GoSem.ClaimMapViews
import Derived.JoinedTies
import Derived.KernelRfl
namespace Go.Proofs.YtpdbcdfgonnnnaaDoor
/- THE CELL 'sum', in the pinned program and in every row, IS THE sha256 OF THE DUMP (.gsa) THAT YtpdbcdfgonnnnaaDoorProg.lean LOADS. Nothing in Lean hashes anything: it is a label: what it is worth is what the hold of that sum in a sandbox is worth. -/
noncomputable def Tryd.pinned : Pinned := { name := "ytpdbcdfgonnnnaadoor", sum := "dae9adbab009ad6b0479359837960ae053320d10584768f2fe5e5bbf3eba5f41", checked := Tryd.checked }
namespace Rows
def none {H : Type} : Left H := { results := [], args := [] }

/- WHAT THE LISTED PACKAGE-LEVEL VARIABLES READ AS WHEN THE CALL BEGINS. Each datum BY PROGRAM (the guide's laid-datum.mjs) off the statement by which the dump's own 'gosem.cut.vars' lays the variable. In a bare row this is a premise. The card (YtpdbcdfgonnnnaaDoorCards.lean) ties it to the program's text. -/
def laid_hourglass_evlog_words {H : Type} : DataW H := .agg [.lit (.int .i64 0), .lit (.int .i64 0), .lit (.int .i64 16), .lit (.int .i64 1)]

/-- 'hourglasstop.TopReplay': WHATEVER THE INPUT: true; the input reads as it did. -/
def topReplaySpec : ChangeSpec := { name := "topReplay", fn := fun _ => fun
  | [d1, d2, d3, d4, d5] => { results := [.lit (.bool true)], args := [d1, d2, d3, d4, d5] }
  | _ => none }
def topReplayRow : OpenClaim := { program := "ytpdbcdfgonnnnaadoor", sum := "dae9adbab009ad6b0479359837960ae053320d10584768f2fe5e5bbf3eba5f41", func := "hourglass/hourglasstop.TopReplay", spec := "topReplay", unfollowed := true, recurses := true, named := ["hourglass/evlog.words"], apart := false, laid := [("hourglass/evlog.words", laid_hourglass_evlog_words)] }
def TopReplaySaid : Prop := topReplayRow.holds Tryd.pinned (OpenSpec.ofChange topReplaySpec)

/-- ITS FALSE NEIGHBOUR: 'it returns false'. Refute it at one input. -/
def topReplayWrong : ChangeSpec := { name := "topReplay", fn := fun _ => fun
  | [d1, d2, d3, d4, d5] => { results := [.lit (.bool false)], args := [d1, d2, d3, d4, d5] }
  | _ => none }
def TopReplayWrongFalsely : Prop := topReplayRow.holds Tryd.pinned (OpenSpec.ofChange topReplayWrong)

/-- 'hourglasstop.TopSeek': WHATEVER THE INPUT: true; the input reads as it did. -/
def topSeekSpec : ChangeSpec := { name := "topSeek", fn := fun _ => fun
  | [d1, d2, d3, d4, d5, d6, d7] => { results := [.lit (.bool true)], args := [d1, d2, d3, d4, d5, d6, d7] }
  | _ => none }
def topSeekRow : OpenClaim := { program := "ytpdbcdfgonnnnaadoor", sum := "dae9adbab009ad6b0479359837960ae053320d10584768f2fe5e5bbf3eba5f41", func := "hourglass/hourglasstop.TopSeek", spec := "topSeek", unfollowed := true, recurses := true, named := ["hourglass/evlog.words"], apart := false, laid := [("hourglass/evlog.words", laid_hourglass_evlog_words)] }
def TopSeekSaid : Prop := topSeekRow.holds Tryd.pinned (OpenSpec.ofChange topSeekSpec)

/-- ITS FALSE NEIGHBOUR: 'it returns false'. Refute it at one input. -/
def topSeekWrong : ChangeSpec := { name := "topSeek", fn := fun _ => fun
  | [d1, d2, d3, d4, d5, d6, d7] => { results := [.lit (.bool false)], args := [d1, d2, d3, d4, d5, d6, d7] }
  | _ => none }
def TopSeekWrongFalsely : Prop := topSeekRow.holds Tryd.pinned (OpenSpec.ofChange topSeekWrong)

/-- 'hourglasskeep.RecordsBegin': WHATEVER THE INPUT: true; the input reads as it did. -/
def recordsBeginSpec : ChangeSpec := { name := "recordsBegin", fn := fun _ => fun
  | [d1, d2, d3, d4] => { results := [.lit (.bool true)], args := [d1, d2, d3, d4] }
  | _ => none }
def recordsBeginRow : OpenClaim := { program := "ytpdbcdfgonnnnaadoor", sum := "dae9adbab009ad6b0479359837960ae053320d10584768f2fe5e5bbf3eba5f41", func := "hourglass/hourglasskeep.RecordsBegin", spec := "recordsBegin", unfollowed := true, recurses := true, named := ["hourglass/evlog.words"], apart := false, laid := [("hourglass/evlog.words", laid_hourglass_evlog_words)] }
def RecordsBeginSaid : Prop := recordsBeginRow.holds Tryd.pinned (OpenSpec.ofChange recordsBeginSpec)

/-- ITS FALSE NEIGHBOUR: 'it returns false'. Refute it at one input. -/
def recordsBeginWrong : ChangeSpec := { name := "recordsBegin", fn := fun _ => fun
  | [d1, d2, d3, d4] => { results := [.lit (.bool false)], args := [d1, d2, d3, d4] }
  | _ => none }
def RecordsBeginWrongFalsely : Prop := recordsBeginRow.holds Tryd.pinned (OpenSpec.ofChange recordsBeginWrong)

/-- 'hourglasslaw.DeckSeeks': WHATEVER THE INPUT: true; the input reads as it did. -/
def deckSeeksSpec : ChangeSpec := { name := "deckSeeks", fn := fun _ => fun
  | [d1, d2, d3] => { results := [.lit (.bool true)], args := [d1, d2, d3] }
  | _ => none }
def deckSeeksRow : OpenClaim := { program := "ytpdbcdfgonnnnaadoor", sum := "dae9adbab009ad6b0479359837960ae053320d10584768f2fe5e5bbf3eba5f41", func := "hourglass/hourglasslaw.DeckSeeks", spec := "deckSeeks", unfollowed := true, recurses := true, named := ["hourglass/evlog.words"], apart := false, laid := [("hourglass/evlog.words", laid_hourglass_evlog_words)] }
def DeckSeeksSaid : Prop := deckSeeksRow.holds Tryd.pinned (OpenSpec.ofChange deckSeeksSpec)

/-- ITS FALSE NEIGHBOUR: 'it returns false'. Refute it at one input. -/
def deckSeeksWrong : ChangeSpec := { name := "deckSeeks", fn := fun _ => fun
  | [d1, d2, d3] => { results := [.lit (.bool false)], args := [d1, d2, d3] }
  | _ => none }
def DeckSeeksWrongFalsely : Prop := deckSeeksRow.holds Tryd.pinned (OpenSpec.ofChange deckSeeksWrong)

/-- 'hourglasskeep.SeeksFew': WHATEVER THE INPUT: true; the input reads as it did. -/
def seeksFewSpec : ChangeSpec := { name := "seeksFew", fn := fun _ => fun
  | [d1, d2, d3, d4, d5] => { results := [.lit (.bool true)], args := [d1, d2, d3, d4, d5] }
  | _ => none }
def seeksFewRow : OpenClaim := { program := "ytpdbcdfgonnnnaadoor", sum := "dae9adbab009ad6b0479359837960ae053320d10584768f2fe5e5bbf3eba5f41", func := "hourglass/hourglasskeep.SeeksFew", spec := "seeksFew", unfollowed := true, recurses := true, named := ["hourglass/evlog.words"], apart := false, laid := [("hourglass/evlog.words", laid_hourglass_evlog_words)] }
def SeeksFewSaid : Prop := seeksFewRow.holds Tryd.pinned (OpenSpec.ofChange seeksFewSpec)

/-- ITS FALSE NEIGHBOUR: 'it returns false'. Refute it at one input. -/
def seeksFewWrong : ChangeSpec := { name := "seeksFew", fn := fun _ => fun
  | [d1, d2, d3, d4, d5] => { results := [.lit (.bool false)], args := [d1, d2, d3, d4, d5] }
  | _ => none }
def SeeksFewWrongFalsely : Prop := seeksFewRow.holds Tryd.pinned (OpenSpec.ofChange seeksFewWrong)

/-- 'hourglasskeep.SeeksTell': WHATEVER THE INPUT: true; the input reads as it did. -/
def seeksTellSpec : ChangeSpec := { name := "seeksTell", fn := fun _ => fun
  | [d1, d2, d3, d4, d5, d6] => { results := [.lit (.bool true)], args := [d1, d2, d3, d4, d5, d6] }
  | _ => none }
def seeksTellRow : OpenClaim := { program := "ytpdbcdfgonnnnaadoor", sum := "dae9adbab009ad6b0479359837960ae053320d10584768f2fe5e5bbf3eba5f41", func := "hourglass/hourglasskeep.SeeksTell", spec := "seeksTell", unfollowed := true, recurses := true, named := ["hourglass/evlog.words"], apart := false, laid := [("hourglass/evlog.words", laid_hourglass_evlog_words)] }
def SeeksTellSaid : Prop := seeksTellRow.holds Tryd.pinned (OpenSpec.ofChange seeksTellSpec)

/-- ITS FALSE NEIGHBOUR: 'it returns false'. Refute it at one input. -/
def seeksTellWrong : ChangeSpec := { name := "seeksTell", fn := fun _ => fun
  | [d1, d2, d3, d4, d5, d6] => { results := [.lit (.bool false)], args := [d1, d2, d3, d4, d5, d6] }
  | _ => none }
def SeeksTellWrongFalsely : Prop := seeksTellRow.holds Tryd.pinned (OpenSpec.ofChange seeksTellWrong)

/- THE SECOND FORM. 'bulk': how many values and letters a reading holds, each counted each time it is reached (what is shared counts as often as it is met; a slice's spare places count too). A statement '..UptoSaid' is the law's where the arguments, and the package variables that the reading takes, are together of bulk at most 1048576: NARROWER than '..Said'. Prove '..Said' where nothing that the law and all that it calls make is longer than what came in: it says more and counts as full. Else prove '..UptoSaid'. A law counts once. -/
mutual
def uptoBulk {H : Type} : DataW H → Nat
  | .lit (.string bytes) => bytes.length + 1
  | .lit _ => 1
  | .nil => 1
  | .ptr d => uptoBulk d + 1
  | .slice elems spare => uptoBulkAll elems + uptoBulkAll spare + 1
  | .agg parts => uptoBulkAll parts + 1
  | .iface _ d => uptoBulk d + 1
  | .map entries => uptoBulkEntries entries + 1
  | .held _ => 1
def uptoBulkAll {H : Type} : List (DataW H) → Nat
  | [] => 0
  | d :: r => uptoBulk d + uptoBulkAll r
def uptoBulkEntries {H : Type} : List (Lit × DataW H) → Nat
  | [] => 0
  | x :: r => uptoBulkEntry x + uptoBulkEntries r
def uptoBulkEntry {H : Type} : Lit × DataW H → Nat
  | (.string bytes, d) => bytes.length + uptoBulk d + 1
  | (_, d) => uptoBulk d + 1
 end
def uptoSmall : (H : Type) → List (DataW H) → Bool := fun _ ds => decide (uptoBulkAll ds ≤ 1048576)
def OpenSpec.upto (s : _root_.Go.ChangeSpec) : _root_.Go.OpenSpec := { _root_.Go.OpenSpec.ofChange s with cond := some uptoSmall }

/-- 'hourglasstop.TopReplay', WHERE WHAT IT READS IS OF BULK AT MOST 1048576: true; the input reads as it did. -/
def topReplayUptoRow : OpenClaim := { program := "ytpdbcdfgonnnnaadoor", sum := "dae9adbab009ad6b0479359837960ae053320d10584768f2fe5e5bbf3eba5f41", func := "hourglass/hourglasstop.TopReplay", spec := "topReplay", unfollowed := true, recurses := true, named := ["hourglass/evlog.words"], apart := false, laid := [("hourglass/evlog.words", laid_hourglass_evlog_words)], narrowed := true }
def TopReplayUptoSaid : Prop := topReplayUptoRow.holds Tryd.pinned (OpenSpec.upto topReplaySpec)

/-- 'hourglasstop.TopSeek', WHERE WHAT IT READS IS OF BULK AT MOST 1048576: true; the input reads as it did. -/
def topSeekUptoRow : OpenClaim := { program := "ytpdbcdfgonnnnaadoor", sum := "dae9adbab009ad6b0479359837960ae053320d10584768f2fe5e5bbf3eba5f41", func := "hourglass/hourglasstop.TopSeek", spec := "topSeek", unfollowed := true, recurses := true, named := ["hourglass/evlog.words"], apart := false, laid := [("hourglass/evlog.words", laid_hourglass_evlog_words)], narrowed := true }
def TopSeekUptoSaid : Prop := topSeekUptoRow.holds Tryd.pinned (OpenSpec.upto topSeekSpec)

/-- 'hourglasskeep.RecordsBegin', WHERE WHAT IT READS IS OF BULK AT MOST 1048576: true; the input reads as it did. -/
def recordsBeginUptoRow : OpenClaim := { program := "ytpdbcdfgonnnnaadoor", sum := "dae9adbab009ad6b0479359837960ae053320d10584768f2fe5e5bbf3eba5f41", func := "hourglass/hourglasskeep.RecordsBegin", spec := "recordsBegin", unfollowed := true, recurses := true, named := ["hourglass/evlog.words"], apart := false, laid := [("hourglass/evlog.words", laid_hourglass_evlog_words)], narrowed := true }
def RecordsBeginUptoSaid : Prop := recordsBeginUptoRow.holds Tryd.pinned (OpenSpec.upto recordsBeginSpec)

/-- 'hourglasslaw.DeckSeeks', WHERE WHAT IT READS IS OF BULK AT MOST 1048576: true; the input reads as it did. -/
def deckSeeksUptoRow : OpenClaim := { program := "ytpdbcdfgonnnnaadoor", sum := "dae9adbab009ad6b0479359837960ae053320d10584768f2fe5e5bbf3eba5f41", func := "hourglass/hourglasslaw.DeckSeeks", spec := "deckSeeks", unfollowed := true, recurses := true, named := ["hourglass/evlog.words"], apart := false, laid := [("hourglass/evlog.words", laid_hourglass_evlog_words)], narrowed := true }
def DeckSeeksUptoSaid : Prop := deckSeeksUptoRow.holds Tryd.pinned (OpenSpec.upto deckSeeksSpec)

/-- 'hourglasskeep.SeeksFew', WHERE WHAT IT READS IS OF BULK AT MOST 1048576: true; the input reads as it did. -/
def seeksFewUptoRow : OpenClaim := { program := "ytpdbcdfgonnnnaadoor", sum := "dae9adbab009ad6b0479359837960ae053320d10584768f2fe5e5bbf3eba5f41", func := "hourglass/hourglasskeep.SeeksFew", spec := "seeksFew", unfollowed := true, recurses := true, named := ["hourglass/evlog.words"], apart := false, laid := [("hourglass/evlog.words", laid_hourglass_evlog_words)], narrowed := true }
def SeeksFewUptoSaid : Prop := seeksFewUptoRow.holds Tryd.pinned (OpenSpec.upto seeksFewSpec)

/-- 'hourglasskeep.SeeksTell', WHERE WHAT IT READS IS OF BULK AT MOST 1048576: true; the input reads as it did. -/
def seeksTellUptoRow : OpenClaim := { program := "ytpdbcdfgonnnnaadoor", sum := "dae9adbab009ad6b0479359837960ae053320d10584768f2fe5e5bbf3eba5f41", func := "hourglass/hourglasskeep.SeeksTell", spec := "seeksTell", unfollowed := true, recurses := true, named := ["hourglass/evlog.words"], apart := false, laid := [("hourglass/evlog.words", laid_hourglass_evlog_words)], narrowed := true }
def SeeksTellUptoSaid : Prop := seeksTellUptoRow.holds Tryd.pinned (OpenSpec.upto seeksTellSpec)

end Rows
end Go.Proofs.YtpdbcdfgonnnnaaDoor
