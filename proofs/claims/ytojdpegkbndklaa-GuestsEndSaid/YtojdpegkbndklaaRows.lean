/-
  No cell of these rows narrows 'for every input' (looked for: loops, veiled, ifaces, maps, wideKeys, modest, calm, conditions, laid).
  DERIVED. THE GIVEN ROWS OF THIS SEAT. 7 by the template 'for every input the law returns true; each argument reads behind the call as it read before'; 0 by the template 'total and deterministic' (their statements: YtojdpegkbndklaaTotals.lean).
  GIVEN WITH THE SEED: the statements are not yours to turn. If you find one false, say at which input.
  Laid BY PROGRAM, IN A SANDBOX (cutbox-rows.mjs): the forced cells as the released guide's own fill.sh prints them over the translation 17790db5b0359566… (all of the seat's roots in one cut). By AI agents, Wed Nov 11 2026. No macro, syntax, notation, axiom, sorry.
-/
import Derived.Test.YtojdpegkbndklaaChecked
import GoSem.Claim
import GoSem.ClaimJoined
import GoSem.ClaimMapViews
import Derived.JoinedTies
import Derived.KernelRfl
namespace Go.Proofs.Ytojdpegkbndklaa
/- THE CELL 'sum', in the pinned program and in every row, IS THE sha256 OF THE DUMP (.gsa) THAT YtojdpegkbndklaaProg.lean LOADS. Nothing in Lean hashes anything: it is a label: what it is worth is what the hold of that sum in a sandbox is worth. -/
noncomputable def Try.pinned : Pinned := { name := "ytojdpegkbndklaa", sum := "17790db5b0359566e517fa5d8afa40f6e8803ad506c7ba027e1c4d1350929800", checked := Try.checked }
namespace Rows
def none {H : Type} : Left H := { results := [], args := [] }

/-- 'hourglasslaw.CpuSteps': WHATEVER THE INPUT: true; the input reads as it did. -/
def cpuStepsSpec : ChangeSpec := { name := "cpuSteps", fn := fun _ => fun
  | [d1, d2, d3, d4] => { results := [.lit (.bool true)], args := [d1, d2, d3, d4] }
  | _ => none }
def cpuStepsRow : OpenClaim := { program := "ytojdpegkbndklaa", sum := "17790db5b0359566e517fa5d8afa40f6e8803ad506c7ba027e1c4d1350929800", func := "hourglass/hourglasslaw.CpuSteps", spec := "cpuSteps", unfollowed := true, recurses := true, apart := false }
def CpuStepsSaid : Prop := cpuStepsRow.holds Try.pinned (OpenSpec.ofChange cpuStepsSpec)

/-- ITS FALSE NEIGHBOUR: 'it returns false'. Refute it at one input. -/
def cpuStepsWrong : ChangeSpec := { name := "cpuSteps", fn := fun _ => fun
  | [d1, d2, d3, d4] => { results := [.lit (.bool false)], args := [d1, d2, d3, d4] }
  | _ => none }
def CpuStepsWrongFalsely : Prop := cpuStepsRow.holds Try.pinned (OpenSpec.ofChange cpuStepsWrong)

/-- 'hourglasskeep.Sums': WHATEVER THE INPUT: true; the input reads as it did. -/
def sumsSpec : ChangeSpec := { name := "sums", fn := fun _ => fun
  | [d1, d2] => { results := [.lit (.bool true)], args := [d1, d2] }
  | _ => none }
def sumsRow : OpenClaim := { program := "ytojdpegkbndklaa", sum := "17790db5b0359566e517fa5d8afa40f6e8803ad506c7ba027e1c4d1350929800", func := "hourglass/hourglasskeep.Sums", spec := "sums", unfollowed := true, recurses := true, apart := false }
def SumsSaid : Prop := sumsRow.holds Try.pinned (OpenSpec.ofChange sumsSpec)

/-- ITS FALSE NEIGHBOUR: 'it returns false'. Refute it at one input. -/
def sumsWrong : ChangeSpec := { name := "sums", fn := fun _ => fun
  | [d1, d2] => { results := [.lit (.bool false)], args := [d1, d2] }
  | _ => none }
def SumsWrongFalsely : Prop := sumsRow.holds Try.pinned (OpenSpec.ofChange sumsWrong)

/-- 'hourglasskeep.Stores': WHATEVER THE INPUT: true; the input reads as it did. -/
def storesSpec : ChangeSpec := { name := "stores", fn := fun _ => fun
  | [d1, d2] => { results := [.lit (.bool true)], args := [d1, d2] }
  | _ => none }
def storesRow : OpenClaim := { program := "ytojdpegkbndklaa", sum := "17790db5b0359566e517fa5d8afa40f6e8803ad506c7ba027e1c4d1350929800", func := "hourglass/hourglasskeep.Stores", spec := "stores", unfollowed := true, recurses := true, apart := false }
def StoresSaid : Prop := storesRow.holds Try.pinned (OpenSpec.ofChange storesSpec)

/-- ITS FALSE NEIGHBOUR: 'it returns false'. Refute it at one input. -/
def storesWrong : ChangeSpec := { name := "stores", fn := fun _ => fun
  | [d1, d2] => { results := [.lit (.bool false)], args := [d1, d2] }
  | _ => none }
def StoresWrongFalsely : Prop := storesRow.holds Try.pinned (OpenSpec.ofChange storesWrong)

/-- 'hourglasskeep.Tables': WHATEVER THE INPUT: true; the input reads as it did. -/
def tablesSpec : ChangeSpec := { name := "tables", fn := fun _ => fun
  | [d1, d2, d3] => { results := [.lit (.bool true)], args := [d1, d2, d3] }
  | _ => none }
def tablesRow : OpenClaim := { program := "ytojdpegkbndklaa", sum := "17790db5b0359566e517fa5d8afa40f6e8803ad506c7ba027e1c4d1350929800", func := "hourglass/hourglasskeep.Tables", spec := "tables", unfollowed := true, recurses := true, apart := false }
def TablesSaid : Prop := tablesRow.holds Try.pinned (OpenSpec.ofChange tablesSpec)

/-- ITS FALSE NEIGHBOUR: 'it returns false'. Refute it at one input. -/
def tablesWrong : ChangeSpec := { name := "tables", fn := fun _ => fun
  | [d1, d2, d3] => { results := [.lit (.bool false)], args := [d1, d2, d3] }
  | _ => none }
def TablesWrongFalsely : Prop := tablesRow.holds Try.pinned (OpenSpec.ofChange tablesWrong)

/-- 'hourglasskeep.Interrupts': WHATEVER THE INPUT: true; the input reads as it did. -/
def interruptsSpec : ChangeSpec := { name := "interrupts", fn := fun _ => fun
  | [d] => { results := [.lit (.bool true)], args := [d] }
  | _ => none }
def interruptsRow : OpenClaim := { program := "ytojdpegkbndklaa", sum := "17790db5b0359566e517fa5d8afa40f6e8803ad506c7ba027e1c4d1350929800", func := "hourglass/hourglasskeep.Interrupts", spec := "interrupts", unfollowed := true, recurses := true, apart := false }
def InterruptsSaid : Prop := interruptsRow.holds Try.pinned (OpenSpec.ofChange interruptsSpec)

/-- ITS FALSE NEIGHBOUR: 'it returns false'. Refute it at one input. -/
def interruptsWrong : ChangeSpec := { name := "interrupts", fn := fun _ => fun
  | [d] => { results := [.lit (.bool false)], args := [d] }
  | _ => none }
def InterruptsWrongFalsely : Prop := interruptsRow.holds Try.pinned (OpenSpec.ofChange interruptsWrong)

/-- 'hourglasskeep.Blocks': WHATEVER THE INPUT: true; the input reads as it did. -/
def blocksSpec : ChangeSpec := { name := "blocks", fn := fun _ => fun
  | [d1, d2] => { results := [.lit (.bool true)], args := [d1, d2] }
  | _ => none }
def blocksRow : OpenClaim := { program := "ytojdpegkbndklaa", sum := "17790db5b0359566e517fa5d8afa40f6e8803ad506c7ba027e1c4d1350929800", func := "hourglass/hourglasskeep.Blocks", spec := "blocks", unfollowed := true, recurses := true, apart := false }
def BlocksSaid : Prop := blocksRow.holds Try.pinned (OpenSpec.ofChange blocksSpec)

/-- ITS FALSE NEIGHBOUR: 'it returns false'. Refute it at one input. -/
def blocksWrong : ChangeSpec := { name := "blocks", fn := fun _ => fun
  | [d1, d2] => { results := [.lit (.bool false)], args := [d1, d2] }
  | _ => none }
def BlocksWrongFalsely : Prop := blocksRow.holds Try.pinned (OpenSpec.ofChange blocksWrong)

/-- 'hourglasskeep.GuestsEnd': WHATEVER THE INPUT: true; the input reads as it did. -/
def guestsEndSpec : ChangeSpec := { name := "guestsEnd", fn := fun _ => fun
  | [d1, d2] => { results := [.lit (.bool true)], args := [d1, d2] }
  | _ => none }
def guestsEndRow : OpenClaim := { program := "ytojdpegkbndklaa", sum := "17790db5b0359566e517fa5d8afa40f6e8803ad506c7ba027e1c4d1350929800", func := "hourglass/hourglasskeep.GuestsEnd", spec := "guestsEnd", unfollowed := true, recurses := true, apart := false }
def GuestsEndSaid : Prop := guestsEndRow.holds Try.pinned (OpenSpec.ofChange guestsEndSpec)

/-- ITS FALSE NEIGHBOUR: 'it returns false'. Refute it at one input. -/
def guestsEndWrong : ChangeSpec := { name := "guestsEnd", fn := fun _ => fun
  | [d1, d2] => { results := [.lit (.bool false)], args := [d1, d2] }
  | _ => none }
def GuestsEndWrongFalsely : Prop := guestsEndRow.holds Try.pinned (OpenSpec.ofChange guestsEndWrong)

/- THE SECOND FORM. 'bulk': how many values and letters a reading holds, each counted each time it is reached (what is shared counts as often as it is met; a slice's spare places count too). A statement '..UptoSaid' is the law's where the arguments, and the package variables that the reading takes, are together of bulk at most 1048576: NARROWER than '..Said'. Prove '..Said' where nothing that the law and all that it calls make is longer than what came in: it says more and counts as full. Else prove '..UptoSaid'. A law counts once. -/
mutual
def uptoBulk {H : Type} : DataW H → Nat
  | .lit (.string bytes) => bytes.length + 1
  | .lit _ => 1
  | .nil => 1
  | .ptr d => uptoBulk d + 1
  | .slice elems spare => uptoBulkAll elems + uptoBulkAll spare + 1
  | .agg parts => uptoBulkAll parts + 1
  | .iface _ d => uptoBulk d + 1
  | .map entries => uptoBulkEntries entries + 1
  | .held _ => 1
def uptoBulkAll {H : Type} : List (DataW H) → Nat
  | [] => 0
  | d :: r => uptoBulk d + uptoBulkAll r
def uptoBulkEntries {H : Type} : List (Lit × DataW H) → Nat
  | [] => 0
  | x :: r => uptoBulkEntry x + uptoBulkEntries r
def uptoBulkEntry {H : Type} : Lit × DataW H → Nat
  | (.string bytes, d) => bytes.length + uptoBulk d + 1
  | (_, d) => uptoBulk d + 1
 end
def uptoSmall : (H : Type) → List (DataW H) → Bool := fun _ ds => decide (uptoBulkAll ds ≤ 1048576)
def OpenSpec.upto (s : _root_.Go.ChangeSpec) : _root_.Go.OpenSpec := { _root_.Go.OpenSpec.ofChange s with cond := some uptoSmall }

/-- 'hourglasslaw.CpuSteps', WHERE WHAT IT READS IS OF BULK AT MOST 1048576: true; the input reads as it did. -/
def cpuStepsUptoRow : OpenClaim := { program := "ytojdpegkbndklaa", sum := "17790db5b0359566e517fa5d8afa40f6e8803ad506c7ba027e1c4d1350929800", func := "hourglass/hourglasslaw.CpuSteps", spec := "cpuSteps", unfollowed := true, recurses := true, apart := false, narrowed := true }
def CpuStepsUptoSaid : Prop := cpuStepsUptoRow.holds Try.pinned (OpenSpec.upto cpuStepsSpec)

/-- 'hourglasskeep.Sums', WHERE WHAT IT READS IS OF BULK AT MOST 1048576: true; the input reads as it did. -/
def sumsUptoRow : OpenClaim := { program := "ytojdpegkbndklaa", sum := "17790db5b0359566e517fa5d8afa40f6e8803ad506c7ba027e1c4d1350929800", func := "hourglass/hourglasskeep.Sums", spec := "sums", unfollowed := true, recurses := true, apart := false, narrowed := true }
def SumsUptoSaid : Prop := sumsUptoRow.holds Try.pinned (OpenSpec.upto sumsSpec)

/-- 'hourglasskeep.Stores', WHERE WHAT IT READS IS OF BULK AT MOST 1048576: true; the input reads as it did. -/
def storesUptoRow : OpenClaim := { program := "ytojdpegkbndklaa", sum := "17790db5b0359566e517fa5d8afa40f6e8803ad506c7ba027e1c4d1350929800", func := "hourglass/hourglasskeep.Stores", spec := "stores", unfollowed := true, recurses := true, apart := false, narrowed := true }
def StoresUptoSaid : Prop := storesUptoRow.holds Try.pinned (OpenSpec.upto storesSpec)

/-- 'hourglasskeep.Tables', WHERE WHAT IT READS IS OF BULK AT MOST 1048576: true; the input reads as it did. -/
def tablesUptoRow : OpenClaim := { program := "ytojdpegkbndklaa", sum := "17790db5b0359566e517fa5d8afa40f6e8803ad506c7ba027e1c4d1350929800", func := "hourglass/hourglasskeep.Tables", spec := "tables", unfollowed := true, recurses := true, apart := false, narrowed := true }
def TablesUptoSaid : Prop := tablesUptoRow.holds Try.pinned (OpenSpec.upto tablesSpec)

/-- 'hourglasskeep.Interrupts', WHERE WHAT IT READS IS OF BULK AT MOST 1048576: true; the input reads as it did. -/
def interruptsUptoRow : OpenClaim := { program := "ytojdpegkbndklaa", sum := "17790db5b0359566e517fa5d8afa40f6e8803ad506c7ba027e1c4d1350929800", func := "hourglass/hourglasskeep.Interrupts", spec := "interrupts", unfollowed := true, recurses := true, apart := false, narrowed := true }
def InterruptsUptoSaid : Prop := interruptsUptoRow.holds Try.pinned (OpenSpec.upto interruptsSpec)

/-- 'hourglasskeep.Blocks', WHERE WHAT IT READS IS OF BULK AT MOST 1048576: true; the input reads as it did. -/
def blocksUptoRow : OpenClaim := { program := "ytojdpegkbndklaa", sum := "17790db5b0359566e517fa5d8afa40f6e8803ad506c7ba027e1c4d1350929800", func := "hourglass/hourglasskeep.Blocks", spec := "blocks", unfollowed := true, recurses := true, apart := false, narrowed := true }
def BlocksUptoSaid : Prop := blocksUptoRow.holds Try.pinned (OpenSpec.upto blocksSpec)

/-- 'hourglasskeep.GuestsEnd', WHERE WHAT IT READS IS OF BULK AT MOST 1048576: true; the input reads as it did. -/
def guestsEndUptoRow : OpenClaim := { program := "ytojdpegkbndklaa", sum := "17790db5b0359566e517fa5d8afa40f6e8803ad506c7ba027e1c4d1350929800", func := "hourglass/hourglasskeep.GuestsEnd", spec := "guestsEnd", unfollowed := true, recurses := true, apart := false, narrowed := true }
def GuestsEndUptoSaid : Prop := guestsEndUptoRow.holds Try.pinned (OpenSpec.upto guestsEndSpec)

end Rows
end Go.Proofs.Ytojdpegkbndklaa
