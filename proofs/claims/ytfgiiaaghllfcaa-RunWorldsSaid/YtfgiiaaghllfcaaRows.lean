/-
  No cell of these rows narrows 'for every input' (looked for: loops, veiled, ifaces, maps, wideKeys, modest, calm, conditions, laid).
  DERIVED. THE GIVEN ROWS OF THIS SEAT. 29 by the template 'for every input the law returns true; each argument reads behind the call as it read before'; 0 by the template 'total and deterministic' (their statements: YtfgiiaaghllfcaaTotals.lean).
  GIVEN WITH THE SEED: the statements are not yours to turn. If you find one false, say at which input.
  Laid BY PROGRAM, IN A SANDBOX (cutbox-rows.mjs): the forced cells as the released guide's own fill.sh prints them over the translation 8c991193354e24dc… (all of the seat's roots in one cut). By AI agents, Wed Nov 11 2026. No macro, syntax, notation, axiom, sorry.
-/
import Derived.Test.YtfgiiaaghllfcaaChecked
import GoSem.Claim
import GoSem.ClaimJoined
import GoSem.ClaimMapViews
import Derived.JoinedTies
import Derived.KernelRfl
namespace Go.Proofs.Ytfgiiaaghllfcaa
/- THE CELL 'sum', in the pinned program and in every row, IS THE sha256 OF THE DUMP (.gsa) THAT YtfgiiaaghllfcaaProg.lean LOADS. Nothing in Lean hashes anything: it is a label: what it is worth is what the hold of that sum in a sandbox is worth. -/
noncomputable def Try.pinned : Pinned := { name := "ytfgiiaaghllfcaa", sum := "8c991193354e24dcfbc6f659eb09b3aaaad02f4b208c30a7d9da5c7cd0c39804", checked := Try.checked }
namespace Rows
def none {H : Type} : Left H := { results := [], args := [] }

/-- 'hourglasslaw.Names': WHATEVER THE INPUT: true; the input reads as it did. -/
def namesSpec : ChangeSpec := { name := "names", fn := fun _ => fun
  | [] => { results := [.lit (.bool true)], args := [] }
  | _ => none }
def namesRow : OpenClaim := { program := "ytfgiiaaghllfcaa", sum := "8c991193354e24dcfbc6f659eb09b3aaaad02f4b208c30a7d9da5c7cd0c39804", func := "hourglass/hourglasslaw.Names", spec := "names", apart := false }
def NamesSaid : Prop := namesRow.holds Try.pinned (OpenSpec.ofChange namesSpec)

/-- ITS FALSE NEIGHBOUR: 'it returns false'. Refute it at one input. -/
def namesWrong : ChangeSpec := { name := "names", fn := fun _ => fun
  | [] => { results := [.lit (.bool false)], args := [] }
  | _ => none }
def NamesWrongFalsely : Prop := namesRow.holds Try.pinned (OpenSpec.ofChange namesWrong)

/-- 'hourglasslaw.FramesNew': WHATEVER THE INPUT: true; the input reads as it did. -/
def framesNewSpec : ChangeSpec := { name := "framesNew", fn := fun _ => fun
  | [d] => { results := [.lit (.bool true)], args := [d] }
  | _ => none }
def framesNewRow : OpenClaim := { program := "ytfgiiaaghllfcaa", sum := "8c991193354e24dcfbc6f659eb09b3aaaad02f4b208c30a7d9da5c7cd0c39804", func := "hourglass/hourglasslaw.FramesNew", spec := "framesNew", apart := false }
def FramesNewSaid : Prop := framesNewRow.holds Try.pinned (OpenSpec.ofChange framesNewSpec)

/-- ITS FALSE NEIGHBOUR: 'it returns false'. Refute it at one input. -/
def framesNewWrong : ChangeSpec := { name := "framesNew", fn := fun _ => fun
  | [d] => { results := [.lit (.bool false)], args := [d] }
  | _ => none }
def FramesNewWrongFalsely : Prop := framesNewRow.holds Try.pinned (OpenSpec.ofChange framesNewWrong)

/-- 'hourglasslaw.DeckChecks': WHATEVER THE INPUT: true; the input reads as it did. -/
def deckChecksSpec : ChangeSpec := { name := "deckChecks", fn := fun _ => fun
  | [d] => { results := [.lit (.bool true)], args := [d] }
  | _ => none }
def deckChecksRow : OpenClaim := { program := "ytfgiiaaghllfcaa", sum := "8c991193354e24dcfbc6f659eb09b3aaaad02f4b208c30a7d9da5c7cd0c39804", func := "hourglass/hourglasslaw.DeckChecks", spec := "deckChecks", apart := false }
def DeckChecksSaid : Prop := deckChecksRow.holds Try.pinned (OpenSpec.ofChange deckChecksSpec)

/-- ITS FALSE NEIGHBOUR: 'it returns false'. Refute it at one input. -/
def deckChecksWrong : ChangeSpec := { name := "deckChecks", fn := fun _ => fun
  | [d] => { results := [.lit (.bool false)], args := [d] }
  | _ => none }
def DeckChecksWrongFalsely : Prop := deckChecksRow.holds Try.pinned (OpenSpec.ofChange deckChecksWrong)

/-- 'hourglasslaw.CpuFolds': WHATEVER THE INPUT: true; the input reads as it did. -/
def cpuFoldsSpec : ChangeSpec := { name := "cpuFolds", fn := fun _ => fun
  | [d] => { results := [.lit (.bool true)], args := [d] }
  | _ => none }
def cpuFoldsRow : OpenClaim := { program := "ytfgiiaaghllfcaa", sum := "8c991193354e24dcfbc6f659eb09b3aaaad02f4b208c30a7d9da5c7cd0c39804", func := "hourglass/hourglasslaw.CpuFolds", spec := "cpuFolds", apart := false }
def CpuFoldsSaid : Prop := cpuFoldsRow.holds Try.pinned (OpenSpec.ofChange cpuFoldsSpec)

/-- ITS FALSE NEIGHBOUR: 'it returns false'. Refute it at one input. -/
def cpuFoldsWrong : ChangeSpec := { name := "cpuFolds", fn := fun _ => fun
  | [d] => { results := [.lit (.bool false)], args := [d] }
  | _ => none }
def CpuFoldsWrongFalsely : Prop := cpuFoldsRow.holds Try.pinned (OpenSpec.ofChange cpuFoldsWrong)

/-- 'hourglasslaw.FramesChecks': WHATEVER THE INPUT: true; the input reads as it did. -/
def framesChecksSpec : ChangeSpec := { name := "framesChecks", fn := fun _ => fun
  | [d] => { results := [.lit (.bool true)], args := [d] }
  | _ => none }
def framesChecksRow : OpenClaim := { program := "ytfgiiaaghllfcaa", sum := "8c991193354e24dcfbc6f659eb09b3aaaad02f4b208c30a7d9da5c7cd0c39804", func := "hourglass/hourglasslaw.FramesChecks", spec := "framesChecks", apart := false }
def FramesChecksSaid : Prop := framesChecksRow.holds Try.pinned (OpenSpec.ofChange framesChecksSpec)

/-- ITS FALSE NEIGHBOUR: 'it returns false'. Refute it at one input. -/
def framesChecksWrong : ChangeSpec := { name := "framesChecks", fn := fun _ => fun
  | [d] => { results := [.lit (.bool false)], args := [d] }
  | _ => none }
def FramesChecksWrongFalsely : Prop := framesChecksRow.holds Try.pinned (OpenSpec.ofChange framesChecksWrong)

/-- 'hourglasslaw.CpuChecks': WHATEVER THE INPUT: true; the input reads as it did. -/
def cpuChecksSpec : ChangeSpec := { name := "cpuChecks", fn := fun _ => fun
  | [d] => { results := [.lit (.bool true)], args := [d] }
  | _ => none }
def cpuChecksRow : OpenClaim := { program := "ytfgiiaaghllfcaa", sum := "8c991193354e24dcfbc6f659eb09b3aaaad02f4b208c30a7d9da5c7cd0c39804", func := "hourglass/hourglasslaw.CpuChecks", spec := "cpuChecks", apart := false }
def CpuChecksSaid : Prop := cpuChecksRow.holds Try.pinned (OpenSpec.ofChange cpuChecksSpec)

/-- ITS FALSE NEIGHBOUR: 'it returns false'. Refute it at one input. -/
def cpuChecksWrong : ChangeSpec := { name := "cpuChecks", fn := fun _ => fun
  | [d] => { results := [.lit (.bool false)], args := [d] }
  | _ => none }
def CpuChecksWrongFalsely : Prop := cpuChecksRow.holds Try.pinned (OpenSpec.ofChange cpuChecksWrong)

/-- 'hourglasslaw.CpuCopies': WHATEVER THE INPUT: true; the input reads as it did. -/
def cpuCopiesSpec : ChangeSpec := { name := "cpuCopies", fn := fun _ => fun
  | [d] => { results := [.lit (.bool true)], args := [d] }
  | _ => none }
def cpuCopiesRow : OpenClaim := { program := "ytfgiiaaghllfcaa", sum := "8c991193354e24dcfbc6f659eb09b3aaaad02f4b208c30a7d9da5c7cd0c39804", func := "hourglass/hourglasslaw.CpuCopies", spec := "cpuCopies", apart := false }
def CpuCopiesSaid : Prop := cpuCopiesRow.holds Try.pinned (OpenSpec.ofChange cpuCopiesSpec)

/-- ITS FALSE NEIGHBOUR: 'it returns false'. Refute it at one input. -/
def cpuCopiesWrong : ChangeSpec := { name := "cpuCopies", fn := fun _ => fun
  | [d] => { results := [.lit (.bool false)], args := [d] }
  | _ => none }
def CpuCopiesWrongFalsely : Prop := cpuCopiesRow.holds Try.pinned (OpenSpec.ofChange cpuCopiesWrong)

/-- 'hourglasslaw.StubChecks': WHATEVER THE INPUT: true; the input reads as it did. -/
def stubChecksSpec : ChangeSpec := { name := "stubChecks", fn := fun _ => fun
  | [d1, d2] => { results := [.lit (.bool true)], args := [d1, d2] }
  | _ => none }
def stubChecksRow : OpenClaim := { program := "ytfgiiaaghllfcaa", sum := "8c991193354e24dcfbc6f659eb09b3aaaad02f4b208c30a7d9da5c7cd0c39804", func := "hourglass/hourglasslaw.StubChecks", spec := "stubChecks", apart := false }
def StubChecksSaid : Prop := stubChecksRow.holds Try.pinned (OpenSpec.ofChange stubChecksSpec)

/-- ITS FALSE NEIGHBOUR: 'it returns false'. Refute it at one input. -/
def stubChecksWrong : ChangeSpec := { name := "stubChecks", fn := fun _ => fun
  | [d1, d2] => { results := [.lit (.bool false)], args := [d1, d2] }
  | _ => none }
def StubChecksWrongFalsely : Prop := stubChecksRow.holds Try.pinned (OpenSpec.ofChange stubChecksWrong)

/-- 'hourglasslaw.FramesCopies': WHATEVER THE INPUT: true; the input reads as it did. -/
def framesCopiesSpec : ChangeSpec := { name := "framesCopies", fn := fun _ => fun
  | [d] => { results := [.lit (.bool true)], args := [d] }
  | _ => none }
def framesCopiesRow : OpenClaim := { program := "ytfgiiaaghllfcaa", sum := "8c991193354e24dcfbc6f659eb09b3aaaad02f4b208c30a7d9da5c7cd0c39804", func := "hourglass/hourglasslaw.FramesCopies", spec := "framesCopies", apart := false }
def FramesCopiesSaid : Prop := framesCopiesRow.holds Try.pinned (OpenSpec.ofChange framesCopiesSpec)

/-- ITS FALSE NEIGHBOUR: 'it returns false'. Refute it at one input. -/
def framesCopiesWrong : ChangeSpec := { name := "framesCopies", fn := fun _ => fun
  | [d] => { results := [.lit (.bool false)], args := [d] }
  | _ => none }
def FramesCopiesWrongFalsely : Prop := framesCopiesRow.holds Try.pinned (OpenSpec.ofChange framesCopiesWrong)

/-- 'hourglasslaw.CpuEncodes': WHATEVER THE INPUT: true; the input reads as it did. -/
def cpuEncodesSpec : ChangeSpec := { name := "cpuEncodes", fn := fun _ => fun
  | [d] => { results := [.lit (.bool true)], args := [d] }
  | _ => none }
def cpuEncodesRow : OpenClaim := { program := "ytfgiiaaghllfcaa", sum := "8c991193354e24dcfbc6f659eb09b3aaaad02f4b208c30a7d9da5c7cd0c39804", func := "hourglass/hourglasslaw.CpuEncodes", spec := "cpuEncodes", apart := false }
def CpuEncodesSaid : Prop := cpuEncodesRow.holds Try.pinned (OpenSpec.ofChange cpuEncodesSpec)

/-- ITS FALSE NEIGHBOUR: 'it returns false'. Refute it at one input. -/
def cpuEncodesWrong : ChangeSpec := { name := "cpuEncodes", fn := fun _ => fun
  | [d] => { results := [.lit (.bool false)], args := [d] }
  | _ => none }
def CpuEncodesWrongFalsely : Prop := cpuEncodesRow.holds Try.pinned (OpenSpec.ofChange cpuEncodesWrong)

/-- 'hourglasslaw.CpuDecodes': WHATEVER THE INPUT: true; the input reads as it did. -/
def cpuDecodesSpec : ChangeSpec := { name := "cpuDecodes", fn := fun _ => fun
  | [d] => { results := [.lit (.bool true)], args := [d] }
  | _ => none }
def cpuDecodesRow : OpenClaim := { program := "ytfgiiaaghllfcaa", sum := "8c991193354e24dcfbc6f659eb09b3aaaad02f4b208c30a7d9da5c7cd0c39804", func := "hourglass/hourglasslaw.CpuDecodes", spec := "cpuDecodes", apart := false }
def CpuDecodesSaid : Prop := cpuDecodesRow.holds Try.pinned (OpenSpec.ofChange cpuDecodesSpec)

/-- ITS FALSE NEIGHBOUR: 'it returns false'. Refute it at one input. -/
def cpuDecodesWrong : ChangeSpec := { name := "cpuDecodes", fn := fun _ => fun
  | [d] => { results := [.lit (.bool false)], args := [d] }
  | _ => none }
def CpuDecodesWrongFalsely : Prop := cpuDecodesRow.holds Try.pinned (OpenSpec.ofChange cpuDecodesWrong)

/-- 'hourglasslaw.CpuMachines': WHATEVER THE INPUT: true; the input reads as it did. -/
def cpuMachinesSpec : ChangeSpec := { name := "cpuMachines", fn := fun _ => fun
  | [d] => { results := [.lit (.bool true)], args := [d] }
  | _ => none }
def cpuMachinesRow : OpenClaim := { program := "ytfgiiaaghllfcaa", sum := "8c991193354e24dcfbc6f659eb09b3aaaad02f4b208c30a7d9da5c7cd0c39804", func := "hourglass/hourglasslaw.CpuMachines", spec := "cpuMachines", unfollowed := true, recurses := true, apart := false }
def CpuMachinesSaid : Prop := cpuMachinesRow.holds Try.pinned (OpenSpec.ofChange cpuMachinesSpec)

/-- ITS FALSE NEIGHBOUR: 'it returns false'. Refute it at one input. -/
def cpuMachinesWrong : ChangeSpec := { name := "cpuMachines", fn := fun _ => fun
  | [d] => { results := [.lit (.bool false)], args := [d] }
  | _ => none }
def CpuMachinesWrongFalsely : Prop := cpuMachinesRow.holds Try.pinned (OpenSpec.ofChange cpuMachinesWrong)

/-- 'hourglasslaw.CpuNew': WHATEVER THE INPUT: true; the input reads as it did. -/
def cpuNewSpec : ChangeSpec := { name := "cpuNew", fn := fun _ => fun
  | [d] => { results := [.lit (.bool true)], args := [d] }
  | _ => none }
def cpuNewRow : OpenClaim := { program := "ytfgiiaaghllfcaa", sum := "8c991193354e24dcfbc6f659eb09b3aaaad02f4b208c30a7d9da5c7cd0c39804", func := "hourglass/hourglasslaw.CpuNew", spec := "cpuNew", unfollowed := true, recurses := true, apart := false }
def CpuNewSaid : Prop := cpuNewRow.holds Try.pinned (OpenSpec.ofChange cpuNewSpec)

/-- ITS FALSE NEIGHBOUR: 'it returns false'. Refute it at one input. -/
def cpuNewWrong : ChangeSpec := { name := "cpuNew", fn := fun _ => fun
  | [d] => { results := [.lit (.bool false)], args := [d] }
  | _ => none }
def CpuNewWrongFalsely : Prop := cpuNewRow.holds Try.pinned (OpenSpec.ofChange cpuNewWrong)

/-- 'hourglasskeep.InstrBack': WHATEVER THE INPUT: true; the input reads as it did. -/
def instrBackSpec : ChangeSpec := { name := "instrBack", fn := fun _ => fun
  | [d] => { results := [.lit (.bool true)], args := [d] }
  | _ => none }
def instrBackRow : OpenClaim := { program := "ytfgiiaaghllfcaa", sum := "8c991193354e24dcfbc6f659eb09b3aaaad02f4b208c30a7d9da5c7cd0c39804", func := "hourglass/hourglasskeep.InstrBack", spec := "instrBack", apart := false }
def InstrBackSaid : Prop := instrBackRow.holds Try.pinned (OpenSpec.ofChange instrBackSpec)

/-- ITS FALSE NEIGHBOUR: 'it returns false'. Refute it at one input. -/
def instrBackWrong : ChangeSpec := { name := "instrBack", fn := fun _ => fun
  | [d] => { results := [.lit (.bool false)], args := [d] }
  | _ => none }
def InstrBackWrongFalsely : Prop := instrBackRow.holds Try.pinned (OpenSpec.ofChange instrBackWrong)

/-- 'hourglasskeep.InstrFixed': WHATEVER THE INPUT: true; the input reads as it did. -/
def instrFixedSpec : ChangeSpec := { name := "instrFixed", fn := fun _ => fun
  | [d] => { results := [.lit (.bool true)], args := [d] }
  | _ => none }
def instrFixedRow : OpenClaim := { program := "ytfgiiaaghllfcaa", sum := "8c991193354e24dcfbc6f659eb09b3aaaad02f4b208c30a7d9da5c7cd0c39804", func := "hourglass/hourglasskeep.InstrFixed", spec := "instrFixed", apart := false }
def InstrFixedSaid : Prop := instrFixedRow.holds Try.pinned (OpenSpec.ofChange instrFixedSpec)

/-- ITS FALSE NEIGHBOUR: 'it returns false'. Refute it at one input. -/
def instrFixedWrong : ChangeSpec := { name := "instrFixed", fn := fun _ => fun
  | [d] => { results := [.lit (.bool false)], args := [d] }
  | _ => none }
def InstrFixedWrongFalsely : Prop := instrFixedRow.holds Try.pinned (OpenSpec.ofChange instrFixedWrong)

/-- 'hourglasslaw.RunWorlds': WHATEVER THE INPUT: true; the input reads as it did. -/
def runWorldsSpec : ChangeSpec := { name := "runWorlds", fn := fun _ => fun
  | [d] => { results := [.lit (.bool true)], args := [d] }
  | _ => none }
def runWorldsRow : OpenClaim := { program := "ytfgiiaaghllfcaa", sum := "8c991193354e24dcfbc6f659eb09b3aaaad02f4b208c30a7d9da5c7cd0c39804", func := "hourglass/hourglasslaw.RunWorlds", spec := "runWorlds", unfollowed := true, recurses := true, apart := false }
def RunWorldsSaid : Prop := runWorldsRow.holds Try.pinned (OpenSpec.ofChange runWorldsSpec)

/-- ITS FALSE NEIGHBOUR: 'it returns false'. Refute it at one input. -/
def runWorldsWrong : ChangeSpec := { name := "runWorlds", fn := fun _ => fun
  | [d] => { results := [.lit (.bool false)], args := [d] }
  | _ => none }
def RunWorldsWrongFalsely : Prop := runWorldsRow.holds Try.pinned (OpenSpec.ofChange runWorldsWrong)

/-- 'hourglasslaw.FramesReads': WHATEVER THE INPUT: true; the input reads as it did. -/
def framesReadsSpec : ChangeSpec := { name := "framesReads", fn := fun _ => fun
  | [d1, d2, d3] => { results := [.lit (.bool true)], args := [d1, d2, d3] }
  | _ => none }
def framesReadsRow : OpenClaim := { program := "ytfgiiaaghllfcaa", sum := "8c991193354e24dcfbc6f659eb09b3aaaad02f4b208c30a7d9da5c7cd0c39804", func := "hourglass/hourglasslaw.FramesReads", spec := "framesReads", apart := false }
def FramesReadsSaid : Prop := framesReadsRow.holds Try.pinned (OpenSpec.ofChange framesReadsSpec)

/-- ITS FALSE NEIGHBOUR: 'it returns false'. Refute it at one input. -/
def framesReadsWrong : ChangeSpec := { name := "framesReads", fn := fun _ => fun
  | [d1, d2, d3] => { results := [.lit (.bool false)], args := [d1, d2, d3] }
  | _ => none }
def FramesReadsWrongFalsely : Prop := framesReadsRow.holds Try.pinned (OpenSpec.ofChange framesReadsWrong)

/-- 'hourglasslaw.FramesDrops': WHATEVER THE INPUT: true; the input reads as it did. -/
def framesDropsSpec : ChangeSpec := { name := "framesDrops", fn := fun _ => fun
  | [d1, d2] => { results := [.lit (.bool true)], args := [d1, d2] }
  | _ => none }
def framesDropsRow : OpenClaim := { program := "ytfgiiaaghllfcaa", sum := "8c991193354e24dcfbc6f659eb09b3aaaad02f4b208c30a7d9da5c7cd0c39804", func := "hourglass/hourglasslaw.FramesDrops", spec := "framesDrops", apart := false }
def FramesDropsSaid : Prop := framesDropsRow.holds Try.pinned (OpenSpec.ofChange framesDropsSpec)

/-- ITS FALSE NEIGHBOUR: 'it returns false'. Refute it at one input. -/
def framesDropsWrong : ChangeSpec := { name := "framesDrops", fn := fun _ => fun
  | [d1, d2] => { results := [.lit (.bool false)], args := [d1, d2] }
  | _ => none }
def FramesDropsWrongFalsely : Prop := framesDropsRow.holds Try.pinned (OpenSpec.ofChange framesDropsWrong)

/-- 'hourglasslaw.FramesTakes': WHATEVER THE INPUT: true; the input reads as it did. -/
def framesTakesSpec : ChangeSpec := { name := "framesTakes", fn := fun _ => fun
  | [d] => { results := [.lit (.bool true)], args := [d] }
  | _ => none }
def framesTakesRow : OpenClaim := { program := "ytfgiiaaghllfcaa", sum := "8c991193354e24dcfbc6f659eb09b3aaaad02f4b208c30a7d9da5c7cd0c39804", func := "hourglass/hourglasslaw.FramesTakes", spec := "framesTakes", apart := false }
def FramesTakesSaid : Prop := framesTakesRow.holds Try.pinned (OpenSpec.ofChange framesTakesSpec)

/-- ITS FALSE NEIGHBOUR: 'it returns false'. Refute it at one input. -/
def framesTakesWrong : ChangeSpec := { name := "framesTakes", fn := fun _ => fun
  | [d] => { results := [.lit (.bool false)], args := [d] }
  | _ => none }
def FramesTakesWrongFalsely : Prop := framesTakesRow.holds Try.pinned (OpenSpec.ofChange framesTakesWrong)

/-- 'hourglasslaw.FramesShares': WHATEVER THE INPUT: true; the input reads as it did. -/
def framesSharesSpec : ChangeSpec := { name := "framesShares", fn := fun _ => fun
  | [d1, d2] => { results := [.lit (.bool true)], args := [d1, d2] }
  | _ => none }
def framesSharesRow : OpenClaim := { program := "ytfgiiaaghllfcaa", sum := "8c991193354e24dcfbc6f659eb09b3aaaad02f4b208c30a7d9da5c7cd0c39804", func := "hourglass/hourglasslaw.FramesShares", spec := "framesShares", apart := false }
def FramesSharesSaid : Prop := framesSharesRow.holds Try.pinned (OpenSpec.ofChange framesSharesSpec)

/-- ITS FALSE NEIGHBOUR: 'it returns false'. Refute it at one input. -/
def framesSharesWrong : ChangeSpec := { name := "framesShares", fn := fun _ => fun
  | [d1, d2] => { results := [.lit (.bool false)], args := [d1, d2] }
  | _ => none }
def FramesSharesWrongFalsely : Prop := framesSharesRow.holds Try.pinned (OpenSpec.ofChange framesSharesWrong)

/-- 'hourglasslaw.FramesWrites': WHATEVER THE INPUT: true; the input reads as it did. -/
def framesWritesSpec : ChangeSpec := { name := "framesWrites", fn := fun _ => fun
  | [d1, d2, d3, d4] => { results := [.lit (.bool true)], args := [d1, d2, d3, d4] }
  | _ => none }
def framesWritesRow : OpenClaim := { program := "ytfgiiaaghllfcaa", sum := "8c991193354e24dcfbc6f659eb09b3aaaad02f4b208c30a7d9da5c7cd0c39804", func := "hourglass/hourglasslaw.FramesWrites", spec := "framesWrites", apart := false }
def FramesWritesSaid : Prop := framesWritesRow.holds Try.pinned (OpenSpec.ofChange framesWritesSpec)

/-- ITS FALSE NEIGHBOUR: 'it returns false'. Refute it at one input. -/
def framesWritesWrong : ChangeSpec := { name := "framesWrites", fn := fun _ => fun
  | [d1, d2, d3, d4] => { results := [.lit (.bool false)], args := [d1, d2, d3, d4] }
  | _ => none }
def FramesWritesWrongFalsely : Prop := framesWritesRow.holds Try.pinned (OpenSpec.ofChange framesWritesWrong)

/-- 'hourglasskeep.FramesFull': WHATEVER THE INPUT: true; the input reads as it did. -/
def framesFullSpec : ChangeSpec := { name := "framesFull", fn := fun _ => fun
  | [d] => { results := [.lit (.bool true)], args := [d] }
  | _ => none }
def framesFullRow : OpenClaim := { program := "ytfgiiaaghllfcaa", sum := "8c991193354e24dcfbc6f659eb09b3aaaad02f4b208c30a7d9da5c7cd0c39804", func := "hourglass/hourglasskeep.FramesFull", spec := "framesFull", apart := false }
def FramesFullSaid : Prop := framesFullRow.holds Try.pinned (OpenSpec.ofChange framesFullSpec)

/-- ITS FALSE NEIGHBOUR: 'it returns false'. Refute it at one input. -/
def framesFullWrong : ChangeSpec := { name := "framesFull", fn := fun _ => fun
  | [d] => { results := [.lit (.bool false)], args := [d] }
  | _ => none }
def FramesFullWrongFalsely : Prop := framesFullRow.holds Try.pinned (OpenSpec.ofChange framesFullWrong)

/-- 'hourglasskeep.FramesCopied': WHATEVER THE INPUT: true; the input reads as it did. -/
def framesCopiedSpec : ChangeSpec := { name := "framesCopied", fn := fun _ => fun
  | [d1, d2, d3] => { results := [.lit (.bool true)], args := [d1, d2, d3] }
  | _ => none }
def framesCopiedRow : OpenClaim := { program := "ytfgiiaaghllfcaa", sum := "8c991193354e24dcfbc6f659eb09b3aaaad02f4b208c30a7d9da5c7cd0c39804", func := "hourglass/hourglasskeep.FramesCopied", spec := "framesCopied", apart := false }
def FramesCopiedSaid : Prop := framesCopiedRow.holds Try.pinned (OpenSpec.ofChange framesCopiedSpec)

/-- ITS FALSE NEIGHBOUR: 'it returns false'. Refute it at one input. -/
def framesCopiedWrong : ChangeSpec := { name := "framesCopied", fn := fun _ => fun
  | [d1, d2, d3] => { results := [.lit (.bool false)], args := [d1, d2, d3] }
  | _ => none }
def FramesCopiedWrongFalsely : Prop := framesCopiedRow.holds Try.pinned (OpenSpec.ofChange framesCopiedWrong)

/-- 'hourglasskeep.FramesGood': WHATEVER THE INPUT: true; the input reads as it did. -/
def framesGoodSpec : ChangeSpec := { name := "framesGood", fn := fun _ => fun
  | [d1, d2] => { results := [.lit (.bool true)], args := [d1, d2] }
  | _ => none }
def framesGoodRow : OpenClaim := { program := "ytfgiiaaghllfcaa", sum := "8c991193354e24dcfbc6f659eb09b3aaaad02f4b208c30a7d9da5c7cd0c39804", func := "hourglass/hourglasskeep.FramesGood", spec := "framesGood", apart := false }
def FramesGoodSaid : Prop := framesGoodRow.holds Try.pinned (OpenSpec.ofChange framesGoodSpec)

/-- ITS FALSE NEIGHBOUR: 'it returns false'. Refute it at one input. -/
def framesGoodWrong : ChangeSpec := { name := "framesGood", fn := fun _ => fun
  | [d1, d2] => { results := [.lit (.bool false)], args := [d1, d2] }
  | _ => none }
def FramesGoodWrongFalsely : Prop := framesGoodRow.holds Try.pinned (OpenSpec.ofChange framesGoodWrong)

/-- 'hourglasslaw.StubFrames': WHATEVER THE INPUT: true; the input reads as it did. -/
def stubFramesSpec : ChangeSpec := { name := "stubFrames", fn := fun _ => fun
  | [d] => { results := [.lit (.bool true)], args := [d] }
  | _ => none }
def stubFramesRow : OpenClaim := { program := "ytfgiiaaghllfcaa", sum := "8c991193354e24dcfbc6f659eb09b3aaaad02f4b208c30a7d9da5c7cd0c39804", func := "hourglass/hourglasslaw.StubFrames", spec := "stubFrames", inPlace := ["internal/bytealg.IndexByteString", "internal/bytealg.IndexString"], named := ["internal/bytealg.MaxLen"], apart := false }
def StubFramesSaid : Prop := stubFramesRow.holds Try.pinned (OpenSpec.ofChange stubFramesSpec)

/-- ITS FALSE NEIGHBOUR: 'it returns false'. Refute it at one input. -/
def stubFramesWrong : ChangeSpec := { name := "stubFrames", fn := fun _ => fun
  | [d] => { results := [.lit (.bool false)], args := [d] }
  | _ => none }
def StubFramesWrongFalsely : Prop := stubFramesRow.holds Try.pinned (OpenSpec.ofChange stubFramesWrong)

/-- 'hourglasslaw.StubOpens': WHATEVER THE INPUT: true; the input reads as it did. -/
def stubOpensSpec : ChangeSpec := { name := "stubOpens", fn := fun _ => fun
  | [d] => { results := [.lit (.bool true)], args := [d] }
  | _ => none }
def stubOpensRow : OpenClaim := { program := "ytfgiiaaghllfcaa", sum := "8c991193354e24dcfbc6f659eb09b3aaaad02f4b208c30a7d9da5c7cd0c39804", func := "hourglass/hourglasslaw.StubOpens", spec := "stubOpens", inPlace := ["internal/bytealg.IndexByteString", "internal/bytealg.IndexString"], named := ["internal/bytealg.MaxLen"], apart := false }
def StubOpensSaid : Prop := stubOpensRow.holds Try.pinned (OpenSpec.ofChange stubOpensSpec)

/-- ITS FALSE NEIGHBOUR: 'it returns false'. Refute it at one input. -/
def stubOpensWrong : ChangeSpec := { name := "stubOpens", fn := fun _ => fun
  | [d] => { results := [.lit (.bool false)], args := [d] }
  | _ => none }
def StubOpensWrongFalsely : Prop := stubOpensRow.holds Try.pinned (OpenSpec.ofChange stubOpensWrong)

/-- 'hourglasskeep.PacketsBack': WHATEVER THE INPUT: true; the input reads as it did. -/
def packetsBackSpec : ChangeSpec := { name := "packetsBack", fn := fun _ => fun
  | [d1, d2, d3] => { results := [.lit (.bool true)], args := [d1, d2, d3] }
  | _ => none }
def packetsBackRow : OpenClaim := { program := "ytfgiiaaghllfcaa", sum := "8c991193354e24dcfbc6f659eb09b3aaaad02f4b208c30a7d9da5c7cd0c39804", func := "hourglass/hourglasskeep.PacketsBack", spec := "packetsBack", inPlace := ["internal/bytealg.IndexByteString", "internal/bytealg.IndexString"], named := ["internal/bytealg.MaxLen"], apart := false }
def PacketsBackSaid : Prop := packetsBackRow.holds Try.pinned (OpenSpec.ofChange packetsBackSpec)

/-- ITS FALSE NEIGHBOUR: 'it returns false'. Refute it at one input. -/
def packetsBackWrong : ChangeSpec := { name := "packetsBack", fn := fun _ => fun
  | [d1, d2, d3] => { results := [.lit (.bool false)], args := [d1, d2, d3] }
  | _ => none }
def PacketsBackWrongFalsely : Prop := packetsBackRow.holds Try.pinned (OpenSpec.ofChange packetsBackWrong)

/-- 'hourglasslaw.SpacePlays': WHATEVER THE INPUT: true; the input reads as it did. -/
def spacePlaysSpec : ChangeSpec := { name := "spacePlays", fn := fun _ => fun
  | [d1, d2, d3] => { results := [.lit (.bool true)], args := [d1, d2, d3] }
  | _ => none }
def spacePlaysRow : OpenClaim := { program := "ytfgiiaaghllfcaa", sum := "8c991193354e24dcfbc6f659eb09b3aaaad02f4b208c30a7d9da5c7cd0c39804", func := "hourglass/hourglasslaw.SpacePlays", spec := "spacePlays", apart := false }
def SpacePlaysSaid : Prop := spacePlaysRow.holds Try.pinned (OpenSpec.ofChange spacePlaysSpec)

/-- ITS FALSE NEIGHBOUR: 'it returns false'. Refute it at one input. -/
def spacePlaysWrong : ChangeSpec := { name := "spacePlays", fn := fun _ => fun
  | [d1, d2, d3] => { results := [.lit (.bool false)], args := [d1, d2, d3] }
  | _ => none }
def SpacePlaysWrongFalsely : Prop := spacePlaysRow.holds Try.pinned (OpenSpec.ofChange spacePlaysWrong)

/-- 'hourglasskeep.SpacesApart': WHATEVER THE INPUT: true; the input reads as it did. -/
def spacesApartSpec : ChangeSpec := { name := "spacesApart", fn := fun _ => fun
  | [d1, d2] => { results := [.lit (.bool true)], args := [d1, d2] }
  | _ => none }
def spacesApartRow : OpenClaim := { program := "ytfgiiaaghllfcaa", sum := "8c991193354e24dcfbc6f659eb09b3aaaad02f4b208c30a7d9da5c7cd0c39804", func := "hourglass/hourglasskeep.SpacesApart", spec := "spacesApart", apart := false }
def SpacesApartSaid : Prop := spacesApartRow.holds Try.pinned (OpenSpec.ofChange spacesApartSpec)

/-- ITS FALSE NEIGHBOUR: 'it returns false'. Refute it at one input. -/
def spacesApartWrong : ChangeSpec := { name := "spacesApart", fn := fun _ => fun
  | [d1, d2] => { results := [.lit (.bool false)], args := [d1, d2] }
  | _ => none }
def SpacesApartWrongFalsely : Prop := spacesApartRow.holds Try.pinned (OpenSpec.ofChange spacesApartWrong)

/- THE SECOND FORM. 'bulk': how many values and letters a reading holds, each counted each time it is reached (what is shared counts as often as it is met; a slice's spare places count too). A statement '..UptoSaid' is the law's where the arguments, and the package variables that the reading takes, are together of bulk at most 1048576: NARROWER than '..Said'. Prove '..Said' where nothing that the law and all that it calls make is longer than what came in: it says more and counts as full. Else prove '..UptoSaid'. A law counts once. -/
mutual
def uptoBulk {H : Type} : DataW H → Nat
  | .lit (.string bytes) => bytes.length + 1
  | .lit _ => 1
  | .nil => 1
  | .ptr d => uptoBulk d + 1
  | .slice elems spare => uptoBulkAll elems + uptoBulkAll spare + 1
  | .agg parts => uptoBulkAll parts + 1
  | .iface _ d => uptoBulk d + 1
  | .map entries => uptoBulkEntries entries + 1
  | .held _ => 1
def uptoBulkAll {H : Type} : List (DataW H) → Nat
  | [] => 0
  | d :: r => uptoBulk d + uptoBulkAll r
def uptoBulkEntries {H : Type} : List (Lit × DataW H) → Nat
  | [] => 0
  | x :: r => uptoBulkEntry x + uptoBulkEntries r
def uptoBulkEntry {H : Type} : Lit × DataW H → Nat
  | (.string bytes, d) => bytes.length + uptoBulk d + 1
  | (_, d) => uptoBulk d + 1
 end
def uptoSmall : (H : Type) → List (DataW H) → Bool := fun _ ds => decide (uptoBulkAll ds ≤ 1048576)
def OpenSpec.upto (s : _root_.Go.ChangeSpec) : _root_.Go.OpenSpec := { _root_.Go.OpenSpec.ofChange s with cond := some uptoSmall }

/-- 'hourglasslaw.Names', WHERE WHAT IT READS IS OF BULK AT MOST 1048576: true; the input reads as it did. -/
def namesUptoRow : OpenClaim := { program := "ytfgiiaaghllfcaa", sum := "8c991193354e24dcfbc6f659eb09b3aaaad02f4b208c30a7d9da5c7cd0c39804", func := "hourglass/hourglasslaw.Names", spec := "names", apart := false, narrowed := true }
def NamesUptoSaid : Prop := namesUptoRow.holds Try.pinned (OpenSpec.upto namesSpec)

/-- 'hourglasslaw.FramesNew', WHERE WHAT IT READS IS OF BULK AT MOST 1048576: true; the input reads as it did. -/
def framesNewUptoRow : OpenClaim := { program := "ytfgiiaaghllfcaa", sum := "8c991193354e24dcfbc6f659eb09b3aaaad02f4b208c30a7d9da5c7cd0c39804", func := "hourglass/hourglasslaw.FramesNew", spec := "framesNew", apart := false, narrowed := true }
def FramesNewUptoSaid : Prop := framesNewUptoRow.holds Try.pinned (OpenSpec.upto framesNewSpec)

/-- 'hourglasslaw.DeckChecks', WHERE WHAT IT READS IS OF BULK AT MOST 1048576: true; the input reads as it did. -/
def deckChecksUptoRow : OpenClaim := { program := "ytfgiiaaghllfcaa", sum := "8c991193354e24dcfbc6f659eb09b3aaaad02f4b208c30a7d9da5c7cd0c39804", func := "hourglass/hourglasslaw.DeckChecks", spec := "deckChecks", apart := false, narrowed := true }
def DeckChecksUptoSaid : Prop := deckChecksUptoRow.holds Try.pinned (OpenSpec.upto deckChecksSpec)

/-- 'hourglasslaw.CpuFolds', WHERE WHAT IT READS IS OF BULK AT MOST 1048576: true; the input reads as it did. -/
def cpuFoldsUptoRow : OpenClaim := { program := "ytfgiiaaghllfcaa", sum := "8c991193354e24dcfbc6f659eb09b3aaaad02f4b208c30a7d9da5c7cd0c39804", func := "hourglass/hourglasslaw.CpuFolds", spec := "cpuFolds", apart := false, narrowed := true }
def CpuFoldsUptoSaid : Prop := cpuFoldsUptoRow.holds Try.pinned (OpenSpec.upto cpuFoldsSpec)

/-- 'hourglasslaw.FramesChecks', WHERE WHAT IT READS IS OF BULK AT MOST 1048576: true; the input reads as it did. -/
def framesChecksUptoRow : OpenClaim := { program := "ytfgiiaaghllfcaa", sum := "8c991193354e24dcfbc6f659eb09b3aaaad02f4b208c30a7d9da5c7cd0c39804", func := "hourglass/hourglasslaw.FramesChecks", spec := "framesChecks", apart := false, narrowed := true }
def FramesChecksUptoSaid : Prop := framesChecksUptoRow.holds Try.pinned (OpenSpec.upto framesChecksSpec)

/-- 'hourglasslaw.CpuChecks', WHERE WHAT IT READS IS OF BULK AT MOST 1048576: true; the input reads as it did. -/
def cpuChecksUptoRow : OpenClaim := { program := "ytfgiiaaghllfcaa", sum := "8c991193354e24dcfbc6f659eb09b3aaaad02f4b208c30a7d9da5c7cd0c39804", func := "hourglass/hourglasslaw.CpuChecks", spec := "cpuChecks", apart := false, narrowed := true }
def CpuChecksUptoSaid : Prop := cpuChecksUptoRow.holds Try.pinned (OpenSpec.upto cpuChecksSpec)

/-- 'hourglasslaw.CpuCopies', WHERE WHAT IT READS IS OF BULK AT MOST 1048576: true; the input reads as it did. -/
def cpuCopiesUptoRow : OpenClaim := { program := "ytfgiiaaghllfcaa", sum := "8c991193354e24dcfbc6f659eb09b3aaaad02f4b208c30a7d9da5c7cd0c39804", func := "hourglass/hourglasslaw.CpuCopies", spec := "cpuCopies", apart := false, narrowed := true }
def CpuCopiesUptoSaid : Prop := cpuCopiesUptoRow.holds Try.pinned (OpenSpec.upto cpuCopiesSpec)

/-- 'hourglasslaw.StubChecks', WHERE WHAT IT READS IS OF BULK AT MOST 1048576: true; the input reads as it did. -/
def stubChecksUptoRow : OpenClaim := { program := "ytfgiiaaghllfcaa", sum := "8c991193354e24dcfbc6f659eb09b3aaaad02f4b208c30a7d9da5c7cd0c39804", func := "hourglass/hourglasslaw.StubChecks", spec := "stubChecks", apart := false, narrowed := true }
def StubChecksUptoSaid : Prop := stubChecksUptoRow.holds Try.pinned (OpenSpec.upto stubChecksSpec)

/-- 'hourglasslaw.FramesCopies', WHERE WHAT IT READS IS OF BULK AT MOST 1048576: true; the input reads as it did. -/
def framesCopiesUptoRow : OpenClaim := { program := "ytfgiiaaghllfcaa", sum := "8c991193354e24dcfbc6f659eb09b3aaaad02f4b208c30a7d9da5c7cd0c39804", func := "hourglass/hourglasslaw.FramesCopies", spec := "framesCopies", apart := false, narrowed := true }
def FramesCopiesUptoSaid : Prop := framesCopiesUptoRow.holds Try.pinned (OpenSpec.upto framesCopiesSpec)

/-- 'hourglasslaw.CpuEncodes', WHERE WHAT IT READS IS OF BULK AT MOST 1048576: true; the input reads as it did. -/
def cpuEncodesUptoRow : OpenClaim := { program := "ytfgiiaaghllfcaa", sum := "8c991193354e24dcfbc6f659eb09b3aaaad02f4b208c30a7d9da5c7cd0c39804", func := "hourglass/hourglasslaw.CpuEncodes", spec := "cpuEncodes", apart := false, narrowed := true }
def CpuEncodesUptoSaid : Prop := cpuEncodesUptoRow.holds Try.pinned (OpenSpec.upto cpuEncodesSpec)

/-- 'hourglasslaw.CpuDecodes', WHERE WHAT IT READS IS OF BULK AT MOST 1048576: true; the input reads as it did. -/
def cpuDecodesUptoRow : OpenClaim := { program := "ytfgiiaaghllfcaa", sum := "8c991193354e24dcfbc6f659eb09b3aaaad02f4b208c30a7d9da5c7cd0c39804", func := "hourglass/hourglasslaw.CpuDecodes", spec := "cpuDecodes", apart := false, narrowed := true }
def CpuDecodesUptoSaid : Prop := cpuDecodesUptoRow.holds Try.pinned (OpenSpec.upto cpuDecodesSpec)

/-- 'hourglasslaw.CpuMachines', WHERE WHAT IT READS IS OF BULK AT MOST 1048576: true; the input reads as it did. -/
def cpuMachinesUptoRow : OpenClaim := { program := "ytfgiiaaghllfcaa", sum := "8c991193354e24dcfbc6f659eb09b3aaaad02f4b208c30a7d9da5c7cd0c39804", func := "hourglass/hourglasslaw.CpuMachines", spec := "cpuMachines", unfollowed := true, recurses := true, apart := false, narrowed := true }
def CpuMachinesUptoSaid : Prop := cpuMachinesUptoRow.holds Try.pinned (OpenSpec.upto cpuMachinesSpec)

/-- 'hourglasslaw.CpuNew', WHERE WHAT IT READS IS OF BULK AT MOST 1048576: true; the input reads as it did. -/
def cpuNewUptoRow : OpenClaim := { program := "ytfgiiaaghllfcaa", sum := "8c991193354e24dcfbc6f659eb09b3aaaad02f4b208c30a7d9da5c7cd0c39804", func := "hourglass/hourglasslaw.CpuNew", spec := "cpuNew", unfollowed := true, recurses := true, apart := false, narrowed := true }
def CpuNewUptoSaid : Prop := cpuNewUptoRow.holds Try.pinned (OpenSpec.upto cpuNewSpec)

/-- 'hourglasskeep.InstrBack', WHERE WHAT IT READS IS OF BULK AT MOST 1048576: true; the input reads as it did. -/
def instrBackUptoRow : OpenClaim := { program := "ytfgiiaaghllfcaa", sum := "8c991193354e24dcfbc6f659eb09b3aaaad02f4b208c30a7d9da5c7cd0c39804", func := "hourglass/hourglasskeep.InstrBack", spec := "instrBack", apart := false, narrowed := true }
def InstrBackUptoSaid : Prop := instrBackUptoRow.holds Try.pinned (OpenSpec.upto instrBackSpec)

/-- 'hourglasskeep.InstrFixed', WHERE WHAT IT READS IS OF BULK AT MOST 1048576: true; the input reads as it did. -/
def instrFixedUptoRow : OpenClaim := { program := "ytfgiiaaghllfcaa", sum := "8c991193354e24dcfbc6f659eb09b3aaaad02f4b208c30a7d9da5c7cd0c39804", func := "hourglass/hourglasskeep.InstrFixed", spec := "instrFixed", apart := false, narrowed := true }
def InstrFixedUptoSaid : Prop := instrFixedUptoRow.holds Try.pinned (OpenSpec.upto instrFixedSpec)

/-- 'hourglasslaw.RunWorlds', WHERE WHAT IT READS IS OF BULK AT MOST 1048576: true; the input reads as it did. -/
def runWorldsUptoRow : OpenClaim := { program := "ytfgiiaaghllfcaa", sum := "8c991193354e24dcfbc6f659eb09b3aaaad02f4b208c30a7d9da5c7cd0c39804", func := "hourglass/hourglasslaw.RunWorlds", spec := "runWorlds", unfollowed := true, recurses := true, apart := false, narrowed := true }
def RunWorldsUptoSaid : Prop := runWorldsUptoRow.holds Try.pinned (OpenSpec.upto runWorldsSpec)

/-- 'hourglasslaw.FramesReads', WHERE WHAT IT READS IS OF BULK AT MOST 1048576: true; the input reads as it did. -/
def framesReadsUptoRow : OpenClaim := { program := "ytfgiiaaghllfcaa", sum := "8c991193354e24dcfbc6f659eb09b3aaaad02f4b208c30a7d9da5c7cd0c39804", func := "hourglass/hourglasslaw.FramesReads", spec := "framesReads", apart := false, narrowed := true }
def FramesReadsUptoSaid : Prop := framesReadsUptoRow.holds Try.pinned (OpenSpec.upto framesReadsSpec)

/-- 'hourglasslaw.FramesDrops', WHERE WHAT IT READS IS OF BULK AT MOST 1048576: true; the input reads as it did. -/
def framesDropsUptoRow : OpenClaim := { program := "ytfgiiaaghllfcaa", sum := "8c991193354e24dcfbc6f659eb09b3aaaad02f4b208c30a7d9da5c7cd0c39804", func := "hourglass/hourglasslaw.FramesDrops", spec := "framesDrops", apart := false, narrowed := true }
def FramesDropsUptoSaid : Prop := framesDropsUptoRow.holds Try.pinned (OpenSpec.upto framesDropsSpec)

/-- 'hourglasslaw.FramesTakes', WHERE WHAT IT READS IS OF BULK AT MOST 1048576: true; the input reads as it did. -/
def framesTakesUptoRow : OpenClaim := { program := "ytfgiiaaghllfcaa", sum := "8c991193354e24dcfbc6f659eb09b3aaaad02f4b208c30a7d9da5c7cd0c39804", func := "hourglass/hourglasslaw.FramesTakes", spec := "framesTakes", apart := false, narrowed := true }
def FramesTakesUptoSaid : Prop := framesTakesUptoRow.holds Try.pinned (OpenSpec.upto framesTakesSpec)

/-- 'hourglasslaw.FramesShares', WHERE WHAT IT READS IS OF BULK AT MOST 1048576: true; the input reads as it did. -/
def framesSharesUptoRow : OpenClaim := { program := "ytfgiiaaghllfcaa", sum := "8c991193354e24dcfbc6f659eb09b3aaaad02f4b208c30a7d9da5c7cd0c39804", func := "hourglass/hourglasslaw.FramesShares", spec := "framesShares", apart := false, narrowed := true }
def FramesSharesUptoSaid : Prop := framesSharesUptoRow.holds Try.pinned (OpenSpec.upto framesSharesSpec)

/-- 'hourglasslaw.FramesWrites', WHERE WHAT IT READS IS OF BULK AT MOST 1048576: true; the input reads as it did. -/
def framesWritesUptoRow : OpenClaim := { program := "ytfgiiaaghllfcaa", sum := "8c991193354e24dcfbc6f659eb09b3aaaad02f4b208c30a7d9da5c7cd0c39804", func := "hourglass/hourglasslaw.FramesWrites", spec := "framesWrites", apart := false, narrowed := true }
def FramesWritesUptoSaid : Prop := framesWritesUptoRow.holds Try.pinned (OpenSpec.upto framesWritesSpec)

/-- 'hourglasskeep.FramesFull', WHERE WHAT IT READS IS OF BULK AT MOST 1048576: true; the input reads as it did. -/
def framesFullUptoRow : OpenClaim := { program := "ytfgiiaaghllfcaa", sum := "8c991193354e24dcfbc6f659eb09b3aaaad02f4b208c30a7d9da5c7cd0c39804", func := "hourglass/hourglasskeep.FramesFull", spec := "framesFull", apart := false, narrowed := true }
def FramesFullUptoSaid : Prop := framesFullUptoRow.holds Try.pinned (OpenSpec.upto framesFullSpec)

/-- 'hourglasskeep.FramesCopied', WHERE WHAT IT READS IS OF BULK AT MOST 1048576: true; the input reads as it did. -/
def framesCopiedUptoRow : OpenClaim := { program := "ytfgiiaaghllfcaa", sum := "8c991193354e24dcfbc6f659eb09b3aaaad02f4b208c30a7d9da5c7cd0c39804", func := "hourglass/hourglasskeep.FramesCopied", spec := "framesCopied", apart := false, narrowed := true }
def FramesCopiedUptoSaid : Prop := framesCopiedUptoRow.holds Try.pinned (OpenSpec.upto framesCopiedSpec)

/-- 'hourglasskeep.FramesGood', WHERE WHAT IT READS IS OF BULK AT MOST 1048576: true; the input reads as it did. -/
def framesGoodUptoRow : OpenClaim := { program := "ytfgiiaaghllfcaa", sum := "8c991193354e24dcfbc6f659eb09b3aaaad02f4b208c30a7d9da5c7cd0c39804", func := "hourglass/hourglasskeep.FramesGood", spec := "framesGood", apart := false, narrowed := true }
def FramesGoodUptoSaid : Prop := framesGoodUptoRow.holds Try.pinned (OpenSpec.upto framesGoodSpec)

/-- 'hourglasslaw.StubFrames', WHERE WHAT IT READS IS OF BULK AT MOST 1048576: true; the input reads as it did. -/
def stubFramesUptoRow : OpenClaim := { program := "ytfgiiaaghllfcaa", sum := "8c991193354e24dcfbc6f659eb09b3aaaad02f4b208c30a7d9da5c7cd0c39804", func := "hourglass/hourglasslaw.StubFrames", spec := "stubFrames", inPlace := ["internal/bytealg.IndexByteString", "internal/bytealg.IndexString"], named := ["internal/bytealg.MaxLen"], apart := false, narrowed := true }
def StubFramesUptoSaid : Prop := stubFramesUptoRow.holds Try.pinned (OpenSpec.upto stubFramesSpec)

/-- 'hourglasslaw.StubOpens', WHERE WHAT IT READS IS OF BULK AT MOST 1048576: true; the input reads as it did. -/
def stubOpensUptoRow : OpenClaim := { program := "ytfgiiaaghllfcaa", sum := "8c991193354e24dcfbc6f659eb09b3aaaad02f4b208c30a7d9da5c7cd0c39804", func := "hourglass/hourglasslaw.StubOpens", spec := "stubOpens", inPlace := ["internal/bytealg.IndexByteString", "internal/bytealg.IndexString"], named := ["internal/bytealg.MaxLen"], apart := false, narrowed := true }
def StubOpensUptoSaid : Prop := stubOpensUptoRow.holds Try.pinned (OpenSpec.upto stubOpensSpec)

/-- 'hourglasskeep.PacketsBack', WHERE WHAT IT READS IS OF BULK AT MOST 1048576: true; the input reads as it did. -/
def packetsBackUptoRow : OpenClaim := { program := "ytfgiiaaghllfcaa", sum := "8c991193354e24dcfbc6f659eb09b3aaaad02f4b208c30a7d9da5c7cd0c39804", func := "hourglass/hourglasskeep.PacketsBack", spec := "packetsBack", inPlace := ["internal/bytealg.IndexByteString", "internal/bytealg.IndexString"], named := ["internal/bytealg.MaxLen"], apart := false, narrowed := true }
def PacketsBackUptoSaid : Prop := packetsBackUptoRow.holds Try.pinned (OpenSpec.upto packetsBackSpec)

/-- 'hourglasslaw.SpacePlays', WHERE WHAT IT READS IS OF BULK AT MOST 1048576: true; the input reads as it did. -/
def spacePlaysUptoRow : OpenClaim := { program := "ytfgiiaaghllfcaa", sum := "8c991193354e24dcfbc6f659eb09b3aaaad02f4b208c30a7d9da5c7cd0c39804", func := "hourglass/hourglasslaw.SpacePlays", spec := "spacePlays", apart := false, narrowed := true }
def SpacePlaysUptoSaid : Prop := spacePlaysUptoRow.holds Try.pinned (OpenSpec.upto spacePlaysSpec)

/-- 'hourglasskeep.SpacesApart', WHERE WHAT IT READS IS OF BULK AT MOST 1048576: true; the input reads as it did. -/
def spacesApartUptoRow : OpenClaim := { program := "ytfgiiaaghllfcaa", sum := "8c991193354e24dcfbc6f659eb09b3aaaad02f4b208c30a7d9da5c7cd0c39804", func := "hourglass/hourglasskeep.SpacesApart", spec := "spacesApart", apart := false, narrowed := true }
def SpacesApartUptoSaid : Prop := spacesApartUptoRow.holds Try.pinned (OpenSpec.upto spacesApartSpec)

end Rows
end Go.Proofs.Ytfgiiaaghllfcaa
