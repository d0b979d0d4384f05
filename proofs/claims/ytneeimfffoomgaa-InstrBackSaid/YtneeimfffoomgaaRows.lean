/-
  No cell of these rows narrows 'for every input' (looked for: loops, veiled, ifaces, maps, wideKeys, modest, calm, conditions, laid).
  DERIVED. THE GIVEN ROWS OF THIS SEAT. 11 by the template 'for every input the law returns true; each argument reads behind the call as it read before'; 0 by the template 'total and deterministic' (their statements: YtneeimfffoomgaaTotals.lean).
  GIVEN WITH THE SEED: the statements are not yours to turn. If you find one false, say at which input.
  Laid BY PROGRAM, IN A SANDBOX (cutbox-rows.mjs): the forced cells as the released guide's own fill.sh prints them over the translation fd3f72102dae8c00… (all of the seat's roots in one cut). By AI agents, Wed Nov 11 2026. No macro, syntax, notation, axiom, sorry.
-/
import Derived.Test.YtneeimfffoomgaaChecked
import GoSem.Claim
import GoSem.ClaimJoined
import GoSem.ClaimMapViews
import Derived.JoinedTies
import Derived.KernelRfl
namespace Go.Proofs.Ytneeimfffoomgaa
/- THE CELL 'sum', in the pinned program and in every row, IS THE sha256 OF THE DUMP (.gsa) THAT YtneeimfffoomgaaProg.lean LOADS. Nothing in Lean hashes anything: it is a label: what it is worth is what the hold of that sum in a sandbox is worth. -/
noncomputable def Try.pinned : Pinned := { name := "ytneeimfffoomgaa", sum := "fd3f72102dae8c0026a872b5094ba4977707042f1e8f819fbd57018d0b85da52", checked := Try.checked }
namespace Rows
def none {H : Type} : Left H := { results := [], args := [] }

/-- 'hourglasslaw.Names': WHATEVER THE INPUT: true; the input reads as it did. -/
def namesSpec : ChangeSpec := { name := "names", fn := fun _ => fun
  | [] => { results := [.lit (.bool true)], args := [] }
  | _ => none }
def namesRow : OpenClaim := { program := "ytneeimfffoomgaa", sum := "fd3f72102dae8c0026a872b5094ba4977707042f1e8f819fbd57018d0b85da52", func := "hourglass/hourglasslaw.Names", spec := "names", apart := false }
def NamesSaid : Prop := namesRow.holds Try.pinned (OpenSpec.ofChange namesSpec)

/-- ITS FALSE NEIGHBOUR: 'it returns false'. Refute it at one input. -/
def namesWrong : ChangeSpec := { name := "names", fn := fun _ => fun
  | [] => { results := [.lit (.bool false)], args := [] }
  | _ => none }
def NamesWrongFalsely : Prop := namesRow.holds Try.pinned (OpenSpec.ofChange namesWrong)

/-- 'hourglasslaw.CpuNew': WHATEVER THE INPUT: true; the input reads as it did. -/
def cpuNewSpec : ChangeSpec := { name := "cpuNew", fn := fun _ => fun
  | [d] => { results := [.lit (.bool true)], args := [d] }
  | _ => none }
def cpuNewRow : OpenClaim := { program := "ytneeimfffoomgaa", sum := "fd3f72102dae8c0026a872b5094ba4977707042f1e8f819fbd57018d0b85da52", func := "hourglass/hourglasslaw.CpuNew", spec := "cpuNew", unfollowed := true, recurses := true, apart := false }
def CpuNewSaid : Prop := cpuNewRow.holds Try.pinned (OpenSpec.ofChange cpuNewSpec)

/-- ITS FALSE NEIGHBOUR: 'it returns false'. Refute it at one input. -/
def cpuNewWrong : ChangeSpec := { name := "cpuNew", fn := fun _ => fun
  | [d] => { results := [.lit (.bool false)], args := [d] }
  | _ => none }
def CpuNewWrongFalsely : Prop := cpuNewRow.holds Try.pinned (OpenSpec.ofChange cpuNewWrong)

/-- 'hourglasskeep.InstrBack': WHATEVER THE INPUT: true; the input reads as it did. -/
def instrBackSpec : ChangeSpec := { name := "instrBack", fn := fun _ => fun
  | [d] => { results := [.lit (.bool true)], args := [d] }
  | _ => none }
def instrBackRow : OpenClaim := { program := "ytneeimfffoomgaa", sum := "fd3f72102dae8c0026a872b5094ba4977707042f1e8f819fbd57018d0b85da52", func := "hourglass/hourglasskeep.InstrBack", spec := "instrBack", apart := false }
def InstrBackSaid : Prop := instrBackRow.holds Try.pinned (OpenSpec.ofChange instrBackSpec)

/-- ITS FALSE NEIGHBOUR: 'it returns false'. Refute it at one input. -/
def instrBackWrong : ChangeSpec := { name := "instrBack", fn := fun _ => fun
  | [d] => { results := [.lit (.bool false)], args := [d] }
  | _ => none }
def InstrBackWrongFalsely : Prop := instrBackRow.holds Try.pinned (OpenSpec.ofChange instrBackWrong)

/-- 'hourglasskeep.FramesFull': WHATEVER THE INPUT: true; the input reads as it did. -/
def framesFullSpec : ChangeSpec := { name := "framesFull", fn := fun _ => fun
  | [d] => { results := [.lit (.bool true)], args := [d] }
  | _ => none }
def framesFullRow : OpenClaim := { program := "ytneeimfffoomgaa", sum := "fd3f72102dae8c0026a872b5094ba4977707042f1e8f819fbd57018d0b85da52", func := "hourglass/hourglasskeep.FramesFull", spec := "framesFull", apart := false }
def FramesFullSaid : Prop := framesFullRow.holds Try.pinned (OpenSpec.ofChange framesFullSpec)

/-- ITS FALSE NEIGHBOUR: 'it returns false'. Refute it at one input. -/
def framesFullWrong : ChangeSpec := { name := "framesFull", fn := fun _ => fun
  | [d] => { results := [.lit (.bool false)], args := [d] }
  | _ => none }
def FramesFullWrongFalsely : Prop := framesFullRow.holds Try.pinned (OpenSpec.ofChange framesFullWrong)

/-- 'hourglasskeep.FramesCopied': WHATEVER THE INPUT: true; the input reads as it did. -/
def framesCopiedSpec : ChangeSpec := { name := "framesCopied", fn := fun _ => fun
  | [d1, d2, d3] => { results := [.lit (.bool true)], args := [d1, d2, d3] }
  | _ => none }
def framesCopiedRow : OpenClaim := { program := "ytneeimfffoomgaa", sum := "fd3f72102dae8c0026a872b5094ba4977707042f1e8f819fbd57018d0b85da52", func := "hourglass/hourglasskeep.FramesCopied", spec := "framesCopied", apart := false }
def FramesCopiedSaid : Prop := framesCopiedRow.holds Try.pinned (OpenSpec.ofChange framesCopiedSpec)

/-- ITS FALSE NEIGHBOUR: 'it returns false'. Refute it at one input. -/
def framesCopiedWrong : ChangeSpec := { name := "framesCopied", fn := fun _ => fun
  | [d1, d2, d3] => { results := [.lit (.bool false)], args := [d1, d2, d3] }
  | _ => none }
def FramesCopiedWrongFalsely : Prop := framesCopiedRow.holds Try.pinned (OpenSpec.ofChange framesCopiedWrong)

/-- 'hourglasskeep.FramesGood': WHATEVER THE INPUT: true; the input reads as it did. -/
def framesGoodSpec : ChangeSpec := { name := "framesGood", fn := fun _ => fun
  | [d1, d2] => { results := [.lit (.bool true)], args := [d1, d2] }
  | _ => none }
def framesGoodRow : OpenClaim := { program := "ytneeimfffoomgaa", sum := "fd3f72102dae8c0026a872b5094ba4977707042f1e8f819fbd57018d0b85da52", func := "hourglass/hourglasskeep.FramesGood", spec := "framesGood", apart := false }
def FramesGoodSaid : Prop := framesGoodRow.holds Try.pinned (OpenSpec.ofChange framesGoodSpec)

/-- ITS FALSE NEIGHBOUR: 'it returns false'. Refute it at one input. -/
def framesGoodWrong : ChangeSpec := { name := "framesGood", fn := fun _ => fun
  | [d1, d2] => { results := [.lit (.bool false)], args := [d1, d2] }
  | _ => none }
def FramesGoodWrongFalsely : Prop := framesGoodRow.holds Try.pinned (OpenSpec.ofChange framesGoodWrong)

/-- 'hourglasslaw.StubFrames': WHATEVER THE INPUT: true; the input reads as it did. -/
def stubFramesSpec : ChangeSpec := { name := "stubFrames", fn := fun _ => fun
  | [d] => { results := [.lit (.bool true)], args := [d] }
  | _ => none }
def stubFramesRow : OpenClaim := { program := "ytneeimfffoomgaa", sum := "fd3f72102dae8c0026a872b5094ba4977707042f1e8f819fbd57018d0b85da52", func := "hourglass/hourglasslaw.StubFrames", spec := "stubFrames", inPlace := ["internal/bytealg.IndexByteString", "internal/bytealg.IndexString"], named := ["internal/bytealg.MaxLen"], apart := false }
def StubFramesSaid : Prop := stubFramesRow.holds Try.pinned (OpenSpec.ofChange stubFramesSpec)

/-- ITS FALSE NEIGHBOUR: 'it returns false'. Refute it at one input. -/
def stubFramesWrong : ChangeSpec := { name := "stubFrames", fn := fun _ => fun
  | [d] => { results := [.lit (.bool false)], args := [d] }
  | _ => none }
def StubFramesWrongFalsely : Prop := stubFramesRow.holds Try.pinned (OpenSpec.ofChange stubFramesWrong)

/-- 'hourglasslaw.StubOpens': WHATEVER THE INPUT: true; the input reads as it did. -/
def stubOpensSpec : ChangeSpec := { name := "stubOpens", fn := fun _ => fun
  | [d] => { results := [.lit (.bool true)], args := [d] }
  | _ => none }
def stubOpensRow : OpenClaim := { program := "ytneeimfffoomgaa", sum := "fd3f72102dae8c0026a872b5094ba4977707042f1e8f819fbd57018d0b85da52", func := "hourglass/hourglasslaw.StubOpens", spec := "stubOpens", inPlace := ["internal/bytealg.IndexByteString", "internal/bytealg.IndexString"], named := ["internal/bytealg.MaxLen"], apart := false }
def StubOpensSaid : Prop := stubOpensRow.holds Try.pinned (OpenSpec.ofChange stubOpensSpec)

/-- ITS FALSE NEIGHBOUR: 'it returns false'. Refute it at one input. -/
def stubOpensWrong : ChangeSpec := { name := "stubOpens", fn := fun _ => fun
  | [d] => { results := [.lit (.bool false)], args := [d] }
  | _ => none }
def StubOpensWrongFalsely : Prop := stubOpensRow.holds Try.pinned (OpenSpec.ofChange stubOpensWrong)

/-- 'hourglasskeep.PacketsBack': WHATEVER THE INPUT: true; the input reads as it did. -/
def packetsBackSpec : ChangeSpec := { name := "packetsBack", fn := fun _ => fun
  | [d1, d2, d3] => { results := [.lit (.bool true)], args := [d1, d2, d3] }
  | _ => none }
def packetsBackRow : OpenClaim := { program := "ytneeimfffoomgaa", sum := "fd3f72102dae8c0026a872b5094ba4977707042f1e8f819fbd57018d0b85da52", func := "hourglass/hourglasskeep.PacketsBack", spec := "packetsBack", inPlace := ["internal/bytealg.IndexByteString", "internal/bytealg.IndexString"], named := ["internal/bytealg.MaxLen"], apart := false }
def PacketsBackSaid : Prop := packetsBackRow.holds Try.pinned (OpenSpec.ofChange packetsBackSpec)

/-- ITS FALSE NEIGHBOUR: 'it returns false'. Refute it at one input. -/
def packetsBackWrong : ChangeSpec := { name := "packetsBack", fn := fun _ => fun
  | [d1, d2, d3] => { results := [.lit (.bool false)], args := [d1, d2, d3] }
  | _ => none }
def PacketsBackWrongFalsely : Prop := packetsBackRow.holds Try.pinned (OpenSpec.ofChange packetsBackWrong)

/-- 'hourglasslaw.SpacePlays': WHATEVER THE INPUT: true; the input reads as it did. -/
def spacePlaysSpec : ChangeSpec := { name := "spacePlays", fn := fun _ => fun
  | [d1, d2, d3] => { results := [.lit (.bool true)], args := [d1, d2, d3] }
  | _ => none }
def spacePlaysRow : OpenClaim := { program := "ytneeimfffoomgaa", sum := "fd3f72102dae8c0026a872b5094ba4977707042f1e8f819fbd57018d0b85da52", func := "hourglass/hourglasslaw.SpacePlays", spec := "spacePlays", apart := false }
def SpacePlaysSaid : Prop := spacePlaysRow.holds Try.pinned (OpenSpec.ofChange spacePlaysSpec)

/-- ITS FALSE NEIGHBOUR: 'it returns false'. Refute it at one input. -/
def spacePlaysWrong : ChangeSpec := { name := "spacePlays", fn := fun _ => fun
  | [d1, d2, d3] => { results := [.lit (.bool false)], args := [d1, d2, d3] }
  | _ => none }
def SpacePlaysWrongFalsely : Prop := spacePlaysRow.holds Try.pinned (OpenSpec.ofChange spacePlaysWrong)

/-- 'hourglasskeep.SpacesApart': WHATEVER THE INPUT: true; the input reads as it did. -/
def spacesApartSpec : ChangeSpec := { name := "spacesApart", fn := fun _ => fun
  | [d1, d2] => { results := [.lit (.bool true)], args := [d1, d2] }
  | _ => none }
def spacesApartRow : OpenClaim := { program := "ytneeimfffoomgaa", sum := "fd3f72102dae8c0026a872b5094ba4977707042f1e8f819fbd57018d0b85da52", func := "hourglass/hourglasskeep.SpacesApart", spec := "spacesApart", apart := false }
def SpacesApartSaid : Prop := spacesApartRow.holds Try.pinned (OpenSpec.ofChange spacesApartSpec)

/-- ITS FALSE NEIGHBOUR: 'it returns false'. Refute it at one input. -/
def spacesApartWrong : ChangeSpec := { name := "spacesApart", fn := fun _ => fun
  | [d1, d2] => { results := [.lit (.bool false)], args := [d1, d2] }
  | _ => none }
def SpacesApartWrongFalsely : Prop := spacesApartRow.holds Try.pinned (OpenSpec.ofChange spacesApartWrong)

/- THE SECOND FORM. 'bulk': how many values and letters a reading holds, each counted each time it is reached (what is shared counts as often as it is met; a slice's spare places count too). A statement '..UptoSaid' is the law's where the arguments, and the package variables that the reading takes, are together of bulk at most 1048576: NARROWER than '..Said'. Prove '..Said' where nothing that the law and all that it calls make is longer than what came in: it says more and counts as full. Else prove '..UptoSaid'. A law counts once. -/
mutual
def uptoBulk {H : Type} : DataW H → Nat
  | .lit (.string bytes) => bytes.length + 1
  | .lit _ => 1
  | .nil => 1
  | .ptr d => uptoBulk d + 1
  | .slice elems spare => uptoBulkAll elems + uptoBulkAll spare + 1
  | .agg parts => uptoBulkAll parts + 1
  | .iface _ d => uptoBulk d + 1
  | .map entries => uptoBulkEntries entries + 1
  | .held _ => 1
def uptoBulkAll {H : Type} : List (DataW H) → Nat
  | [] => 0
  | d :: r => uptoBulk d + uptoBulkAll r
def uptoBulkEntries {H : Type} : List (Lit × DataW H) → Nat
  | [] => 0
  | x :: r => uptoBulkEntry x + uptoBulkEntries r
def uptoBulkEntry {H : Type} : Lit × DataW H → Nat
  | (.string bytes, d) => bytes.length + uptoBulk d + 1
  | (_, d) => uptoBulk d + 1
 end
def uptoSmall : (H : Type) → List (DataW H) → Bool := fun _ ds => decide (uptoBulkAll ds ≤ 1048576)
def OpenSpec.upto (s : _root_.Go.ChangeSpec) : _root_.Go.OpenSpec := { _root_.Go.OpenSpec.ofChange s with cond := some uptoSmall }

/-- 'hourglasslaw.Names', WHERE WHAT IT READS IS OF BULK AT MOST 1048576: true; the input reads as it did. -/
def namesUptoRow : OpenClaim := { program := "ytneeimfffoomgaa", sum := "fd3f72102dae8c0026a872b5094ba4977707042f1e8f819fbd57018d0b85da52", func := "hourglass/hourglasslaw.Names", spec := "names", apart := false, narrowed := true }
def NamesUptoSaid : Prop := namesUptoRow.holds Try.pinned (OpenSpec.upto namesSpec)

/-- 'hourglasslaw.CpuNew', WHERE WHAT IT READS IS OF BULK AT MOST 1048576: true; the input reads as it did. -/
def cpuNewUptoRow : OpenClaim := { program := "ytneeimfffoomgaa", sum := "fd3f72102dae8c0026a872b5094ba4977707042f1e8f819fbd57018d0b85da52", func := "hourglass/hourglasslaw.CpuNew", spec := "cpuNew", unfollowed := true, recurses := true, apart := false, narrowed := true }
def CpuNewUptoSaid : Prop := cpuNewUptoRow.holds Try.pinned (OpenSpec.upto cpuNewSpec)

/-- 'hourglasskeep.InstrBack', WHERE WHAT IT READS IS OF BULK AT MOST 1048576: true; the input reads as it did. -/
def instrBackUptoRow : OpenClaim := { program := "ytneeimfffoomgaa", sum := "fd3f72102dae8c0026a872b5094ba4977707042f1e8f819fbd57018d0b85da52", func := "hourglass/hourglasskeep.InstrBack", spec := "instrBack", apart := false, narrowed := true }
def InstrBackUptoSaid : Prop := instrBackUptoRow.holds Try.pinned (OpenSpec.upto instrBackSpec)

/-- 'hourglasskeep.FramesFull', WHERE WHAT IT READS IS OF BULK AT MOST 1048576: true; the input reads as it did. -/
def framesFullUptoRow : OpenClaim := { program := "ytneeimfffoomgaa", sum := "fd3f72102dae8c0026a872b5094ba4977707042f1e8f819fbd57018d0b85da52", func := "hourglass/hourglasskeep.FramesFull", spec := "framesFull", apart := false, narrowed := true }
def FramesFullUptoSaid : Prop := framesFullUptoRow.holds Try.pinned (OpenSpec.upto framesFullSpec)

/-- 'hourglasskeep.FramesCopied', WHERE WHAT IT READS IS OF BULK AT MOST 1048576: true; the input reads as it did. -/
def framesCopiedUptoRow : OpenClaim := { program := "ytneeimfffoomgaa", sum := "fd3f72102dae8c0026a872b5094ba4977707042f1e8f819fbd57018d0b85da52", func := "hourglass/hourglasskeep.FramesCopied", spec := "framesCopied", apart := false, narrowed := true }
def FramesCopiedUptoSaid : Prop := framesCopiedUptoRow.holds Try.pinned (OpenSpec.upto framesCopiedSpec)

/-- 'hourglasskeep.FramesGood', WHERE WHAT IT READS IS OF BULK AT MOST 1048576: true; the input reads as it did. -/
def framesGoodUptoRow : OpenClaim := { program := "ytneeimfffoomgaa", sum := "fd3f72102dae8c0026a872b5094ba4977707042f1e8f819fbd57018d0b85da52", func := "hourglass/hourglasskeep.FramesGood", spec := "framesGood", apart := false, narrowed := true }
def FramesGoodUptoSaid : Prop := framesGoodUptoRow.holds Try.pinned (OpenSpec.upto framesGoodSpec)

/-- 'hourglasslaw.StubFrames', WHERE WHAT IT READS IS OF BULK AT MOST 1048576: true; the input reads as it did. -/
def stubFramesUptoRow : OpenClaim := { program := "ytneeimfffoomgaa", sum := "fd3f72102dae8c0026a872b5094ba4977707042f1e8f819fbd57018d0b85da52", func := "hourglass/hourglasslaw.StubFrames", spec := "stubFrames", inPlace := ["internal/bytealg.IndexByteString", "internal/bytealg.IndexString"], named := ["internal/bytealg.MaxLen"], apart := false, narrowed := true }
def StubFramesUptoSaid : Prop := stubFramesUptoRow.holds Try.pinned (OpenSpec.upto stubFramesSpec)

/-- 'hourglasslaw.StubOpens', WHERE WHAT IT READS IS OF BULK AT MOST 1048576: true; the input reads as it did. -/
def stubOpensUptoRow : OpenClaim := { program := "ytneeimfffoomgaa", sum := "fd3f72102dae8c0026a872b5094ba4977707042f1e8f819fbd57018d0b85da52", func := "hourglass/hourglasslaw.StubOpens", spec := "stubOpens", inPlace := ["internal/bytealg.IndexByteString", "internal/bytealg.IndexString"], named := ["internal/bytealg.MaxLen"], apart := false, narrowed := true }
def StubOpensUptoSaid : Prop := stubOpensUptoRow.holds Try.pinned (OpenSpec.upto stubOpensSpec)

/-- 'hourglasskeep.PacketsBack', WHERE WHAT IT READS IS OF BULK AT MOST 1048576: true; the input reads as it did. -/
def packetsBackUptoRow : OpenClaim := { program := "ytneeimfffoomgaa", sum := "fd3f72102dae8c0026a872b5094ba4977707042f1e8f819fbd57018d0b85da52", func := "hourglass/hourglasskeep.PacketsBack", spec := "packetsBack", inPlace := ["internal/bytealg.IndexByteString", "internal/bytealg.IndexString"], named := ["internal/bytealg.MaxLen"], apart := false, narrowed := true }
def PacketsBackUptoSaid : Prop := packetsBackUptoRow.holds Try.pinned (OpenSpec.upto packetsBackSpec)

/-- 'hourglasslaw.SpacePlays', WHERE WHAT IT READS IS OF BULK AT MOST 1048576: true; the input reads as it did. -/
def spacePlaysUptoRow : OpenClaim := { program := "ytneeimfffoomgaa", sum := "fd3f72102dae8c0026a872b5094ba4977707042f1e8f819fbd57018d0b85da52", func := "hourglass/hourglasslaw.SpacePlays", spec := "spacePlays", apart := false, narrowed := true }
def SpacePlaysUptoSaid : Prop := spacePlaysUptoRow.holds Try.pinned (OpenSpec.upto spacePlaysSpec)

/-- 'hourglasskeep.SpacesApart', WHERE WHAT IT READS IS OF BULK AT MOST 1048576: true; the input reads as it did. -/
def spacesApartUptoRow : OpenClaim := { program := "ytneeimfffoomgaa", sum := "fd3f72102dae8c0026a872b5094ba4977707042f1e8f819fbd57018d0b85da52", func := "hourglass/hourglasskeep.SpacesApart", spec := "spacesApart", apart := false, narrowed := true }
def SpacesApartUptoSaid : Prop := spacesApartUptoRow.holds Try.pinned (OpenSpec.upto spacesApartSpec)

end Rows
end Go.Proofs.Ytneeimfffoomgaa
