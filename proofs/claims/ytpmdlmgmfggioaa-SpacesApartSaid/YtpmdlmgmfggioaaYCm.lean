/- Several texts joined, each with its own heading in the notes: The contract of sameMachine at guests that read alike. Contracts of cpu. No condition beyond those of each row. -/
import Derived.Test.YtpmdlmgmfggioaaYFr1
import Derived.Test.YtpmdlmgmfggioaaYEv
namespace Go.Proofs.Ytpmdlmgmfggioaa
open Go Go.RowKit Go.ChangeShapes Go.WideShapes Go.Deep
set_option linter.unusedVariables false

/-- A value reads as a guest. -/
def MachR (B : Nat) (w : World) (v : Value) (m : Mach) : Prop := ∃ ar cr am cm ao co, v = m.agg (.slice ar m.regs.length cr) (.slice am m.mem.length cm) (.slice ao m.out.length co) ∧ Ints B w (.slice ar m.regs.length cr) m.regs ∧ Ints B w (.slice am m.mem.length cm) m.mem ∧ Ints B w (.slice ao m.out.length co) m.out
theorem MachR.to {B B' : Nat} {w w' : World} {v : Value} {m : Mach} (hB : B ≤ B') (hw : Same B w w') (h : MachR B w v m) : MachR B' w' v m := by
  obtain ⟨ar, cr, am, cm, ao, co, hv, h1, h2, h3⟩ := h
  exact ⟨ar, cr, am, cm, ao, co, hv, h1.to hB hw, h2.to hB hw, h3.to hB hw⟩
theorem MachOwn.reads {base : Nat} {w : World} {m : Mach} {ar am ao : Option Addr} {cr cm co : Nat} (h : MachOwn base w m (.slice ar m.regs.length cr) (.slice am m.mem.length cm) (.slice ao m.out.length co)) (hr : ∀ z ∈ m.regs, I64 z) (hm : ∀ z ∈ m.mem, I64 z) (ho : ∀ z ∈ m.out, I64 z)
    (lr : m.regs.length ≤ 17592186043904) (lm : m.mem.length ≤ 17592186043904) (lo : m.out.length ≤ 17592186043904) : MachR w.heap.size w (m.agg (.slice ar m.regs.length cr) (.slice am m.mem.length cm) (.slice ao m.out.length co)) m :=
  ⟨ar, cr, am, cm, ao, co, rfl, ints_of_owns h.hr lr hr, ints_of_owns h.hm lm hm, ints_of_owns h.ho lo ho⟩

section
variable {H : Type} {enc : TypeId × Value → H} {w : World} {held : Bool}
end
end Go.Proofs.Ytpmdlmgmfggioaa
namespace Go.Proofs.Ytpmdlmgmfggioaa
open Go Go.RowKit Go.ChangeShapes Go.WideShapes Go.Deep
set_option linter.unusedVariables false

/-- A guest that may be. -/
structure MOk (m : Mach) : Prop where
  regs : m.regs.length = 8
  mem : m.mem.length = 256
  out : m.out.length ≤ 200
  wr : m.regs.any oddB = false
  wm : m.mem.any oddB = false
  wo : m.out.any oddB = false
  pc : -1099511627776 ≤ m.pc ∧ m.pc ≤ 1099511627776
  back : -1099511627776 ≤ m.back ∧ m.back ≤ 1099511627776
  table : -1 ≤ m.table ∧ m.table < 16
  count : 0 ≤ m.count ∧ m.count ≤ 1099511627776
  fin : 0 ≤ m.fin ∧ m.fin ≤ 4
  ready : 0 ≤ m.ready ∧ m.ready ≤ 1
  want : -1 ≤ m.want ∧ m.want < 16

theorem odd_iff {z : Int} (h : oddB z = false) : -1099511627776 ≤ z ∧ z ≤ 1099511627776 := by
  unfold oddB at h
  rw [Bool.not_eq_false', Bool.and_eq_true, decide_eq_true_iff, decide_eq_true_iff] at h
  exact h

end Go.Proofs.Ytpmdlmgmfggioaa
