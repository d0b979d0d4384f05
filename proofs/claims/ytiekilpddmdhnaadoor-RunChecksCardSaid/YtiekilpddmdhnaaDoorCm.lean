/- Contracts of cpu.CheckMachine and of the reference's MachineMay. No condition beyond the readings. -/
import Derived.Test.YtiekilpddmdhnaaDoorCf
import Derived.Test.YtiekilpddmdhnaaDoorMs
namespace Go.Proofs.YtiekilpddmdhnaaDoor
open Go Go.RowKit Go.ChangeShapes Go.WideShapes Go.Deep
set_option linter.unusedVariables false

/-- A guest that may be. -/
structure MOk (m : Mach) : Prop where
  regs : m.regs.length = 8
  mem : m.mem.length = 256
  out : m.out.length ≤ 200
  wr : m.regs.any oddB = false
  wm : m.mem.any oddB = false
  wo : m.out.any oddB = false
  pc : -1099511627776 ≤ m.pc ∧ m.pc ≤ 1099511627776
  back : -1099511627776 ≤ m.back ∧ m.back ≤ 1099511627776
  table : -1 ≤ m.table ∧ m.table < 16
  count : 0 ≤ m.count ∧ m.count ≤ 1099511627776
  fin : 0 ≤ m.fin ∧ m.fin ≤ 4
  ready : 0 ≤ m.ready ∧ m.ready ≤ 1
  want : -1 ≤ m.want ∧ m.want < 16

def MCheckPost (m : Mach) (w : World) (e : Ending) (w' : World) : Prop := ((MOk m ∧ e = .returned (.int .i64 0)) ∨ (¬ MOk m ∧ e = .returned (.int .i64 8))) ∧ Below w.heap.size w w'
def MMayPost (m : Mach) (w : World) (e : Ending) (w' : World) : Prop := ((MOk m ∧ e = .returned (.bool true)) ∨ (¬ MOk m ∧ e = .returned (.bool false))) ∧ Below w.heap.size w w'

theorem odd_iff {z : Int} (h : oddB z = false) : -1099511627776 ≤ z ∧ z ≤ 1099511627776 := by
  unfold oddB at h
  rw [Bool.not_eq_false', Bool.and_eq_true, decide_eq_true_iff, decide_eq_true_iff] at h
  exact h

theorem word_or (F : FuncId) (hw : ∀ (z : Int) (w : World), Calls Tryd.prog F #[.int .i64 z] w fun e w' => e = .returned (.bool (!oddB z)) ∧ w = w') (z : Int) (w : World) :
    Calls Tryd.prog F #[.int .i64 z] w fun e w' => (e = .returned (.bool true) ∧ w = w' ∧ -1099511627776 ≤ z ∧ z ≤ 1099511627776) ∨ (e = .returned (.bool false) ∧ w = w' ∧ (z < -1099511627776 ∨ 1099511627776 < z)) := by
  by_cases h : -1099511627776 ≤ z ∧ z ≤ 1099511627776
  · refine (hw z w).mono fun e w' ⟨he, hw⟩ => Or.inl ⟨?_, hw, h⟩
    rw [he, odd_false h]; rfl
  · refine (hw z w).mono fun e w' ⟨he, hw⟩ => Or.inr ⟨?_, hw, by omega⟩
    rw [he, odd_true (by omega)]; rfl

/-- The box of a guest. -/
def Mach.box (m : Mach) (vr vm vo : Value) : Obj := .cells #[vr, .int .i64 m.pc, .int .i64 m.back, .bool m.ints, .bool m.wait, .int .i64 m.table, .int .i64 m.count, .int .i64 m.fin, vm, vo, .int .i64 m.ready, .int .i64 m.want] 38 (0, 0)

/-- What ContainsFunc answers, parted. -/
def ContOr (zs : List Int) (w : World) (e : Ending) (w' : World) : Prop := (e = .returned (.bool true) ∧ Hid (zs.any oddB = true) ∧ ∃ n, w' = w.drewN n) ∨ (e = .returned (.bool false) ∧ Hid (zs.any oddB = false) ∧ ∃ n, w' = w.drewN n)
theorem cont_or {F : FuncId} {args : Array Value} {zs : List Int} {w : World} (h : Calls Tryd.prog F args w fun e w' => e = .returned (.bool (zs.any oddB)) ∧ ∃ n, w' = w.drewN n) : Calls Tryd.prog F args w (ContOr zs w) := by
  rcases Bool.eq_false_or_eq_true (zs.any oddB) with hq | hq
  · exact h.mono fun e w' ⟨he, hn⟩ => Or.inl ⟨by rw [he, hq], Lib.hid hq, hn⟩
  · exact h.mono fun e w' ⟨he, hn⟩ => Or.inr ⟨by rw [he, hq], Lib.hid hq, hn⟩
theorem may_or {F : FuncId} {args : Array Value} {zs : List Int} {w : World} (h : Calls Tryd.prog F args w fun e w' => e = .returned (.bool (!zs.any oddB)) ∧ ∃ n, w' = w.drewN n) : Calls Tryd.prog F args w fun e w' => (e = .returned (.bool false) ∧ Hid (zs.any oddB = true) ∧ ∃ n, w' = w.drewN n) ∨ (e = .returned (.bool true) ∧ Hid (zs.any oddB = false) ∧ ∃ n, w' = w.drewN n) := by
  rcases Bool.eq_false_or_eq_true (zs.any oddB) with hq | hq
  · exact h.mono fun e w' ⟨he, hn⟩ => Or.inl ⟨by rw [he, hq]; rfl, Lib.hid hq, hn⟩
  · exact h.mono fun e w' ⟨he, hn⟩ => Or.inr ⟨by rw [he, hq]; rfl, Lib.hid hq, hn⟩

end Go.Proofs.YtiekilpddmdhnaaDoor
