/- Several texts joined, each with its own heading in the notes: The contract of sameMachine at guests that read alike. Contracts of cpu. No condition beyond those of each row. -/
import Derived.Test.YtilcnlmapifdgaaDoorYCl
import Derived.Test.YtilcnlmapifdgaaDoorYEv
namespace Go.Proofs.YtilcnlmapifdgaaDoor
open Go Go.RowKit Go.ChangeShapes Go.WideShapes Go.Deep
set_option linter.unusedVariables false

/-- A value reads as a guest. -/
def MachR (B : Nat) (w : World) (v : Value) (m : Mach) : Prop := ∃ ar cr am cm ao co, v = m.agg (.slice ar m.regs.length cr) (.slice am m.mem.length cm) (.slice ao m.out.length co) ∧ Ints B w (.slice ar m.regs.length cr) m.regs ∧ Ints B w (.slice am m.mem.length cm) m.mem ∧ Ints B w (.slice ao m.out.length co) m.out
theorem MachR.to {B B' : Nat} {w w' : World} {v : Value} {m : Mach} (hB : B ≤ B') (hw : Same B w w') (h : MachR B w v m) : MachR B' w' v m := by
  obtain ⟨ar, cr, am, cm, ao, co, hv, h1, h2, h3⟩ := h
  exact ⟨ar, cr, am, cm, ao, co, hv, h1.to hB hw, h2.to hB hw, h3.to hB hw⟩
theorem MachOwn.reads {base : Nat} {w : World} {m : Mach} {ar am ao : Option Addr} {cr cm co : Nat} (h : MachOwn base w m (.slice ar m.regs.length cr) (.slice am m.mem.length cm) (.slice ao m.out.length co)) (hr : ∀ z ∈ m.regs, I64 z) (hm : ∀ z ∈ m.mem, I64 z) (ho : ∀ z ∈ m.out, I64 z)
    (lr : m.regs.length ≤ 17592186043904) (lm : m.mem.length ≤ 17592186043904) (lo : m.out.length ≤ 17592186043904) : MachR w.heap.size w (m.agg (.slice ar m.regs.length cr) (.slice am m.mem.length cm) (.slice ao m.out.length co)) m :=
  ⟨ar, cr, am, cm, ao, co, rfl, ints_of_owns h.hr lr hr, ints_of_owns h.hm lm hm, ints_of_owns h.ho lo ho⟩

section
variable {H : Type} {enc : TypeId × Value → H} {w : World} {held : Bool}
end
end Go.Proofs.YtilcnlmapifdgaaDoor
namespace Go.Proofs.YtilcnlmapifdgaaDoor
open Go Go.RowKit Go.ChangeShapes Go.WideShapes Go.Deep
set_option linter.unusedVariables false

/-- A guest that may be. -/
structure MOk (m : Mach) : Prop where
  regs : m.regs.length = 8
  mem : m.mem.length = 256
  out : m.out.length ≤ 200
  wr : m.regs.any oddB = false
  wm : m.mem.any oddB = false
  wo : m.out.any oddB = false
  pc : -1099511627776 ≤ m.pc ∧ m.pc ≤ 1099511627776
  back : -1099511627776 ≤ m.back ∧ m.back ≤ 1099511627776
  table : -1 ≤ m.table ∧ m.table < 16
  count : 0 ≤ m.count ∧ m.count ≤ 1099511627776
  fin : 0 ≤ m.fin ∧ m.fin ≤ 4
  ready : 0 ≤ m.ready ∧ m.ready ≤ 1
  want : -1 ≤ m.want ∧ m.want < 16

def MCheckPost (m : Mach) (w : World) (e : Ending) (w' : World) : Prop := ((MOk m ∧ e = .returned (.int .i64 0)) ∨ (¬ MOk m ∧ e = .returned (.int .i64 8))) ∧ Below w.heap.size w w'
theorem odd_iff {z : Int} (h : oddB z = false) : -1099511627776 ≤ z ∧ z ≤ 1099511627776 := by
  unfold oddB at h
  rw [Bool.not_eq_false', Bool.and_eq_true, decide_eq_true_iff, decide_eq_true_iff] at h
  exact h

theorem word_or (F : FuncId) (hw : ∀ (z : Int) (w : World), Calls Tryd.prog F #[.int .i64 z] w fun e w' => e = .returned (.bool (!oddB z)) ∧ w = w') (z : Int) (w : World) :
    Calls Tryd.prog F #[.int .i64 z] w fun e w' => (e = .returned (.bool true) ∧ w = w' ∧ -1099511627776 ≤ z ∧ z ≤ 1099511627776) ∨ (e = .returned (.bool false) ∧ w = w' ∧ (z < -1099511627776 ∨ 1099511627776 < z)) := by
  by_cases h : -1099511627776 ≤ z ∧ z ≤ 1099511627776
  · refine (hw z w).mono fun e w' ⟨he, hw⟩ => Or.inl ⟨?_, hw, h⟩
    rw [he, odd_false h]; rfl
  · refine (hw z w).mono fun e w' ⟨he, hw⟩ => Or.inr ⟨?_, hw, by omega⟩
    rw [he, odd_true (by omega)]; rfl

theorem codd_is : PredIs 52 oddB := by
  intro z W h1 h2
  have HW := Lib.hid (cword_or z)
  go_enter Tryd.func52, Tryd.ntmps52
  go_wp2_with (go_at_call 53; refine (HW.out _).mono ?_; rintro e w' ⟨rfl, rfl⟩)
  go_ret
  exact ⟨ret_bool (by simp), rfl⟩

/-- The box of a guest. -/
def Mach.box (m : Mach) (vr vm vo : Value) : Obj := .cells #[vr, .int .i64 m.pc, .int .i64 m.back, .bool m.ints, .bool m.wait, .int .i64 m.table, .int .i64 m.count, .int .i64 m.fin, vm, vo, .int .i64 m.ready, .int .i64 m.want] 29 (0, 0)

/-- What ContainsFunc answers, parted. -/
def ContOr (zs : List Int) (w : World) (e : Ending) (w' : World) : Prop := (e = .returned (.bool true) ∧ Hid (zs.any oddB = true) ∧ ∃ n, w' = w.drewN n) ∨ (e = .returned (.bool false) ∧ Hid (zs.any oddB = false) ∧ ∃ n, w' = w.drewN n)
theorem cont_or {F : FuncId} {args : Array Value} {zs : List Int} {w : World} (h : Calls Tryd.prog F args w fun e w' => e = .returned (.bool (zs.any oddB)) ∧ ∃ n, w' = w.drewN n) : Calls Tryd.prog F args w (ContOr zs w) := by
  rcases Bool.eq_false_or_eq_true (zs.any oddB) with hq | hq
  · exact h.mono fun e w' ⟨he, hn⟩ => Or.inl ⟨by rw [he, hq], Lib.hid hq, hn⟩
  · exact h.mono fun e w' ⟨he, hn⟩ => Or.inr ⟨by rw [he, hq], Lib.hid hq, hn⟩
theorem codd_contains (v : Value) (zs : List Int) (w : World) (hf : Ints w.heap.size w v zs) : Calls Tryd.prog 54 #[v, .func (.func 52) #[] #[]] w (ContOr zs w) :=
  cont_or (containsF_any _ oddB (enters_of Tryd.func52 (by kernel_rfl) rfl) codd_is v zs w hf)

set_option maxHeartbeats 8000000 in
set_option maxRecDepth 100000 in
theorem mcheck_any (m : Mach) (ar am ao : Option Addr) (cr cm co : Nat) (w : World)
    (hr : Ints w.heap.size w (.slice ar m.regs.length cr) m.regs) (hm : Ints w.heap.size w (.slice am m.mem.length cm) m.mem) (ho : Ints w.heap.size w (.slice ao m.out.length co) m.out) :
    Calls Tryd.prog 26 #[m.agg (.slice ar m.regs.length cr) (.slice am m.mem.length cm) (.slice ao m.out.length co)] w (MCheckPost m w) := by
  have HR := Lib.hid hr
  have HM := Lib.hid hm
  have HO := Lib.hid ho
  clear hr hm ho
  have HW := Lib.hid (word_or 53 cword_or)
  obtain ⟨regs, pc, back, ints, wait, table, count, fin, mem, out, ready, want⟩ := m
  simp only [Mach.agg] at *
  by_cases l1 : regs.length = 8
  · by_cases l2 : mem.length = 256
    · by_cases l3 : out.length ≤ 200
      · have b1 : ((regs.length : Int) != 8) = false := by rw [bne_eq_false_iff_eq]; omega
        have b2 : ((mem.length : Int) != 256) = false := by rw [bne_eq_false_iff_eq]; omega
        have b3 : ¬ (200 : Int) < (out.length : Int) := by omega
        have L1 := Lib.hid l1
        have L2 := Lib.hid l2
        clear l1 l2
        go_enter Tryd.func26, Tryd.ntmps26
        go_wp2_with (first
          | (go_at_call_of 54 (Value.slice ar regs.length cr); refine (codd_contains _ regs _ ?_).mono ?_; (exact HR.out.to (by simp) (same_alloc _ _)); rintro e w' (⟨rfl, hor, n1, rfl⟩ | ⟨rfl, hor, n1, rfl⟩))
          | (go_at_call_of 54 (Value.slice am mem.length cm); refine (codd_contains _ mem _ ?_).mono ?_; (exact HM.out.to (by simp) (same_below (below_drewN (below_alloc _ _) _))); rintro e w' (⟨rfl, hom, n2, rfl⟩ | ⟨rfl, hom, n2, rfl⟩))
          | (go_at_call_of 54 (Value.slice ao out.length co); refine (codd_contains _ out _ ?_).mono ?_; (exact HO.out.to (by simp) (same_below (below_drewN (below_alloc _ _) _))); rintro e w' (⟨rfl, hoo, n3, rfl⟩ | ⟨rfl, hoo, n3, rfl⟩))
          | (go_at_call 53; refine (HW.out _ _).mono ?_; rintro e w' (⟨rfl, rfl, hlo, hhi⟩ | ⟨rfl, rfl, hno⟩)))
        all_goals go_ret
        all_goals first
          | (refine ⟨Or.inl ⟨⟨L1.out, L2.out, l3, Hid.out (by assumption), Hid.out (by assumption), Hid.out (by assumption), ⟨?_, ?_⟩, ⟨?_, ?_⟩, ⟨?_, ?_⟩, ⟨?_, ?_⟩, ⟨?_, ?_⟩, ⟨?_, ?_⟩, ⟨?_, ?_⟩⟩, rfl⟩, below_drewN (below_alloc _ _) _⟩ <;> ((try dsimp only); omega))
          | (refine ⟨Or.inr ⟨fun h => ?_, rfl⟩, below_drewN (below_alloc _ _) _⟩; obtain ⟨_, _, _, _, _, _, h1, h2, h3, h4, h5, h6, h7⟩ := h; simp only at h1 h2 h3 h4 h5 h6 h7; omega)
          | (refine ⟨Or.inr ⟨fun h => ?_, rfl⟩, below_drewN (below_alloc _ _) _⟩; exact absurd (h.wr.symm.trans (Hid.out (by assumption))) (by decide))
          | (refine ⟨Or.inr ⟨fun h => ?_, rfl⟩, below_drewN (below_alloc _ _) _⟩; exact absurd (h.wm.symm.trans (Hid.out (by assumption))) (by decide))
          | (refine ⟨Or.inr ⟨fun h => ?_, rfl⟩, below_drewN (below_alloc _ _) _⟩; exact absurd (h.wo.symm.trans (Hid.out (by assumption))) (by decide))
      · have b1 : ((regs.length : Int) != 8) = false := by rw [bne_eq_false_iff_eq]; omega
        have b2 : ((mem.length : Int) != 256) = false := by rw [bne_eq_false_iff_eq]; omega
        have b3 : (200 : Int) < (out.length : Int) := by omega
        clear l1 l2
        go_enter Tryd.func26, Tryd.ntmps26
        go_wp2
        go_ret
        exact ⟨Or.inr ⟨fun h => absurd h.out l3, rfl⟩, below_alloc _ _⟩
    · have b1 : ((regs.length : Int) != 8) = false := by rw [bne_eq_false_iff_eq]; omega
      have b2 : ((mem.length : Int) != 256) = true := by rw [bne_iff_ne]; omega
      clear l1
      go_enter Tryd.func26, Tryd.ntmps26
      go_wp2
      go_ret
      exact ⟨Or.inr ⟨fun h => absurd h.mem l2, rfl⟩, below_alloc _ _⟩
  · have b1 : ((regs.length : Int) != 8) = true := by rw [bne_iff_ne]; omega
    go_enter Tryd.func26, Tryd.ntmps26
    go_wp2
    go_ret
    exact ⟨Or.inr ⟨fun h => absurd h.regs l1, rfl⟩, below_alloc _ _⟩

end Go.Proofs.YtilcnlmapifdgaaDoor
