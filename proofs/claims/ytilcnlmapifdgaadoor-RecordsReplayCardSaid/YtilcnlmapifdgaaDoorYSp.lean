/- Several texts joined, each with its own heading in the notes: The contract of cpu. The contract of cpu. No condition beyond those of each row. -/
import Derived.Test.YtilcnlmapifdgaaDoorYOi
import Derived.Test.YtilcnlmapifdgaaDoorYPk
import Derived.Deep.DeepCutAuto
namespace Go.Proofs.YtilcnlmapifdgaaDoor
open Go Go.RowKit Go.ChangeShapes Go.WideShapes Go.Deep
set_option linter.unusedVariables false
attribute [local go_sem ↓] Go.wp_at_zero Go.wp_at_succ

def Mach.zero : Mach := ⟨[], 0, 0, false, false, 0, 0, 0, [], [], 0, 0⟩
/-- What a step answers. -/
def StepR (m : Mach) (irq : Bool) (b : List Int) (value : Int) (m' : Mach) (wr c : Int) : Prop :=
  (¬ MOk m ∧ m' = Mach.zero ∧ wr = 0 ∧ c = 8) ∨
  (MOk m ∧ ¬ (b.length = 0 ∨ b.length = 16) ∧ m' = Mach.zero ∧ wr = 0 ∧ c = 1) ∨
  (MOk m ∧ (b.length = 0 ∨ b.length = 16) ∧ (oddB value = true ∨ b.any oddB = true ∨ m.count = 1099511627776) ∧ m' = Mach.zero ∧ wr = 0 ∧ c = 2) ∨
  (MOk m ∧ (b.length = 0 ∨ b.length = 16) ∧ ¬ (oddB value = true ∨ b.any oddB = true ∨ m.count = 1099511627776) ∧ m' = (stepM m irq b value).1 ∧ wr = (stepM m irq b value).2 ∧ c = 0)
theorem StepR.det {m : Mach} {irq : Bool} {b : List Int} {value : Int} {m1 m2 : Mach} {r1 r2 c1 c2 : Int} (h : StepR m irq b value m1 r1 c1) (k : StepR m irq b value m2 r2 c2) : m1 = m2 ∧ r1 = r2 ∧ c1 = c2 := by
  rcases h with ⟨h, rfl, rfl, rfl⟩ | ⟨h, h1, rfl, rfl, rfl⟩ | ⟨h, h1, h2, rfl, rfl, rfl⟩ | ⟨h, h1, h2, rfl, rfl, rfl⟩ <;>
    rcases k with ⟨k, rfl, rfl, rfl⟩ | ⟨k, k1, rfl, rfl, rfl⟩ | ⟨k, k1, k2, rfl, rfl, rfl⟩ | ⟨k, k1, k2, rfl, rfl, rfl⟩ <;>
    first | exact ⟨rfl, rfl, rfl⟩ | exact absurd k h | exact absurd h k | exact absurd k1 h1 | exact absurd h1 k1 | exact absurd k2 h2 | exact absurd h2 k2
def StepPost (m : Mach) (irq : Bool) (b : List Int) (value : Int) (w : World) (e : Ending) (w' : World) : Prop := ∃ m' wr c ar cr am cm ao co, StepR m irq b value m' wr c ∧ e = .returned (.tuple #[m'.agg (.slice ar m'.regs.length cr) (.slice am m'.mem.length cm) (.slice ao m'.out.length co), .int .i64 wr, .int .i64 c]) ∧ MachOwn w.heap.size w' m' (.slice ar m'.regs.length cr) (.slice am m'.mem.length cm) (.slice ao m'.out.length co) ∧ Below w.heap.size w w'
theorem StepPost.no {m : Mach} {irq : Bool} {b : List Int} {value c : Int} {w w' : World} (h : StepR m irq b value Mach.zero 0 c) (hb : Below w.heap.size w w') : StepPost m irq b value w (.returned (.tuple #[.agg #[.slice none 0 0, .int .i64 0, .int .i64 0, .bool false, .bool false, .int .i64 0, .int .i64 0, .int .i64 0, .slice none 0 0, .slice none 0 0, .int .i64 0, .int .i64 0], .int .i64 0, .int .i64 c])) w' :=
  ⟨Mach.zero, 0, c, none, 0, none, 0, none, 0, h, rfl, zeroM_own _ _, hb⟩
theorem SInv.drew {w0 w : World} {g : Nat} {m : Mach} {vr vm vo : Value} (h : SInv w0 g m vr vm vo w) : SInv w0 g m vr vm vo w.drew := ⟨⟨h.own.hr, h.own.hm, h.own.ho, h.own.rm, h.own.ro, h.own.mo, h.own.mr, h.own.or, h.own.om⟩, h.box, h.below.drew⟩
theorem sodd_is : PredIs 61 oddB := by
  intro z W h1 h2
  have HW := Lib.hid (cword_or z)
  go_enter Tryd.func61, Tryd.ntmps61
  go_wp2_with (go_at_call 53; refine (HW.out _).mono ?_; rintro e w' ⟨rfl, rfl⟩)
  go_ret
  exact ⟨ret_bool (by simp), rfl⟩
theorem scont_or (v : Value) (zs : List Int) (w : World) (hf : Ints w.heap.size w v zs) : Calls Tryd.prog 54 #[v, .func (.func 61) #[] #[]] w (ContOr zs w) :=
  cont_or (containsF_any _ oddB (enters_of Tryd.func61 (by kernel_rfl) rfl) sodd_is v zs w hf)

set_option maxHeartbeats 4000000 in
set_option maxRecDepth 100000 in
theorem step_bad (m : Mach) (ar am ao : Option Addr) (cr cm co : Nat) (irq : Bool) (ba : Option Addr) (b : List Int) (bc : Nat) (value : Int) (w : World)
    (hr : Ints w.heap.size w (.slice ar m.regs.length cr) m.regs) (hm : Ints w.heap.size w (.slice am m.mem.length cm) m.mem) (ho : Ints w.heap.size w (.slice ao m.out.length co) m.out) (hb : Ints w.heap.size w (.slice ba b.length bc) b) (hv : I64 value)
    (hno : ¬ MOk m) : Calls Tryd.prog 30 #[.agg #[.slice ar m.regs.length cr, .int .i64 m.pc, .int .i64 m.back, .bool m.ints, .bool m.wait, .int .i64 m.table, .int .i64 m.count, .int .i64 m.fin, .slice am m.mem.length cm, .slice ao m.out.length co, .int .i64 m.ready, .int .i64 m.want], .bool irq, .slice ba b.length bc, .int .i64 value] w (StepPost m irq b value w) := by
  have HR := Lib.hid hr
  have HM := Lib.hid hm
  have HO := Lib.hid ho
  have HN := Lib.hid hno
  clear hr hm ho hb hno
  go_enter Tryd.func30, Tryd.ntmps30
  go_wp2_with fail
  refine (mcheck_any m ar am ao cr cm co _ (HR.out.to (by simp; omega) (same_below (below_alloc2 _ _ _))) (HM.out.to (by simp; omega) (same_below (below_alloc2 _ _ _))) (HO.out.to (by simp; omega) (same_below (below_alloc2 _ _ _)))).mono ?_
  rintro e w1 ⟨he | he, hb1⟩
  · exact absurd he.1 HN.out
  · obtain ⟨-, rfl⟩ := he
    have hx := block_below hb1 (g := w.heap.size + 1) (alloc_at (by simp)) (by simp)
    have r0 : w1.cell? ⟨w.heap.size + 1, 0, none⟩ = some (.slice none 0 0) := cell_block hx 0
    have g0 := free_block hx 0
    have r1 : w1.cell? ⟨w.heap.size + 1, 1, none⟩ = some (.int .i64 0) := cell_block hx 1
    have g1 := free_block hx 1
    have r2 : w1.cell? ⟨w.heap.size + 1, 2, none⟩ = some (.int .i64 0) := cell_block hx 2
    have g2 := free_block hx 2
    have r3 : w1.cell? ⟨w.heap.size + 1, 3, none⟩ = some (.bool false) := cell_block hx 3
    have g3 := free_block hx 3
    have r4 : w1.cell? ⟨w.heap.size + 1, 4, none⟩ = some (.bool false) := cell_block hx 4
    have g4 := free_block hx 4
    have r5 : w1.cell? ⟨w.heap.size + 1, 5, none⟩ = some (.int .i64 0) := cell_block hx 5
    have g5 := free_block hx 5
    have r6 : w1.cell? ⟨w.heap.size + 1, 6, none⟩ = some (.int .i64 0) := cell_block hx 6
    have g6 := free_block hx 6
    have r7 : w1.cell? ⟨w.heap.size + 1, 7, none⟩ = some (.int .i64 0) := cell_block hx 7
    have g7 := free_block hx 7
    have r8 : w1.cell? ⟨w.heap.size + 1, 8, none⟩ = some (.slice none 0 0) := cell_block hx 8
    have g8 := free_block hx 8
    have r9 : w1.cell? ⟨w.heap.size + 1, 9, none⟩ = some (.slice none 0 0) := cell_block hx 9
    have g9 := free_block hx 9
    have r10 : w1.cell? ⟨w.heap.size + 1, 10, none⟩ = some (.int .i64 0) := cell_block hx 10
    have g10 := free_block hx 10
    have r11 : w1.cell? ⟨w.heap.size + 1, 11, none⟩ = some (.int .i64 0) := cell_block hx 11
    have g11 := free_block hx 11
    have lt1 : w.heap.size + 1 < w1.heap.size := by have := hb1.size; simp at this; omega
    have HB := Lib.hid (show Below w.heap.size w w1 from (below_alloc2 w _ _).trans (hb1.mono (by simp; omega)))
    clear hx hb1
    go_wp2_with fail
    refine bodyPost_ret (v := .tuple #[.agg #[.slice none 0 0, .int .i64 0, .int .i64 0, .bool false, .bool false, .int .i64 0, .int .i64 0, .int .i64 0, .slice none 0 0, .slice none 0 0, .int .i64 0, .int .i64 0], .int .i64 0, .int .i64 8]) (by simp [results, Tryd.results30, go_sem, r0, r1, r2, r3, r4, r5, r6, r7, r8, r9, r10, r11]) rfl ?_
    refine StepPost.no (Or.inl ⟨HN.out, rfl, rfl, rfl⟩) ?_
    go_grown
    exact HB.out
end Go.Proofs.YtilcnlmapifdgaaDoor
namespace Go.Proofs.YtilcnlmapifdgaaDoor
open Go Go.RowKit Go.ChangeShapes Go.WideShapes Go.Deep
set_option linter.unusedVariables false
attribute [local go_sem ↓] Go.wp_at_zero Go.wp_at_succ

set_option maxHeartbeats 4000000 in
set_option maxRecDepth 100000 in
theorem step_ref (m : Mach) (ar am ao : Option Addr) (cr cm co : Nat) (irq : Bool) (ba : Option Addr) (b : List Int) (bc : Nat) (value : Int) (w : World)
    (hr : Ints w.heap.size w (.slice ar m.regs.length cr) m.regs) (hm : Ints w.heap.size w (.slice am m.mem.length cm) m.mem) (ho : Ints w.heap.size w (.slice ao m.out.length co) m.out) (hb : Ints w.heap.size w (.slice ba b.length bc) b) (hv : I64 value)
    (hok : MOk m) (hbad : ¬ (b.length = 0 ∨ b.length = 16) ∨ (oddB value = true ∨ b.any oddB = true ∨ m.count = 1099511627776)) : Calls Tryd.prog 30 #[.agg #[.slice ar m.regs.length cr, .int .i64 m.pc, .int .i64 m.back, .bool m.ints, .bool m.wait, .int .i64 m.table, .int .i64 m.count, .int .i64 m.fin, .slice am m.mem.length cm, .slice ao m.out.length co, .int .i64 m.ready, .int .i64 m.want], .bool irq, .slice ba b.length bc, .int .i64 value] w (StepPost m irq b value w) := by
  have HR := Lib.hid hr
  have HM := Lib.hid hm
  have HO := Lib.hid ho
  have HB := Lib.hid hb
  have HN := Lib.hid hok
  have HS := Lib.hid (fun w => sodd_is value w hv.1 hv.2)
  have hbl := hb.len
  clear hr hm ho hb hok hv
  go_enter Tryd.func30, Tryd.ntmps30
  go_wp2_with fail
  refine (mcheck_any m ar am ao cr cm co _ (HR.out.to (by simp; omega) (same_below (below_alloc2 _ _ _))) (HM.out.to (by simp; omega) (same_below (below_alloc2 _ _ _))) (HO.out.to (by simp; omega) (same_below (below_alloc2 _ _ _)))).mono ?_
  rintro e w1 ⟨he | he, hb1⟩
  rotate_left
  · exact absurd HN.out he.1
  · obtain ⟨-, rfl⟩ := he
    have hx := block_below hb1 (g := w.heap.size + 1) (alloc_at (by simp)) (by simp)
    have r0 : w1.cell? ⟨w.heap.size + 1, 0, none⟩ = some (.slice none 0 0) := cell_block hx 0
    have g0 := free_block hx 0
    have r1 : w1.cell? ⟨w.heap.size + 1, 1, none⟩ = some (.int .i64 0) := cell_block hx 1
    have g1 := free_block hx 1
    have r2 : w1.cell? ⟨w.heap.size + 1, 2, none⟩ = some (.int .i64 0) := cell_block hx 2
    have g2 := free_block hx 2
    have r3 : w1.cell? ⟨w.heap.size + 1, 3, none⟩ = some (.bool false) := cell_block hx 3
    have g3 := free_block hx 3
    have r4 : w1.cell? ⟨w.heap.size + 1, 4, none⟩ = some (.bool false) := cell_block hx 4
    have g4 := free_block hx 4
    have r5 : w1.cell? ⟨w.heap.size + 1, 5, none⟩ = some (.int .i64 0) := cell_block hx 5
    have g5 := free_block hx 5
    have r6 : w1.cell? ⟨w.heap.size + 1, 6, none⟩ = some (.int .i64 0) := cell_block hx 6
    have g6 := free_block hx 6
    have r7 : w1.cell? ⟨w.heap.size + 1, 7, none⟩ = some (.int .i64 0) := cell_block hx 7
    have g7 := free_block hx 7
    have r8 : w1.cell? ⟨w.heap.size + 1, 8, none⟩ = some (.slice none 0 0) := cell_block hx 8
    have g8 := free_block hx 8
    have r9 : w1.cell? ⟨w.heap.size + 1, 9, none⟩ = some (.slice none 0 0) := cell_block hx 9
    have g9 := free_block hx 9
    have r10 : w1.cell? ⟨w.heap.size + 1, 10, none⟩ = some (.int .i64 0) := cell_block hx 10
    have g10 := free_block hx 10
    have r11 : w1.cell? ⟨w.heap.size + 1, 11, none⟩ = some (.int .i64 0) := cell_block hx 11
    have g11 := free_block hx 11
    have hy := block_below hb1 (g := w.heap.size) ((alloc_lt (by simp)).trans (alloc_at rfl)) (by simp; omega)
    have q6 : w1.cell? ⟨w.heap.size, 6, none⟩ = some (.int .i64 m.count) := cell_block hy 6
    have lt1 : w.heap.size + 1 < w1.heap.size := by have := hb1.size; simp at this; omega
    have HB1 := Lib.hid (show Below w.heap.size w w1 from (below_alloc2 w _ _).trans (hb1.mono (by simp; omega)))
    clear hx hy hb1
    have HI := Lib.hid (show Ints w1.heap.size w1 (.slice ba b.length bc) b from HB.out.to (by omega) (same_below HB1.out))
    by_cases hl : b.length = 0 ∨ b.length = 16
    · have HL := Lib.hid hl
      have HBAD := Lib.hid (hbad.resolve_left (fun k => k hl))
      have hpost := Lib.hid (show StepR m irq b value Mach.zero 0 2 from Or.inr (Or.inr (Or.inl ⟨HN.out, hl, HBAD.out, rfl, rfl, rfl⟩)))
      have hl1 : ((b.length : Int) != 0 && (b.length : Int) != 16) = false := by
        rcases hl with h | h <;> simp [h]
      have hl2 : (b.length : Int) = 0 ∨ (b.length : Int) = 16 := by omega
      clear hbad hl
      by_cases ho : oddB value = true
      · rw [ho] at HS
        clear ho HBAD
        rcases hl2 with hl2 | hl2
        all_goals (
          go_wp2_with (first
            | (go_at_fn 61; refine (HS.out _).mono ?_; rintro e w' ⟨rfl, rfl⟩)
            | (go_at_call 61; refine (HS.out _).mono ?_; rintro e w' ⟨rfl, rfl⟩))
          refine bodyPost_ret (v := .tuple #[.agg #[.slice none 0 0, .int .i64 0, .int .i64 0, .bool false, .bool false, .int .i64 0, .int .i64 0, .int .i64 0, .slice none 0 0, .slice none 0 0, .int .i64 0, .int .i64 0], .int .i64 0, .int .i64 2]) (by simp [results, Tryd.results30, go_sem, r0, r1, r2, r3, r4, r5, r6, r7, r8, r9, r10, r11]) rfl ?_
          refine StepPost.no hpost.out ?_
          go_grown
          exact HB1.out)
      · have ho' : oddB value = false := by simpa using ho
        have HBAD2 := Lib.hid (HBAD.out.resolve_left ho)
        rw [ho'] at HS
        clear ho ho' HBAD
        have HCT := Lib.hid (fun w' (h : w' = w1) => (by subst h; exact scont_or _ b _ HI.out : Calls Tryd.prog 54 #[.slice ba b.length bc, .func (.func 61) #[] #[]] w' (ContOr b w')))
        rcases hl2 with hl2 | hl2
        all_goals (
          go_wp2_with (first
            | (go_at_fn 61; refine (HS.out _).mono ?_; rintro e w' ⟨rfl, rfl⟩)
            | (go_at_call 61; refine (HS.out _).mono ?_; rintro e w' ⟨rfl, rfl⟩)
            | (go_at_call 54; (with_reducible refine (HCT.out _ ?_).mono ?_); exact rfl; rintro e w2 (⟨rfl, ha, n1, rfl⟩ | ⟨rfl, ha, n1, rfl⟩) <;> (first | (have hcn := HBAD2.out.resolve_left (by rw [ha.out]; decide); rw [hcn] at q6) | skip)))
          all_goals (
            refine bodyPost_ret (v := .tuple #[.agg #[.slice none 0 0, .int .i64 0, .int .i64 0, .bool false, .bool false, .int .i64 0, .int .i64 0, .int .i64 0, .slice none 0 0, .slice none 0 0, .int .i64 0, .int .i64 0], .int .i64 0, .int .i64 2]) (by simp [results, Tryd.results30, go_sem, r0, r1, r2, r3, r4, r5, r6, r7, r8, r9, r10, r11]) rfl ?_
            refine StepPost.no hpost.out ?_
            go_grown
            exact below_drewN HB1.out _))
    · have hpost := Lib.hid (show StepR m irq b value Mach.zero 0 1 from Or.inr (Or.inl ⟨HN.out, hl, rfl, rfl, rfl⟩))
      have h0 : ((b.length : Int) != 0) = true := by rw [bne_iff_ne]; omega
      have h16 : ((b.length : Int) != 16) = true := by rw [bne_iff_ne]; omega
      clear hbad hl
      go_wp2_with fail
      refine bodyPost_ret (v := .tuple #[.agg #[.slice none 0 0, .int .i64 0, .int .i64 0, .bool false, .bool false, .int .i64 0, .int .i64 0, .int .i64 0, .slice none 0 0, .slice none 0 0, .int .i64 0, .int .i64 0], .int .i64 0, .int .i64 1]) (by simp [results, Tryd.results30, go_sem, r0, r1, r2, r3, r4, r5, r6, r7, r8, r9, r10, r11]) rfl ?_
      refine StepPost.no hpost.out ?_
      go_grown
      exact HB1.out
end Go.Proofs.YtilcnlmapifdgaaDoor
