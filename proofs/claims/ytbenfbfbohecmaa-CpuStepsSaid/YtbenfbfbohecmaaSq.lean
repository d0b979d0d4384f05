/- The contract of cpu.Step. No condition beyond the readings. -/
import Derived.Test.YtbenfbfbohecmaaSp
namespace Go.Proofs.Ytbenfbfbohecmaa
open Go Go.RowKit Go.ChangeShapes Go.WideShapes Go.Deep
set_option linter.unusedVariables false
attribute [local go_sem ↓] Go.wp_at_zero Go.wp_at_succ

set_option maxHeartbeats 4000000 in
set_option maxRecDepth 100000 in
theorem step_ref (m : Mach) (ar am ao : Option Addr) (cr cm co : Nat) (irq : Bool) (ba : Option Addr) (b : List Int) (bc : Nat) (value : Int) (w : World)
    (hr : Ints w.heap.size w (.slice ar m.regs.length cr) m.regs) (hm : Ints w.heap.size w (.slice am m.mem.length cm) m.mem) (ho : Ints w.heap.size w (.slice ao m.out.length co) m.out) (hb : Ints w.heap.size w (.slice ba b.length bc) b) (hv : I64 value)
    (hok : MOk m) (hbad : ¬ (b.length = 0 ∨ b.length = 16) ∨ (oddB value = true ∨ b.any oddB = true ∨ m.count = 1099511627776)) : Calls Try.prog 5 #[.agg #[.slice ar m.regs.length cr, .int .i64 m.pc, .int .i64 m.back, .bool m.ints, .bool m.wait, .int .i64 m.table, .int .i64 m.count, .int .i64 m.fin, .slice am m.mem.length cm, .slice ao m.out.length co, .int .i64 m.ready, .int .i64 m.want], .bool irq, .slice ba b.length bc, .int .i64 value] w (StepPost m irq b value w) := by
  have HR := Lib.hid hr
  have HM := Lib.hid hm
  have HO := Lib.hid ho
  have HB := Lib.hid hb
  have HN := Lib.hid hok
  have HS := Lib.hid (fun w => sodd_is value w hv.1 hv.2)
  have hbl := hb.len
  clear hr hm ho hb hok hv
  go_enter Try.func5, Try.ntmps5
  go_wp2_with fail
  refine (mcheck_any m ar am ao cr cm co _ (HR.out.to (by simp; omega) (same_below (below_alloc2 _ _ _))) (HM.out.to (by simp; omega) (same_below (below_alloc2 _ _ _))) (HO.out.to (by simp; omega) (same_below (below_alloc2 _ _ _)))).mono ?_
  rintro e w1 ⟨he | he, hb1⟩
  rotate_left
  · exact absurd HN.out he.1
  · obtain ⟨-, rfl⟩ := he
    have hx := block_below hb1 (g := w.heap.size + 1) (alloc_at (by simp)) (by simp)
    have r0 : w1.cell? ⟨w.heap.size + 1, 0, none⟩ = some (.slice none 0 0) := cell_block hx 0
    have g0 := free_block hx 0
    have r1 : w1.cell? ⟨w.heap.size + 1, 1, none⟩ = some (.int .i64 0) := cell_block hx 1
    have g1 := free_block hx 1
    have r2 : w1.cell? ⟨w.heap.size + 1, 2, none⟩ = some (.int .i64 0) := cell_block hx 2
    have g2 := free_block hx 2
    have r3 : w1.cell? ⟨w.heap.size + 1, 3, none⟩ = some (.bool false) := cell_block hx 3
    have g3 := free_block hx 3
    have r4 : w1.cell? ⟨w.heap.size + 1, 4, none⟩ = some (.bool false) := cell_block hx 4
    have g4 := free_block hx 4
    have r5 : w1.cell? ⟨w.heap.size + 1, 5, none⟩ = some (.int .i64 0) := cell_block hx 5
    have g5 := free_block hx 5
    have r6 : w1.cell? ⟨w.heap.size + 1, 6, none⟩ = some (.int .i64 0) := cell_block hx 6
    have g6 := free_block hx 6
    have r7 : w1.cell? ⟨w.heap.size + 1, 7, none⟩ = some (.int .i64 0) := cell_block hx 7
    have g7 := free_block hx 7
    have r8 : w1.cell? ⟨w.heap.size + 1, 8, none⟩ = some (.slice none 0 0) := cell_block hx 8
    have g8 := free_block hx 8
    have r9 : w1.cell? ⟨w.heap.size + 1, 9, none⟩ = some (.slice none 0 0) := cell_block hx 9
    have g9 := free_block hx 9
    have r10 : w1.cell? ⟨w.heap.size + 1, 10, none⟩ = some (.int .i64 0) := cell_block hx 10
    have g10 := free_block hx 10
    have r11 : w1.cell? ⟨w.heap.size + 1, 11, none⟩ = some (.int .i64 0) := cell_block hx 11
    have g11 := free_block hx 11
    have hy := block_below hb1 (g := w.heap.size) ((alloc_lt (by simp)).trans (alloc_at rfl)) (by simp; omega)
    have q6 : w1.cell? ⟨w.heap.size, 6, none⟩ = some (.int .i64 m.count) := cell_block hy 6
    have lt1 : w.heap.size + 1 < w1.heap.size := by have := hb1.size; simp at this; omega
    have HB1 := Lib.hid (show Below w.heap.size w w1 from (below_alloc2 w _ _).trans (hb1.mono (by simp; omega)))
    clear hx hy hb1
    have HI := Lib.hid (show Ints w1.heap.size w1 (.slice ba b.length bc) b from HB.out.to (by omega) (same_below HB1.out))
    by_cases hl : b.length = 0 ∨ b.length = 16
    · have HL := Lib.hid hl
      have HBAD := Lib.hid (hbad.resolve_left (fun k => k hl))
      have hpost := Lib.hid (show StepR m irq b value Mach.zero 0 2 from Or.inr (Or.inr (Or.inl ⟨HN.out, hl, HBAD.out, rfl, rfl, rfl⟩)))
      have hl1 : ((b.length : Int) != 0 && (b.length : Int) != 16) = false := by
        rcases hl with h | h <;> simp [h]
      have hl2 : (b.length : Int) = 0 ∨ (b.length : Int) = 16 := by omega
      clear hbad hl
      by_cases ho : oddB value = true
      · rw [ho] at HS
        clear ho HBAD
        rcases hl2 with hl2 | hl2
        all_goals (
          go_wp2_with (first
            | (go_at_fn 10; refine (HS.out _).mono ?_; rintro e w' ⟨rfl, rfl⟩)
            | (go_at_call 10; refine (HS.out _).mono ?_; rintro e w' ⟨rfl, rfl⟩))
          refine bodyPost_ret (v := .tuple #[.agg #[.slice none 0 0, .int .i64 0, .int .i64 0, .bool false, .bool false, .int .i64 0, .int .i64 0, .int .i64 0, .slice none 0 0, .slice none 0 0, .int .i64 0, .int .i64 0], .int .i64 0, .int .i64 2]) (by simp [results, Try.results5, go_sem, r0, r1, r2, r3, r4, r5, r6, r7, r8, r9, r10, r11]) rfl ?_
          refine StepPost.no hpost.out ?_
          go_grown
          exact HB1.out)
      · have ho' : oddB value = false := by simpa using ho
        have HBAD2 := Lib.hid (HBAD.out.resolve_left ho)
        rw [ho'] at HS
        clear ho ho' HBAD
        have HCT := Lib.hid (fun w' (h : w' = w1) => (by subst h; exact scont_or _ b _ HI.out : Calls Try.prog 12 #[.slice ba b.length bc, .func (.func 10) #[] #[]] w' (ContOr b w')))
        rcases hl2 with hl2 | hl2
        all_goals (
          go_wp2_with (first
            | (go_at_fn 10; refine (HS.out _).mono ?_; rintro e w' ⟨rfl, rfl⟩)
            | (go_at_call 10; refine (HS.out _).mono ?_; rintro e w' ⟨rfl, rfl⟩)
            | (go_at_call 12; (with_reducible refine (HCT.out _ ?_).mono ?_); exact rfl; rintro e w2 (⟨rfl, ha, n1, rfl⟩ | ⟨rfl, ha, n1, rfl⟩) <;> (first | (have hcn := HBAD2.out.resolve_left (by rw [ha.out]; decide); rw [hcn] at q6) | skip)))
          all_goals (
            refine bodyPost_ret (v := .tuple #[.agg #[.slice none 0 0, .int .i64 0, .int .i64 0, .bool false, .bool false, .int .i64 0, .int .i64 0, .int .i64 0, .slice none 0 0, .slice none 0 0, .int .i64 0, .int .i64 0], .int .i64 0, .int .i64 2]) (by simp [results, Try.results5, go_sem, r0, r1, r2, r3, r4, r5, r6, r7, r8, r9, r10, r11]) rfl ?_
            refine StepPost.no hpost.out ?_
            go_grown
            exact below_drewN HB1.out _))
    · have hpost := Lib.hid (show StepR m irq b value Mach.zero 0 1 from Or.inr (Or.inl ⟨HN.out, hl, rfl, rfl, rfl⟩))
      have h0 : ((b.length : Int) != 0) = true := by rw [bne_iff_ne]; omega
      have h16 : ((b.length : Int) != 16) = true := by rw [bne_iff_ne]; omega
      clear hbad hl
      go_wp2_with fail
      refine bodyPost_ret (v := .tuple #[.agg #[.slice none 0 0, .int .i64 0, .int .i64 0, .bool false, .bool false, .int .i64 0, .int .i64 0, .int .i64 0, .slice none 0 0, .slice none 0 0, .int .i64 0, .int .i64 0], .int .i64 0, .int .i64 1]) (by simp [results, Try.results5, go_sem, r0, r1, r2, r3, r4, r5, r6, r7, r8, r9, r10, r11]) rfl ?_
      refine StepPost.no hpost.out ?_
      go_grown
      exact HB1.out
end Go.Proofs.Ytbenfbfbohecmaa
