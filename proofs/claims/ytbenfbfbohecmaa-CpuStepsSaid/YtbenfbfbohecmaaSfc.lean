/- SteppedOf at what may be. No condition beyond the readings. -/
import Derived.Test.YtbenfbfbohecmaaSte
import Derived.Test.YtbenfbfbohecmaaGc
import Derived.Test.YtbenfbfbohecmaaSr
import Derived.Handy
import Derived.Deep.CutBlock
import Derived.Deep.CutRange
namespace Go.Proofs.Ytbenfbfbohecmaa
open Go Go.RowKit Go.ChangeShapes Go.WideShapes Go.Deep
set_option linter.unusedVariables false
attribute [local go_sem ↓] Go.wp_at_zero Go.wp_at_succ

theorem za_start {w2 w3 : World} {m : Mach} {ar am ao : Option Addr} {cr cm co : Nat} (hok : MOk m) (hown : MachOwn w2.heap.size w3 m (.slice ar m.regs.length cr) (.slice am m.mem.length cm) (.slice ao m.out.length co)) (hb : Below w2.heap.size w2 w3) : ∃ gr mb, ar = some ⟨gr, 0, none⟩ ∧ am = some ⟨mb, 0, none⟩ ∧ ZA w2 (fun _ => False) gr cr mb cm m ao co w3 := by
  have hr8 := hok.regs
  have hm256 := hok.mem
  obtain ⟨gr, rfl, gb⟩ := own_some hown.hr (by omega)
  obtain ⟨mb, rfl, mbb⟩ := own_some hown.hm (by omega)
  refine ⟨gr, mb, rfl, rfl, ?_⟩
  obtain ⟨h1, h2, h3, a1, a2, a3, a4, a5, a6⟩ := hown
  rw [hr8] at h1 a1 a2 a4 a5
  rw [hm256] at h2 a1 a3 a4 a6
  have hne : gr ≠ mb := by
    rcases a1 with a | a
    · exact absurd a (by simp [Value.ownBlock])
    · intro e; exact a (by simp [Value.ownBlock, e])
  refine ⟨own_base h1 (Nat.zero_le _), own_base h2 (Nat.zero_le _), own_base h3 (Nat.zero_le _), hne, ?_, ?_, OutF.of hb _, Or.inr gb, Or.inr mbb, fun g hg => Or.inr (h3.lt g hg).1⟩
  · rcases a5 with a | a
    · intro e; rw [a] at e; cases e
    · intro e; exact a (by rw [e]; rfl)
  · rcases a6 with a | a
    · intro e; rw [a] at e; cases e
    · intro e; exact a (by rw [e]; rfl)
theorem ZA.sinv {w w0 w6 : World} {gr dr mb dm g : Nat} {mz : Mach} {az : Option Addr} {dz : Nat} (h : ZA w0 (fun _ => False) gr dr mb dm mz az dz w6) (hok : MOk mz) (hw : Below w.heap.size w w0) (hg : ∃ cs, w6.heap[g]? = some (.cells cs 24 (0, 0))) : SInv w g mz (.slice (some ⟨gr, 0, none⟩) 8 dr) (.slice (some ⟨mb, 0, none⟩) 256 dm) (.slice az mz.out.length dz) w6 := by
  have hs := hw.size
  refine ⟨⟨?_, ?_, own_reb h.out (fun k hk => ?_), ?_, ?_, ?_, ?_, ?_, ?_⟩, hg, hw.trans (h.old.below (fun k q => q.elim) hs)⟩
  · rw [hok.regs]; exact own_reb h.regs (fun k hk => by simp [Value.ownBlock] at hk; subst hk; rcases h.lr with q | q; exact q.elim; omega)
  · rw [hok.mem]; exact own_reb h.mem (fun k hk => by simp [Value.ownBlock] at hk; subst hk; rcases h.lm with q | q; exact q.elim; omega)
  · rcases h.lo k hk with q | q
    · exact q.elim
    · omega
  · exact Or.inr (by have := h.rm; simp [Value.ownBlock]; exact this)
  · exact Or.inr (fun e => h.ro e.symm)
  · exact Or.inr (fun e => h.mo e.symm)
  · exact Or.inr (by have := h.rm; simp [Value.ownBlock]; exact fun e => this e.symm)
  · exact Or.inr h.ro
  · exact Or.inr h.mo


set_option maxHeartbeats 2400000 in
set_option maxRecDepth 100000 in
theorem sof_ok (m : Mach) (ar am ao : Option Addr) (cr cm co : Nat) (irq : Bool) (ba : Option Addr) (b : List Int) (bc : Nat) (value : Int) (w : World) (hr : Ints w.heap.size w (.slice ar m.regs.length cr) m.regs) (hm : Ints w.heap.size w (.slice am m.mem.length cm) m.mem) (ho : Ints w.heap.size w (.slice ao m.out.length co) m.out) (hb : Ints w.heap.size w (.slice ba b.length bc) b) (hv : I64 value) (hok : MOk m) (hl : b.length = 0 ∨ b.length = 16) (hgood : ¬ (oddB value = true ∨ b.any oddB = true ∨ m.count = 1099511627776)) : Calls Try.prog 6 #[.agg #[.slice ar m.regs.length cr, .int .i64 m.pc, .int .i64 m.back, .bool m.ints, .bool m.wait, .int .i64 m.table, .int .i64 m.count, .int .i64 m.fin, .slice am m.mem.length cm, .slice ao m.out.length co, .int .i64 m.ready, .int .i64 m.want], .bool irq, .slice ba b.length bc, .int .i64 value] w (StepPost m irq b value w) := by
  have HPOST := Lib.hid (show StepR m irq b value (stepM m irq b value).1 (stepM m irq b value).2 0 from Or.inr (Or.inr (Or.inr ⟨hok, hl, hgood, rfl, rfl, rfl⟩)))
  have hov : oddB value = false := by cases h : oddB value with
    | false => rfl
    | true => exact absurd (Or.inl h) hgood
  have hob : b.any oddB = false := by cases h : b.any oddB with
    | false => rfl
    | true => exact absurd (Or.inr (Or.inl h)) hgood
  have hcn : (m.count == 1099511627776) = false := by rw [beq_eq_false_iff_ne]; exact fun h => hgood (Or.inr (Or.inr h))
  have HCN : Hid (m.count < 1099511627776) := Lib.hid (by have h1 := hok.count; have h2 : ¬ m.count = 1099511627776 := fun h => hgood (Or.inr (Or.inr h)); omega)
  have HWV : Hid (WordZ value) := Lib.hid (odd_iff hov)
  have HWB : Hid (∀ z ∈ b, WordZ z) := Lib.hid (words_of hob)
  have HL := Lib.hid hl
  have HW := Lib.hid (fun w => wordMay_any value w)
  rw [hov] at HW
  have HOB := Lib.hid hob
  have hl2 : (b.length : Int) = 0 ∨ (b.length : Int) = 16 := by omega
  have HOKS : Hid (MOk (stepM m irq b value).1) := Lib.hid (stepM_ok hok irq value hl HWB.out HWV.out HCN.out)
  clear hl hgood hov hob
  have HR := Lib.hid hr
  have HM := Lib.hid hm
  have HO := Lib.hid ho
  have HB := Lib.hid hb
  have HN := Lib.hid hok
  have hbl := hb.len
  clear hr hm ho hb hok
  go_enter Try.func6, Try.ntmps6
  go_wp2_with fail
  refine (mmay_any m ar am ao cr cm co _ (HR.out.to (by simp; omega) (same_below (below_alloc2 _ _ _))) (HM.out.to (by simp; omega) (same_below (below_alloc2 _ _ _))) (HO.out.to (by simp; omega) (same_below (below_alloc2 _ _ _)))).mono ?_
  rintro e w1 ⟨he | he, hb1⟩
  rotate_left
  · exact absurd HN.out he.1
  obtain ⟨-, rfl⟩ := he
  have hx := block_below hb1 (g := w.heap.size) ((alloc_lt (by simp)).trans (alloc_at rfl)) (by simp; omega)
  have hy := block_below hb1 (g := w.heap.size + 1) (alloc_at (by simp)) (by simp)
  have lt1 : w.heap.size + 1 < w1.heap.size := by have := hb1.size; simp at this; omega
  have HB1 := Lib.hid (show Below w.heap.size w w1 from (below_alloc2 w _ _).trans (hb1.mono (by simp; omega)))
  clear hb1
  have q0 : w1.cell? ⟨w.heap.size, 0, none⟩ = some (.slice ar m.regs.length cr) := cell_block hx 0
  have q1 : w1.cell? ⟨w.heap.size, 1, none⟩ = some (.int .i64 m.pc) := cell_block hx 1
  have q2 : w1.cell? ⟨w.heap.size, 2, none⟩ = some (.int .i64 m.back) := cell_block hx 2
  have q3 : w1.cell? ⟨w.heap.size, 3, none⟩ = some (.bool m.ints) := cell_block hx 3
  have q4 : w1.cell? ⟨w.heap.size, 4, none⟩ = some (.bool m.wait) := cell_block hx 4
  have q5 : w1.cell? ⟨w.heap.size, 5, none⟩ = some (.int .i64 m.table) := cell_block hx 5
  have q6 : w1.cell? ⟨w.heap.size, 6, none⟩ = some (.int .i64 m.count) := cell_block hx 6
  have q7 : w1.cell? ⟨w.heap.size, 7, none⟩ = some (.int .i64 m.fin) := cell_block hx 7
  have q8 : w1.cell? ⟨w.heap.size, 8, none⟩ = some (.slice am m.mem.length cm) := cell_block hx 8
  have q9 : w1.cell? ⟨w.heap.size, 9, none⟩ = some (.slice ao m.out.length co) := cell_block hx 9
  have q10 : w1.cell? ⟨w.heap.size, 10, none⟩ = some (.int .i64 m.ready) := cell_block hx 10
  have q11 : w1.cell? ⟨w.heap.size, 11, none⟩ = some (.int .i64 m.want) := cell_block hx 11
  have HY := Lib.hid hy
  clear hx hy
  have HI := Lib.hid (show Ints w1.heap.size w1 (.slice ba b.length bc) b from HB.out.to (by omega) (same_below HB1.out))
  go_upto_region 3 with fail
  go_cut [24] from 13 (fun s24 wx => s24 = .bool false ∧ wx = w1)
  case first =>
    rcases hl2 with hl2 | hl2
    all_goals (go_wp2; go_meet)
    all_goals (case rel => exact ⟨rfl, rfl⟩)
  case rest =>
  obtain ⟨rfl, hwc⟩ := hcut
  rw [hwc]
  clear hwc
  have HLN : Hid (m.regs.length = 8 ∧ m.mem.length = 256) := Lib.hid ⟨HN.out.regs, HN.out.mem⟩
  go_upto_region 8 with (first
    | (go_at_call 18; refine (HW.out _).mono ?_; rintro e w' ⟨rfl, rfl⟩)
    | (go_at_call 19; refine (may_or (wordsMay_any _ b _ HI.out)).mono ?_; rintro e w2 (⟨rfl, ha, n1, rfl⟩ | ⟨rfl, ha, n1, rfl⟩); exact absurd ha.out (by rw [HOB.out]; decide))
    | (go_at_call 4; refine (gcopy_any m ar am ao cr cm co _ ?_ ?_ ?_).mono ?_; (exact HR.out.to (Nat.le_of_lt (Nat.lt_of_succ_lt lt1)) (same_below (below_drewN HB1.out n1))); (exact HM.out.to (Nat.le_of_lt (Nat.lt_of_succ_lt lt1)) (same_below (below_drewN HB1.out n1))); (exact HO.out.to (Nat.le_of_lt (Nat.lt_of_succ_lt lt1)) (same_below (below_drewN HB1.out n1))); rintro e w3 ⟨br, dr, bm, dm, bo, d0, he, hown, hb3⟩; rw [Mach.agg, HLN.out.1, HLN.out.2] at he; subst he; obtain ⟨gr, mb, rfl, rfl, hza⟩ := za_start HN.out hown hb3; have HZA := Lib.hid hza; have HB3 := Lib.hid hb3; clear hown hb3 hza)
    | (go_at_call 20; refine (stepped_any m _ _ _ _ _ _ _ _ irq ba b bc value _ HZA.out HN.out HCN.out HL.out HWB.out HWV.out ?_).mono ?_; (exact fun w' ho => HI.out.to ho.size ((same_below (below_drewN (Below.refl _ _) n1)).trans (same_below (ho.below (B := w1.heap.size) (fun g q => q.elim) (Nat.le_refl _))))); rintro e w4 ⟨az, dz, rfl, hz4⟩; have HZ4 := Lib.hid hz4; clear hz4))
  generalize hmz : (stepM m irq b value).1 = mz at *
  generalize hwz : (stepM m irq b value).2 = wz at *
  have hy4 := HZ4.out.old.at ((below_drewN (Below.refl w1.heap.size w1) n1 |>.block _ lt1).trans HY.out) (fun q => q)
  have r0 : w4.cell? ⟨w.heap.size + 1, 0, none⟩ = some (.slice none 0 0) := cell_block hy4 0
  have g0 := free_block hy4 0
  have r1 : w4.cell? ⟨w.heap.size + 1, 1, none⟩ = some (.int .i64 0) := cell_block hy4 1
  have g1 := free_block hy4 1
  have r2 : w4.cell? ⟨w.heap.size + 1, 2, none⟩ = some (.int .i64 0) := cell_block hy4 2
  have g2 := free_block hy4 2
  have r3 : w4.cell? ⟨w.heap.size + 1, 3, none⟩ = some (.bool false) := cell_block hy4 3
  have g3 := free_block hy4 3
  have r4 : w4.cell? ⟨w.heap.size + 1, 4, none⟩ = some (.bool false) := cell_block hy4 4
  have g4 := free_block hy4 4
  have r5 : w4.cell? ⟨w.heap.size + 1, 5, none⟩ = some (.int .i64 0) := cell_block hy4 5
  have g5 := free_block hy4 5
  have r6 : w4.cell? ⟨w.heap.size + 1, 6, none⟩ = some (.int .i64 0) := cell_block hy4 6
  have g6 := free_block hy4 6
  have r7 : w4.cell? ⟨w.heap.size + 1, 7, none⟩ = some (.int .i64 0) := cell_block hy4 7
  have g7 := free_block hy4 7
  have r8 : w4.cell? ⟨w.heap.size + 1, 8, none⟩ = some (.slice none 0 0) := cell_block hy4 8
  have g8 := free_block hy4 8
  have r9 : w4.cell? ⟨w.heap.size + 1, 9, none⟩ = some (.slice none 0 0) := cell_block hy4 9
  have g9 := free_block hy4 9
  have r10 : w4.cell? ⟨w.heap.size + 1, 10, none⟩ = some (.int .i64 0) := cell_block hy4 10
  have g10 := free_block hy4 10
  have r11 : w4.cell? ⟨w.heap.size + 1, 11, none⟩ = some (.int .i64 0) := cell_block hy4 11
  have g11 := free_block hy4 11
  have HY4 := Lib.hid hy4
  have lt4 : w.heap.size + 1 < w4.heap.size := (Array.getElem?_eq_some_iff.1 hy4).1
  have ne4 : ¬ w4.heap.size = w.heap.size + 1 := by omega
  have ne5 : ¬ w.heap.size + 1 = w4.heap.size := by omega
  clear hy4 q0 q1 q2 q3 q4 q5 q6 q7 q8 q9 q10 q11
  have HO4 : Hid (SInv w (w.heap.size + 1) mz (.slice (some ⟨gr, 0, none⟩) 8 dr) (.slice (some ⟨mb, 0, none⟩) 256 dm) (.slice az mz.out.length dz) (w4.alloc (.cells #[.slice (some ⟨gr, 0, none⟩) 8 dr, .int .i64 mz.pc, .int .i64 mz.back, .bool mz.ints, .bool mz.wait, .int .i64 mz.table, .int .i64 mz.count, .int .i64 mz.fin, .slice (some ⟨mb, 0, none⟩) 256 dm, .slice az mz.out.length dz, .int .i64 mz.ready, .int .i64 mz.want] 24 (0, 0)))) := Lib.hid ((HZ4.out.kept (below_alloc w4 _)).sinv HOKS.out (below_drewN HB1.out n1) ⟨_, (alloc_lt lt4).trans HY4.out⟩)
  have HX13 : Hid ((w4.alloc (.cells #[.slice (some ⟨gr, 0, none⟩) 8 dr, .int .i64 mz.pc, .int .i64 mz.back, .bool mz.ints, .bool mz.wait, .int .i64 mz.table, .int .i64 mz.count, .int .i64 mz.fin, .slice (some ⟨mb, 0, none⟩) 256 dm, .slice az mz.out.length dz, .int .i64 mz.ready, .int .i64 mz.want] 24 (0, 0))).heap[w4.heap.size]? = some (.cells #[.slice (some ⟨gr, 0, none⟩) 8 dr, .int .i64 mz.pc, .int .i64 mz.back, .bool mz.ints, .bool mz.wait, .int .i64 mz.table, .int .i64 mz.count, .int .i64 mz.fin, .slice (some ⟨mb, 0, none⟩) 256 dm, .slice az mz.out.length dz, .int .i64 mz.ready, .int .i64 mz.want] 24 (0, 0))) := Lib.hid (alloc_at rfl)
  have HX8 : Hid ((w4.alloc (.cells #[.slice (some ⟨gr, 0, none⟩) 8 dr, .int .i64 mz.pc, .int .i64 mz.back, .bool mz.ints, .bool mz.wait, .int .i64 mz.table, .int .i64 mz.count, .int .i64 mz.fin, .slice (some ⟨mb, 0, none⟩) 256 dm, .slice az mz.out.length dz, .int .i64 mz.ready, .int .i64 mz.want] 24 (0, 0))).heap[w.heap.size + 1]? = some (.cells #[.slice none 0 0, .int .i64 0, .int .i64 0, .bool false, .bool false, .int .i64 0, .int .i64 0, .int .i64 0, .slice none 0 0, .slice none 0 0, .int .i64 0, .int .i64 0] 24 (0, 0))) := Lib.hid ((alloc_lt lt4).trans HY4.out)
  have HW1 : Hid (w.heap.size ≤ w.heap.size + 1) := Lib.hid (Nat.le_succ _)
  clear r0 r1 r2 r3 r4 r5 r6 r7 r8 r9 r10 r11 g0 g1 g2 g3 g4 g5 g6 g7 g8 g9 g10 g11 HY4 lt4 lt1
  generalize hWW : World.alloc w4 _ = W5 at *
  generalize hgd : w4.heap.size = gd at *
  generalize hrb : w.heap.size + 1 = rb at *
  clear hWW hgd hrb
  have p0 : W5.cell? ⟨gd, 0, none⟩ = some (.slice (some ⟨gr, 0, none⟩) 8 dr) := cell_block HX13.out 0
  have p1 : W5.cell? ⟨gd, 1, none⟩ = some (.int .i64 mz.pc) := cell_block HX13.out 1
  have p2 : W5.cell? ⟨gd, 2, none⟩ = some (.int .i64 mz.back) := cell_block HX13.out 2
  have p3 : W5.cell? ⟨gd, 3, none⟩ = some (.bool mz.ints) := cell_block HX13.out 3
  have p4 : W5.cell? ⟨gd, 4, none⟩ = some (.bool mz.wait) := cell_block HX13.out 4
  have p5 : W5.cell? ⟨gd, 5, none⟩ = some (.int .i64 mz.table) := cell_block HX13.out 5
  have p6 : W5.cell? ⟨gd, 6, none⟩ = some (.int .i64 mz.count) := cell_block HX13.out 6
  have p7 : W5.cell? ⟨gd, 7, none⟩ = some (.int .i64 mz.fin) := cell_block HX13.out 7
  have p8 : W5.cell? ⟨gd, 8, none⟩ = some (.slice (some ⟨mb, 0, none⟩) 256 dm) := cell_block HX13.out 8
  have p9 : W5.cell? ⟨gd, 9, none⟩ = some (.slice az mz.out.length dz) := cell_block HX13.out 9
  have p10 : W5.cell? ⟨gd, 10, none⟩ = some (.int .i64 mz.ready) := cell_block HX13.out 10
  have p11 : W5.cell? ⟨gd, 11, none⟩ = some (.int .i64 mz.want) := cell_block HX13.out 11
  have r0 : W5.cell? ⟨rb, 0, none⟩ = some (.slice none 0 0) := cell_block HX8.out 0
  have g0 := free_block HX8.out 0
  have r1 : W5.cell? ⟨rb, 1, none⟩ = some (.int .i64 0) := cell_block HX8.out 1
  have g1 := free_block HX8.out 1
  have r2 : W5.cell? ⟨rb, 2, none⟩ = some (.int .i64 0) := cell_block HX8.out 2
  have g2 := free_block HX8.out 2
  have r3 : W5.cell? ⟨rb, 3, none⟩ = some (.bool false) := cell_block HX8.out 3
  have g3 := free_block HX8.out 3
  have r4 : W5.cell? ⟨rb, 4, none⟩ = some (.bool false) := cell_block HX8.out 4
  have g4 := free_block HX8.out 4
  have r5 : W5.cell? ⟨rb, 5, none⟩ = some (.int .i64 0) := cell_block HX8.out 5
  have g5 := free_block HX8.out 5
  have r6 : W5.cell? ⟨rb, 6, none⟩ = some (.int .i64 0) := cell_block HX8.out 6
  have g6 := free_block HX8.out 6
  have r7 : W5.cell? ⟨rb, 7, none⟩ = some (.int .i64 0) := cell_block HX8.out 7
  have g7 := free_block HX8.out 7
  have r8 : W5.cell? ⟨rb, 8, none⟩ = some (.slice none 0 0) := cell_block HX8.out 8
  have g8 := free_block HX8.out 8
  have r9 : W5.cell? ⟨rb, 9, none⟩ = some (.slice none 0 0) := cell_block HX8.out 9
  have g9 := free_block HX8.out 9
  have r10 : W5.cell? ⟨rb, 10, none⟩ = some (.int .i64 0) := cell_block HX8.out 10
  have g10 := free_block HX8.out 10
  have r11 : W5.cell? ⟨rb, 11, none⟩ = some (.int .i64 0) := cell_block HX8.out 11
  have g11 := free_block HX8.out 11
  have lgd := (Array.getElem?_eq_some_iff.1 HX13.out).1
  have lrb := (Array.getElem?_eq_some_iff.1 HX8.out).1
  go_cut [9, 10] from 13 (fun s9 s10 wx => s9 = .int .i64 wz ∧ s10 = .int .i64 0 ∧ Hid (wx.heap[rb]? = some (.cells #[.slice (some ⟨gr, 0, none⟩) 8 dr, .int .i64 mz.pc, .int .i64 mz.back, .bool mz.ints, .bool mz.wait, .int .i64 mz.table, .int .i64 mz.count, .int .i64 mz.fin, .slice (some ⟨mb, 0, none⟩) 256 dm, .slice az mz.out.length dz, .int .i64 mz.ready, .int .i64 mz.want] 24 (0, 0)) ∧ SInv w rb mz (.slice (some ⟨gr, 0, none⟩) 8 dr) (.slice (some ⟨mb, 0, none⟩) 256 dm) (.slice az mz.out.length dz) wx))
  case first =>
    go_wp2_with fail
    go_meet
    case rel =>
    have b0 := HX8.out
    have b1 : (W5.setCell ⟨rb, 0, none⟩ (.slice (some ⟨gr, 0, none⟩) 8 dr)).heap[rb]? = some (.cells #[.slice (some ⟨gr, 0, none⟩) 8 dr, .int .i64 0, .int .i64 0, .bool false, .bool false, .int .i64 0, .int .i64 0, .int .i64 0, .slice none 0 0, .slice none 0 0, .int .i64 0, .int .i64 0] 24 (0, 0)) := set_block b0 _
    have b2 : ((W5.setCell ⟨rb, 0, none⟩ (.slice (some ⟨gr, 0, none⟩) 8 dr)).setCell ⟨rb, 1, none⟩ (.int .i64 mz.pc)).heap[rb]? = some (.cells #[.slice (some ⟨gr, 0, none⟩) 8 dr, .int .i64 mz.pc, .int .i64 0, .bool false, .bool false, .int .i64 0, .int .i64 0, .int .i64 0, .slice none 0 0, .slice none 0 0, .int .i64 0, .int .i64 0] 24 (0, 0)) := set_block b1 _
    have b3 : (((W5.setCell ⟨rb, 0, none⟩ (.slice (some ⟨gr, 0, none⟩) 8 dr)).setCell ⟨rb, 1, none⟩ (.int .i64 mz.pc)).setCell ⟨rb, 2, none⟩ (.int .i64 mz.back)).heap[rb]? = some (.cells #[.slice (some ⟨gr, 0, none⟩) 8 dr, .int .i64 mz.pc, .int .i64 mz.back, .bool false, .bool false, .int .i64 0, .int .i64 0, .int .i64 0, .slice none 0 0, .slice none 0 0, .int .i64 0, .int .i64 0] 24 (0, 0)) := set_block b2 _
    have b4 : ((((W5.setCell ⟨rb, 0, none⟩ (.slice (some ⟨gr, 0, none⟩) 8 dr)).setCell ⟨rb, 1, none⟩ (.int .i64 mz.pc)).setCell ⟨rb, 2, none⟩ (.int .i64 mz.back)).setCell ⟨rb, 3, none⟩ (.bool mz.ints)).heap[rb]? = some (.cells #[.slice (some ⟨gr, 0, none⟩) 8 dr, .int .i64 mz.pc, .int .i64 mz.back, .bool mz.ints, .bool false, .int .i64 0, .int .i64 0, .int .i64 0, .slice none 0 0, .slice none 0 0, .int .i64 0, .int .i64 0] 24 (0, 0)) := set_block b3 _
    have b5 : (((((W5.setCell ⟨rb, 0, none⟩ (.slice (some ⟨gr, 0, none⟩) 8 dr)).setCell ⟨rb, 1, none⟩ (.int .i64 mz.pc)).setCell ⟨rb, 2, none⟩ (.int .i64 mz.back)).setCell ⟨rb, 3, none⟩ (.bool mz.ints)).setCell ⟨rb, 4, none⟩ (.bool mz.wait)).heap[rb]? = some (.cells #[.slice (some ⟨gr, 0, none⟩) 8 dr, .int .i64 mz.pc, .int .i64 mz.back, .bool mz.ints, .bool mz.wait, .int .i64 0, .int .i64 0, .int .i64 0, .slice none 0 0, .slice none 0 0, .int .i64 0, .int .i64 0] 24 (0, 0)) := set_block b4 _
    have b6 : ((((((W5.setCell ⟨rb, 0, none⟩ (.slice (some ⟨gr, 0, none⟩) 8 dr)).setCell ⟨rb, 1, none⟩ (.int .i64 mz.pc)).setCell ⟨rb, 2, none⟩ (.int .i64 mz.back)).setCell ⟨rb, 3, none⟩ (.bool mz.ints)).setCell ⟨rb, 4, none⟩ (.bool mz.wait)).setCell ⟨rb, 5, none⟩ (.int .i64 mz.table)).heap[rb]? = some (.cells #[.slice (some ⟨gr, 0, none⟩) 8 dr, .int .i64 mz.pc, .int .i64 mz.back, .bool mz.ints, .bool mz.wait, .int .i64 mz.table, .int .i64 0, .int .i64 0, .slice none 0 0, .slice none 0 0, .int .i64 0, .int .i64 0] 24 (0, 0)) := set_block b5 _
    have b7 : (((((((W5.setCell ⟨rb, 0, none⟩ (.slice (some ⟨gr, 0, none⟩) 8 dr)).setCell ⟨rb, 1, none⟩ (.int .i64 mz.pc)).setCell ⟨rb, 2, none⟩ (.int .i64 mz.back)).setCell ⟨rb, 3, none⟩ (.bool mz.ints)).setCell ⟨rb, 4, none⟩ (.bool mz.wait)).setCell ⟨rb, 5, none⟩ (.int .i64 mz.table)).setCell ⟨rb, 6, none⟩ (.int .i64 mz.count)).heap[rb]? = some (.cells #[.slice (some ⟨gr, 0, none⟩) 8 dr, .int .i64 mz.pc, .int .i64 mz.back, .bool mz.ints, .bool mz.wait, .int .i64 mz.table, .int .i64 mz.count, .int .i64 0, .slice none 0 0, .slice none 0 0, .int .i64 0, .int .i64 0] 24 (0, 0)) := set_block b6 _
    have b8 : ((((((((W5.setCell ⟨rb, 0, none⟩ (.slice (some ⟨gr, 0, none⟩) 8 dr)).setCell ⟨rb, 1, none⟩ (.int .i64 mz.pc)).setCell ⟨rb, 2, none⟩ (.int .i64 mz.back)).setCell ⟨rb, 3, none⟩ (.bool mz.ints)).setCell ⟨rb, 4, none⟩ (.bool mz.wait)).setCell ⟨rb, 5, none⟩ (.int .i64 mz.table)).setCell ⟨rb, 6, none⟩ (.int .i64 mz.count)).setCell ⟨rb, 7, none⟩ (.int .i64 mz.fin)).heap[rb]? = some (.cells #[.slice (some ⟨gr, 0, none⟩) 8 dr, .int .i64 mz.pc, .int .i64 mz.back, .bool mz.ints, .bool mz.wait, .int .i64 mz.table, .int .i64 mz.count, .int .i64 mz.fin, .slice none 0 0, .slice none 0 0, .int .i64 0, .int .i64 0] 24 (0, 0)) := set_block b7 _
    have b9 : (((((((((W5.setCell ⟨rb, 0, none⟩ (.slice (some ⟨gr, 0, none⟩) 8 dr)).setCell ⟨rb, 1, none⟩ (.int .i64 mz.pc)).setCell ⟨rb, 2, none⟩ (.int .i64 mz.back)).setCell ⟨rb, 3, none⟩ (.bool mz.ints)).setCell ⟨rb, 4, none⟩ (.bool mz.wait)).setCell ⟨rb, 5, none⟩ (.int .i64 mz.table)).setCell ⟨rb, 6, none⟩ (.int .i64 mz.count)).setCell ⟨rb, 7, none⟩ (.int .i64 mz.fin)).setCell ⟨rb, 8, none⟩ (.slice (some ⟨mb, 0, none⟩) 256 dm)).heap[rb]? = some (.cells #[.slice (some ⟨gr, 0, none⟩) 8 dr, .int .i64 mz.pc, .int .i64 mz.back, .bool mz.ints, .bool mz.wait, .int .i64 mz.table, .int .i64 mz.count, .int .i64 mz.fin, .slice (some ⟨mb, 0, none⟩) 256 dm, .slice none 0 0, .int .i64 0, .int .i64 0] 24 (0, 0)) := set_block b8 _
    have b10 : ((((((((((W5.setCell ⟨rb, 0, none⟩ (.slice (some ⟨gr, 0, none⟩) 8 dr)).setCell ⟨rb, 1, none⟩ (.int .i64 mz.pc)).setCell ⟨rb, 2, none⟩ (.int .i64 mz.back)).setCell ⟨rb, 3, none⟩ (.bool mz.ints)).setCell ⟨rb, 4, none⟩ (.bool mz.wait)).setCell ⟨rb, 5, none⟩ (.int .i64 mz.table)).setCell ⟨rb, 6, none⟩ (.int .i64 mz.count)).setCell ⟨rb, 7, none⟩ (.int .i64 mz.fin)).setCell ⟨rb, 8, none⟩ (.slice (some ⟨mb, 0, none⟩) 256 dm)).setCell ⟨rb, 9, none⟩ (.slice az mz.out.length dz)).heap[rb]? = some (.cells #[.slice (some ⟨gr, 0, none⟩) 8 dr, .int .i64 mz.pc, .int .i64 mz.back, .bool mz.ints, .bool mz.wait, .int .i64 mz.table, .int .i64 mz.count, .int .i64 mz.fin, .slice (some ⟨mb, 0, none⟩) 256 dm, .slice az mz.out.length dz, .int .i64 0, .int .i64 0] 24 (0, 0)) := set_block b9 _
    have b11 : (((((((((((W5.setCell ⟨rb, 0, none⟩ (.slice (some ⟨gr, 0, none⟩) 8 dr)).setCell ⟨rb, 1, none⟩ (.int .i64 mz.pc)).setCell ⟨rb, 2, none⟩ (.int .i64 mz.back)).setCell ⟨rb, 3, none⟩ (.bool mz.ints)).setCell ⟨rb, 4, none⟩ (.bool mz.wait)).setCell ⟨rb, 5, none⟩ (.int .i64 mz.table)).setCell ⟨rb, 6, none⟩ (.int .i64 mz.count)).setCell ⟨rb, 7, none⟩ (.int .i64 mz.fin)).setCell ⟨rb, 8, none⟩ (.slice (some ⟨mb, 0, none⟩) 256 dm)).setCell ⟨rb, 9, none⟩ (.slice az mz.out.length dz)).setCell ⟨rb, 10, none⟩ (.int .i64 mz.ready)).heap[rb]? = some (.cells #[.slice (some ⟨gr, 0, none⟩) 8 dr, .int .i64 mz.pc, .int .i64 mz.back, .bool mz.ints, .bool mz.wait, .int .i64 mz.table, .int .i64 mz.count, .int .i64 mz.fin, .slice (some ⟨mb, 0, none⟩) 256 dm, .slice az mz.out.length dz, .int .i64 mz.ready, .int .i64 0] 24 (0, 0)) := set_block b10 _
    have b12 : ((((((((((((W5.setCell ⟨rb, 0, none⟩ (.slice (some ⟨gr, 0, none⟩) 8 dr)).setCell ⟨rb, 1, none⟩ (.int .i64 mz.pc)).setCell ⟨rb, 2, none⟩ (.int .i64 mz.back)).setCell ⟨rb, 3, none⟩ (.bool mz.ints)).setCell ⟨rb, 4, none⟩ (.bool mz.wait)).setCell ⟨rb, 5, none⟩ (.int .i64 mz.table)).setCell ⟨rb, 6, none⟩ (.int .i64 mz.count)).setCell ⟨rb, 7, none⟩ (.int .i64 mz.fin)).setCell ⟨rb, 8, none⟩ (.slice (some ⟨mb, 0, none⟩) 256 dm)).setCell ⟨rb, 9, none⟩ (.slice az mz.out.length dz)).setCell ⟨rb, 10, none⟩ (.int .i64 mz.ready)).setCell ⟨rb, 11, none⟩ (.int .i64 mz.want)).heap[rb]? = some (.cells #[.slice (some ⟨gr, 0, none⟩) 8 dr, .int .i64 mz.pc, .int .i64 mz.back, .bool mz.ints, .bool mz.wait, .int .i64 mz.table, .int .i64 mz.count, .int .i64 mz.fin, .slice (some ⟨mb, 0, none⟩) 256 dm, .slice az mz.out.length dz, .int .i64 mz.ready, .int .i64 mz.want] 24 (0, 0)) := set_block b11 _
    refine ⟨rfl, rfl, Lib.hid ⟨b12, ?_⟩⟩
    repeat' (refine SInv.step HW1.out _ _ ?_)
    exact HO4.out
  case rest =>
  obtain ⟨rfl, rfl, HF⟩ := hcut
  clear p0 p1 p2 p3 p4 p5 p6 p7 p8 p9 p10 p11 r0 r1 r2 r3 r4 r5 r6 r7 r8 r9 r10 r11 g0 g1 g2 g3 g4 g5 g6 g7 g8 g9 g10 g11 lgd lrb
  have q0 : wc.cell? ⟨rb, 0, none⟩ = some (.slice (some ⟨gr, 0, none⟩) 8 dr) := cell_block HF.out.1 0
  have q1 : wc.cell? ⟨rb, 1, none⟩ = some (.int .i64 mz.pc) := cell_block HF.out.1 1
  have q2 : wc.cell? ⟨rb, 2, none⟩ = some (.int .i64 mz.back) := cell_block HF.out.1 2
  have q3 : wc.cell? ⟨rb, 3, none⟩ = some (.bool mz.ints) := cell_block HF.out.1 3
  have q4 : wc.cell? ⟨rb, 4, none⟩ = some (.bool mz.wait) := cell_block HF.out.1 4
  have q5 : wc.cell? ⟨rb, 5, none⟩ = some (.int .i64 mz.table) := cell_block HF.out.1 5
  have q6 : wc.cell? ⟨rb, 6, none⟩ = some (.int .i64 mz.count) := cell_block HF.out.1 6
  have q7 : wc.cell? ⟨rb, 7, none⟩ = some (.int .i64 mz.fin) := cell_block HF.out.1 7
  have q8 : wc.cell? ⟨rb, 8, none⟩ = some (.slice (some ⟨mb, 0, none⟩) 256 dm) := cell_block HF.out.1 8
  have q9 : wc.cell? ⟨rb, 9, none⟩ = some (.slice az mz.out.length dz) := cell_block HF.out.1 9
  have q10 : wc.cell? ⟨rb, 10, none⟩ = some (.int .i64 mz.ready) := cell_block HF.out.1 10
  have q11 : wc.cell? ⟨rb, 11, none⟩ = some (.int .i64 mz.want) := cell_block HF.out.1 11
  go_wp2_with fail
  refine bodyPost_ret (v := .tuple #[.agg #[.slice (some ⟨gr, 0, none⟩) 8 dr, .int .i64 mz.pc, .int .i64 mz.back, .bool mz.ints, .bool mz.wait, .int .i64 mz.table, .int .i64 mz.count, .int .i64 mz.fin, .slice (some ⟨mb, 0, none⟩) 256 dm, .slice az mz.out.length dz, .int .i64 mz.ready, .int .i64 mz.want], .int .i64 wz, .int .i64 0]) (by simp [results, Try.results6, go_sem, q0, q1, q2, q3, q4, q5, q6, q7, q8, q9, q10, q11]) rfl ?_
  exact StepPost.yes HPOST.out HOKS.out HF.out.2
end Go.Proofs.Ytbenfbfbohecmaa
