/- The document's stepped. No condition beyond the readings. -/
import Derived.Test.YtbenfbfbohecmaaSti
import Derived.Test.YtbenfbfbohecmaaSth
import Derived.Handy
import Derived.StillTailTactics
import Derived.Deep.RegionWith
import Derived.Deep.RegionLaw
import Derived.Deep.CutBlock
import Derived.Deep.CutRange
import Derived.Deep.RegionHeld3
import Derived.Deep.LoopGhost
namespace Go.Proofs.Ytbenfbfbohecmaa
open Go Go.RowKit Go.ChangeShapes Go.WideShapes Go.Deep
set_option linter.unusedVariables false
attribute [local go_sem ↓] Go.wp_at_zero Go.wp_at_succ

set_option maxHeartbeats 8000000 in
set_option maxRecDepth 100000 in
theorem stepped_good (m : Mach) (w0 : World) (D : Nat → Prop) (gr cr mb cm : Nat) (ao : Option Addr) (co : Nat) (irq : Bool) (ba : Option Addr) (b : List Int) (bc : Nat) (value : Int) (w : World) (hz : ZA w0 D gr cr mb cm m ao co w) (hf : m.fin = 0) (hok : MOk m) (hc : m.count < 1099511627776) (hl : b.length = 0 ∨ b.length = 16) (hwb : ∀ z ∈ b, WordZ z) (hv : WordZ value) (hb : ∀ w', OutF D w0 w' → Ints w'.heap.size w' (.slice ba b.length bc) b) (he : (nextZ ({ enterM (blockM (irqM m irq) b) with count := (enterM (blockM (irqM m irq) b)).count + 1 } : Mach)).2 = 0) : Calls Try.prog 20 #[.agg #[.slice (some ⟨gr, 0, none⟩) 8 cr, .int .i64 m.pc, .int .i64 m.back, .bool m.ints, .bool m.wait, .int .i64 m.table, .int .i64 m.count, .int .i64 m.fin, .slice (some ⟨mb, 0, none⟩) 256 cm, .slice ao m.out.length co, .int .i64 m.ready, .int .i64 m.want], .bool irq, .slice ba b.length bc, .int .i64 value] w (ZdPost w0 D gr cr mb cm (stepM m irq b value)) := by
  have HS := Lib.hid hz.start
  have HRB : Hid (D (w.heap.size + 1) ∨ w0.heap.size ≤ w.heap.size + 1) := Lib.hid (Or.inr (by have := hz.old.size; omega))
  have hfb : (m.fin != 0) = false := by rw [hf]; rfl
  have HF0 := Lib.hid hf
  have HBK := Lib.hid hb
  have HST : Hid (stepM m irq b value = execM (enterM (blockM (irqM m irq) b)) value) := Lib.hid rfl
  have HOK1 : Hid (MOk (irqM m irq)) := Lib.hid (hok.irq irq)
  have HF1 : Hid ((irqM m irq).fin = 0) := Lib.hid ((irqM_fin m irq).1.trans hf)
  have HC1 : Hid ((irqM m irq).count < 1099511627776) := Lib.hid (by rw [(irqM_fin m irq).2]; exact hc)
  have HL := Lib.hid hl
  have HWB := Lib.hid hwb
  have HWV := Lib.hid hv
  have HE := Lib.hid he
  clear hz hf hok hc hl hwb hv hb he
  go_enter Try.func20, Try.ntmps20
  go_upto_region 3 with fail
  generalize hW : World.alloc (World.alloc w _) _ = W1 at *
  generalize hrb : w.heap.size + 1 = rb at *
  generalize hbb : w.heap.size = bb at *
  clear hW hrb hbb
  refine st_irq HS HF0.out ?_
  intros
  rename_i wc hcut
  clear HS hfb HF0
  generalize irqM m irq = m1 at *
  obtain ⟨ao, co, hs1⟩ := hcut.out
  have HZ := Lib.hid hs1
  clear hs1 hcut
  go_upto_region 4 with fail
  refine st_t4 HZ ?_
  intros
  go_upto_if 38 with fail
  refine st_b38 HZ HOK1 HF1 HL HBK ?_
  intros
  rename_i wc hcut
  clear HZ
  have HOK2 : Hid (MOk (blockM m1 b)) := Lib.hid (HOK1.out.block HL.out HWB.out)
  have HF2 : Hid ((blockM m1 b).fin = 0) := Lib.hid ((blockM_fin m1 b).1.trans HF1.out)
  have HC2 : Hid ((blockM m1 b).count < 1099511627776) := Lib.hid (by rw [(blockM_fin m1 b).2]; exact HC1.out)
  clear HOK1 HF1 HC1
  generalize blockM m1 b = m2 at *
  obtain ⟨ao, co, hs2⟩ := hcut.out
  have HZ := Lib.hid hs2
  clear hs2 hcut
  go_upto_region 12 with fail
  refine st_t12 HZ ?_
  intros
  go_upto_if 63 with fail
  refine st_e63 HZ HF2 ?_
  intros
  rename_i wc hcut
  clear HZ
  have HOK3 : Hid (MOk (enterM m2)) := Lib.hid HOK2.out.enter
  have HF3 : Hid ((enterM m2).fin = 0) := Lib.hid ((enterM_fin m2).1.trans HF2.out)
  have HC3 : Hid ((enterM m2).count < 1099511627776) := Lib.hid (by rw [(enterM_fin m2).2]; exact HC2.out)
  clear HOK2 HF2 HC2
  generalize enterM m2 = m3 at *
  obtain ⟨ao, co, hs3⟩ := hcut.out
  have HZ := Lib.hid hs3
  clear hs3 hcut
  go_upto_region 17 with fail
  refine st_c17 HZ HC3.out HOK3.out.count.1 ?_
  intros
  rename_i wc hcut
  clear HZ
  have HOK4 : Hid (MOk { m3 with count := m3.count + 1 }) := Lib.hid (by have := HOK3.out.tick HC3.out (e := 0) (by omega) (by omega); rw [← HF3.out] at this; exact this)
  have HF4 : Hid (({ m3 with count := m3.count + 1 } : Mach).fin = 0) := Lib.hid HF3.out
  have HST4 : Hid (stepM m irq b value = ranM { m3 with count := m3.count + 1 } value) := Lib.hid (by rw [HST.out, execM_ran HF3.out])
  clear HOK3 HF3 HC3 HST
  generalize ({ m3 with count := m3.count + 1 } : Mach) = m4 at *
  have HZ := Lib.hid hcut.out
  clear hcut
  have HNX := Lib.hid (fun w' hm => nextof_any m4 (.slice (some ⟨gr, 0, none⟩) 8 cr) (.slice ao m4.out.length co) mb cm w' HOK4.out hm)
  have hzz := HZ.out
  have p0 : wc.cell? ⟨bb, 0, none⟩ = some (.slice (some ⟨gr, 0, none⟩) 8 cr) := cell_block hzz.box 0
  have p1 : wc.cell? ⟨bb, 1, none⟩ = some (.int .i64 m4.pc) := cell_block hzz.box 1
  have p2 : wc.cell? ⟨bb, 2, none⟩ = some (.int .i64 m4.back) := cell_block hzz.box 2
  have p3 : wc.cell? ⟨bb, 3, none⟩ = some (.bool m4.ints) := cell_block hzz.box 3
  have p4 : wc.cell? ⟨bb, 4, none⟩ = some (.bool m4.wait) := cell_block hzz.box 4
  have p5 : wc.cell? ⟨bb, 5, none⟩ = some (.int .i64 m4.table) := cell_block hzz.box 5
  have p6 : wc.cell? ⟨bb, 6, none⟩ = some (.int .i64 m4.count) := cell_block hzz.box 6
  have p7 : wc.cell? ⟨bb, 7, none⟩ = some (.int .i64 m4.fin) := cell_block hzz.box 7
  have p8 : wc.cell? ⟨bb, 8, none⟩ = some (.slice (some ⟨mb, 0, none⟩) 256 cm) := cell_block hzz.box 8
  have p9 : wc.cell? ⟨bb, 9, none⟩ = some (.slice ao m4.out.length co) := cell_block hzz.box 9
  have p10 : wc.cell? ⟨bb, 10, none⟩ = some (.int .i64 m4.ready) := cell_block hzz.box 10
  have p11 : wc.cell? ⟨bb, 11, none⟩ = some (.int .i64 m4.want) := cell_block hzz.box 11
  have lbb := hzz.blt
  clear hzz
  have hdc := nextZ_dec HE.out
  have HR : Hid (ranM m4 value = finM (doM m4 (decOp (nextZ m4).1) (decA (nextZ m4).1) (decB (nextZ m4).1) (decN (nextZ m4).1) value)) := Lib.hid (ranM_yes _ HE.out)
  rw [instV_yes HE.out hdc, HE.out] at HNX
  have HIC : Hid (iCode (decOp (nextZ m4).1) (decA (nextZ m4).1) (decB (nextZ m4).1) (decN (nextZ m4).1) = 0) := Lib.hid hdc
  clear HE hdc
  generalize decOp (nextZ m4).1 = op at *
  generalize decA (nextZ m4).1 = za at *
  generalize decB (nextZ m4).1 = zb at *
  generalize decN (nextZ m4).1 = n at *
  obtain ⟨h0, h1, a0, a1, b0, b1, n0, n1⟩ := iCode_rng HIC.out
  have HSML := Lib.hid (iCode_small HIC.out)
  obtain ⟨a, rfl⟩ := Int.eq_ofNat_of_zero_le a0
  obtain ⟨c, rfl⟩ := Int.eq_ofNat_of_zero_le b0
  have ha : a < 8 := by omega
  have hc8 : c < 8 := by omega
  have ha' : (a : Int) < 8 := by omega
  have hc' : (c : Int) < 8 := by omega
  have HNN := Lib.hid (And.intro n0 n1)
  have HOP := Lib.hid (And.intro h0 h1)
  have hpc := HOK4.out.pc
  clear h0 h1 a0 a1 b0 b1 n0 n1
  go_upto_region 19 with (go_at_call 28; (with_reducible refine (HNX.out _ ?_).mono ?_); exact HZ.out.mem; rintro en w1 ⟨rfl, hb1⟩; have HZ1 := Lib.hid (HZ.out.kept hb1); clear hb1)
  clear p0 p1 p2 p3 p4 p5 p6 p7 p8 p9 p10 p11 lbb HZ
  have HZ := Lib.hid (HZ1.out.alloc (.cells #[.int .i64 op, .int .i64 a, .int .i64 c, .int .i64 n] 51 (0, 0)))
  have hib : (w1.alloc (.cells #[.int .i64 op, .int .i64 a, .int .i64 c, .int .i64 n] 51 (0, 0))).heap[w1.heap.size]? = some (.cells #[.int .i64 op, .int .i64 a, .int .i64 c, .int .i64 n] 51 (0, 0)) := alloc_at rfl
  have l1 := HZ1.out.blt
  have l2 := HZ1.out.rlt
  generalize hW : World.alloc w1 _ = wz at *
  generalize hii : w1.heap.size = ib at *
  have lib : ib < wz.heap.size := (Array.getElem?_eq_some_iff.1 hib).1
  have HNE : Hid (ib ≠ bb ∧ ib ≠ gr) := Lib.hid ⟨by omega, by omega⟩
  have HIB := Lib.hid hib
  clear hW hii HZ1 l1 l2
  have q0 : wz.cell? ⟨ib, 0, none⟩ = some (.int .i64 op) := cell_block hib 0
  have q1 : wz.cell? ⟨ib, 1, none⟩ = some (.int .i64 a) := cell_block hib 1
  have q2 : wz.cell? ⟨ib, 2, none⟩ = some (.int .i64 c) := cell_block hib 2
  have k0 : wz.cell? ⟨bb, 0, none⟩ = some (.slice (some ⟨gr, 0, none⟩) 8 cr) := cell_block HZ.out.box 0
  have k1 : wz.cell? ⟨bb, 1, none⟩ = some (.int .i64 m4.pc) := cell_block HZ.out.box 1
  have ra := HZ.out.reg_at ha
  have rc := HZ.out.reg_at hc8
  have lbb := HZ.out.blt
  have lgr := HZ.out.rlt
  clear hib
  go_upto_block 2 with fail
  clear q0 q1 q2 k0 k1 ra rc lbb lgr lib hpc
  clear HIC
  refine st_sw HZ HOK4 HF4 ha hc8 HNN.out HSML.out HIB.out HNE.out HOP.out ?_
  intros
  rename_i s13 s14 wc hcut
  clear HZ HSML HIB HNE HNN HNX HOP ha hc8 ha' hc'
  obtain ⟨m5, nx, wr, rfl, rfl, HNR, HZS, HRR⟩ := hcut
  have HEND : Hid (stepM m irq b value = finM (doM m4 op a c n value)) := Lib.hid (by rw [HST4.out, HR.out])
  clear HST4 HR
  generalize doM m4 op a c n value = r at *
  obtain ⟨ao, co, hs5⟩ := HZS.out
  have HZ := Lib.hid hs5
  clear hs5 HZS
  have k7 : wc.cell? ⟨bb, 7, none⟩ = some (.int .i64 m5.fin) := cell_block HZ.out.box 7
  have lbb := HZ.out.blt
  go_upto_if 300 with fail
  go_cut [] from 101 (fun wx => ∃ m6 : Mach, Hid (ZSt w0 D rb bb gr cr mb cm m6 ao co wx) ∧ Hid (finM r = (m6, wr)))
  case first =>
    by_cases h5 : m5.fin = 0
    · have HP := Lib.hid (HRR.out.fgo h5)
      have h5b : (m5.fin == 0) = true := by rw [h5]; rfl
      have f1 := free_block HZ.out.box 1
      have k1 : wc.cell? ⟨bb, 1, none⟩ = some (.int .i64 m5.pc) := cell_block HZ.out.box 1
      obtain ⟨nr1, nr2⟩ := HNR.out
      clear h5 HRR k7
      have HFO := Lib.hid (fun w => foldOf_any nx w nr1 nr2)
      go_wp2_with (go_at_call 29; go_loud (refine (HFO.out _).mono ?_); rintro e w' ⟨rfl, rfl⟩)
      go_meet
      case rel => exact ⟨m5.goTo nx, Lib.hid (HZ.out.put 1 (.int .i64 (foldZ nx)) (m5.goTo nx) rfl rfl rfl rfl), HP⟩
    · have HP := Lib.hid (HRR.out.fstop h5)
      have h5b : (m5.fin == 0) = false := by rw [beq_eq_false_iff_ne]; exact h5
      clear h5 HRR k7
      go_wp2
      go_meet
      case rel => exact ⟨m5, HZ, HP⟩
  case rest =>
  obtain ⟨m6, HZ6, HM6⟩ := hcut
  clear k7 lbb HZ HRR HNR
  go_upto_region 84 with fail
  refine st_r84 HZ6 HRB ?_
  intros
  rename_i wx hzr
  have lrb := (Array.getElem?_eq_some_iff.1 hzr.out.1).1
  have q0 : wx.cell? ⟨rb, 0, none⟩ = some (.slice (some ⟨gr, 0, none⟩) 8 cr) := cell_block hzr.out.1 0
  have q1 : wx.cell? ⟨rb, 1, none⟩ = some (.int .i64 m6.pc) := cell_block hzr.out.1 1
  have q2 : wx.cell? ⟨rb, 2, none⟩ = some (.int .i64 m6.back) := cell_block hzr.out.1 2
  have q3 : wx.cell? ⟨rb, 3, none⟩ = some (.bool m6.ints) := cell_block hzr.out.1 3
  have q4 : wx.cell? ⟨rb, 4, none⟩ = some (.bool m6.wait) := cell_block hzr.out.1 4
  have q5 : wx.cell? ⟨rb, 5, none⟩ = some (.int .i64 m6.table) := cell_block hzr.out.1 5
  have q6 : wx.cell? ⟨rb, 6, none⟩ = some (.int .i64 m6.count) := cell_block hzr.out.1 6
  have q7 : wx.cell? ⟨rb, 7, none⟩ = some (.int .i64 m6.fin) := cell_block hzr.out.1 7
  have q8 : wx.cell? ⟨rb, 8, none⟩ = some (.slice (some ⟨mb, 0, none⟩) 256 cm) := cell_block hzr.out.1 8
  have q9 : wx.cell? ⟨rb, 9, none⟩ = some (.slice ao m6.out.length co) := cell_block hzr.out.1 9
  have q10 : wx.cell? ⟨rb, 10, none⟩ = some (.int .i64 m6.ready) := cell_block hzr.out.1 10
  have q11 : wx.cell? ⟨rb, 11, none⟩ = some (.int .i64 m6.want) := cell_block hzr.out.1 11
  go_wp2_with fail
  refine bodyPost_ret (v := .tuple #[.agg #[.slice (some ⟨gr, 0, none⟩) 8 cr, .int .i64 m6.pc, .int .i64 m6.back, .bool m6.ints, .bool m6.wait, .int .i64 m6.table, .int .i64 m6.count, .int .i64 m6.fin, .slice (some ⟨mb, 0, none⟩) 256 cm, .slice ao m6.out.length co, .int .i64 m6.ready, .int .i64 m6.want], .int .i64 wr]) (by simp [results, Try.results20, go_sem, q0, q1, q2, q3, q4, q5, q6, q7, q8, q9, q10, q11]) rfl ?_
  rw [HEND.out, HM6.out]
  exact ⟨ao, co, rfl, hzr.out.2.za⟩

theorem stepped_any (m : Mach) (w0 : World) (D : Nat → Prop) (gr cr mb cm : Nat) (ao : Option Addr) (co : Nat) (irq : Bool) (ba : Option Addr) (b : List Int) (bc : Nat) (value : Int) (w : World) (hz : ZA w0 D gr cr mb cm m ao co w) (hok : MOk m) (hc : m.count < 1099511627776) (hl : b.length = 0 ∨ b.length = 16) (hwb : ∀ z ∈ b, WordZ z) (hv : WordZ value) (hb : ∀ w', OutF D w0 w' → Ints w'.heap.size w' (.slice ba b.length bc) b) : Calls Try.prog 20 #[.agg #[.slice (some ⟨gr, 0, none⟩) 8 cr, .int .i64 m.pc, .int .i64 m.back, .bool m.ints, .bool m.wait, .int .i64 m.table, .int .i64 m.count, .int .i64 m.fin, .slice (some ⟨mb, 0, none⟩) 256 cm, .slice ao m.out.length co, .int .i64 m.ready, .int .i64 m.want], .bool irq, .slice ba b.length bc, .int .i64 value] w (ZdPost w0 D gr cr mb cm (stepM m irq b value)) := by
  by_cases hf : m.fin = 0
  · by_cases he : (nextZ ({ enterM (blockM (irqM m irq) b) with count := (enterM (blockM (irqM m irq) b)).count + 1 } : Mach)).2 = 0
    · exact stepped_good m w0 D gr cr mb cm ao co irq ba b bc value w hz hf hok hc hl hwb hv hb he
    · exact stepped_bad m w0 D gr cr mb cm ao co irq ba b bc value w hz hf hok hc hl hwb hv hb he
  · exact stepped_end m w0 D gr cr mb cm ao co irq ba b bc value w hz hf
end Go.Proofs.Ytbenfbfbohecmaa
