/- The contract of cpu.Step, at arguments that it takes. No condition beyond the readings. -/
import Derived.Test.YtilcnlmapifdgaaDoorYSp
import Derived.Test.YtilcnlmapifdgaaDoorYSu
namespace Go.Proofs.YtilcnlmapifdgaaDoor
open Go Go.RowKit Go.ChangeShapes Go.WideShapes Go.Deep
set_option linter.unusedVariables false
attribute [local go_sem ↓] Go.wp_at_zero Go.wp_at_succ

theorem StepPost.yes {m : Mach} {irq : Bool} {b : List Int} {value : Int} {mz : Mach} {wz : Int} {w w' : World} {g gr dr mb dm : Nat} {az : Option Addr} {dz : Nat} (h : StepR m irq b value mz wz 0) (hok : MOk mz) (hr : SInv w g mz (.slice (some ⟨gr, 0, none⟩) 8 dr) (.slice (some ⟨mb, 0, none⟩) 256 dm) (.slice az mz.out.length dz) w') : StepPost m irq b value w (.returned (.tuple #[.agg #[.slice (some ⟨gr, 0, none⟩) 8 dr, .int .i64 mz.pc, .int .i64 mz.back, .bool mz.ints, .bool mz.wait, .int .i64 mz.table, .int .i64 mz.count, .int .i64 mz.fin, .slice (some ⟨mb, 0, none⟩) 256 dm, .slice az mz.out.length dz, .int .i64 mz.ready, .int .i64 mz.want], .int .i64 wz, .int .i64 0])) w' := by
  have hmr := hok.regs
  have hmm := hok.mem
  refine ⟨mz, wz, 0, some ⟨gr, 0, none⟩, dr, some ⟨mb, 0, none⟩, dm, az, dz, h, ?_, ?_, hr.below⟩
  · unfold Mach.agg; rw [hmr, hmm]
  · have q := hr.own
    exact ⟨by rw [hmr]; have := q.hr; rw [hmr] at this; exact this, by rw [hmm]; have := q.hm; rw [hmm] at this; exact this, q.ho, by rw [hmr, hmm]; exact q.rm, by rw [hmr]; exact q.ro, by rw [hmm]; exact q.mo, by rw [hmr, hmm]; exact q.mr, by rw [hmr]; exact q.or, by rw [hmm]; exact q.om⟩

set_option maxHeartbeats 8000000 in
set_option maxRecDepth 100000 in
theorem step_ok (m : Mach) (ar am ao : Option Addr) (cr cm co : Nat) (irq : Bool) (ba : Option Addr) (b : List Int) (bc : Nat) (value : Int) (w : World)
    (hr : Ints w.heap.size w (.slice ar m.regs.length cr) m.regs) (hm : Ints w.heap.size w (.slice am m.mem.length cm) m.mem) (ho : Ints w.heap.size w (.slice ao m.out.length co) m.out) (hb : Ints w.heap.size w (.slice ba b.length bc) b) (hv : I64 value)
    (hok : MOk m) (hl : b.length = 0 ∨ b.length = 16) (hgood : ¬ (oddB value = true ∨ b.any oddB = true ∨ m.count = 1099511627776)) : Calls Tryd.prog 30 #[.agg #[.slice ar m.regs.length cr, .int .i64 m.pc, .int .i64 m.back, .bool m.ints, .bool m.wait, .int .i64 m.table, .int .i64 m.count, .int .i64 m.fin, .slice am m.mem.length cm, .slice ao m.out.length co, .int .i64 m.ready, .int .i64 m.want], .bool irq, .slice ba b.length bc, .int .i64 value] w (StepPost m irq b value w) := by
  have HPOST := Lib.hid (show StepR m irq b value (stepM m irq b value).1 (stepM m irq b value).2 0 from Or.inr (Or.inr (Or.inr ⟨hok, hl, hgood, rfl, rfl, rfl⟩)))
  have hov : oddB value = false := by cases h : oddB value with
    | false => rfl
    | true => exact absurd (Or.inl h) hgood
  have hob : b.any oddB = false := by cases h : b.any oddB with
    | false => rfl
    | true => exact absurd (Or.inr (Or.inl h)) hgood
  have HCN := Lib.hid (fun h : m.count = 1099511627776 => hgood (Or.inr (Or.inr h)))
  have hcn : (m.count == 1099511627776) = false := by rw [beq_eq_false_iff_ne]; exact HCN.out
  have HWV : Hid (WordZ value) := Lib.hid (odd_iff hov)
  have HWB : Hid (∀ z ∈ b, WordZ z) := Lib.hid (words_of hob)
  have HR := Lib.hid hr
  have HM := Lib.hid hm
  have HO := Lib.hid ho
  have HB := Lib.hid hb
  have HN := Lib.hid hok
  have HL := Lib.hid hl
  have HS := Lib.hid (fun w => sodd_is value w hv.1 hv.2)
  rw [hov] at HS
  have HOB := Lib.hid hob
  have hbl := hb.len
  clear hr hm ho hb hok hv hgood hov hob hl
  go_enter Tryd.func30, Tryd.ntmps30
  go_wp2_with fail
  refine (mcheck_any m ar am ao cr cm co _ (HR.out.to (by simp; omega) (same_below (below_alloc2 _ _ _))) (HM.out.to (by simp; omega) (same_below (below_alloc2 _ _ _))) (HO.out.to (by simp; omega) (same_below (below_alloc2 _ _ _)))).mono ?_
  rintro e w1 ⟨he | he, hb1⟩
  rotate_left
  · exact absurd HN.out he.1
  · obtain ⟨-, rfl⟩ := he
    have hx := block_below hb1 (g := w.heap.size + 1) (alloc_at (by simp)) (by simp)
    have hy := block_below hb1 (g := w.heap.size) ((alloc_lt (by simp)).trans (alloc_at rfl)) (by simp; omega)
    have q0 : w1.cell? ⟨w.heap.size, 0, none⟩ = some (.slice ar m.regs.length cr) := cell_block hy 0
    have q1 : w1.cell? ⟨w.heap.size, 1, none⟩ = some (.int .i64 m.pc) := cell_block hy 1
    have q2 : w1.cell? ⟨w.heap.size, 2, none⟩ = some (.int .i64 m.back) := cell_block hy 2
    have q3 : w1.cell? ⟨w.heap.size, 3, none⟩ = some (.bool m.ints) := cell_block hy 3
    have q4 : w1.cell? ⟨w.heap.size, 4, none⟩ = some (.bool m.wait) := cell_block hy 4
    have q5 : w1.cell? ⟨w.heap.size, 5, none⟩ = some (.int .i64 m.table) := cell_block hy 5
    have q6 : w1.cell? ⟨w.heap.size, 6, none⟩ = some (.int .i64 m.count) := cell_block hy 6
    have q7 : w1.cell? ⟨w.heap.size, 7, none⟩ = some (.int .i64 m.fin) := cell_block hy 7
    have q8 : w1.cell? ⟨w.heap.size, 8, none⟩ = some (.slice am m.mem.length cm) := cell_block hy 8
    have q9 : w1.cell? ⟨w.heap.size, 9, none⟩ = some (.slice ao m.out.length co) := cell_block hy 9
    have q10 : w1.cell? ⟨w.heap.size, 10, none⟩ = some (.int .i64 m.ready) := cell_block hy 10
    have q11 : w1.cell? ⟨w.heap.size, 11, none⟩ = some (.int .i64 m.want) := cell_block hy 11
    have lt1 : w.heap.size + 1 < w1.heap.size := by have := hb1.size; simp at this; omega
    have HB1 := Lib.hid (show Below w.heap.size w w1 from (below_alloc2 w _ _).trans (hb1.mono (by simp; omega)))
    have HX := Lib.hid hx
    clear hx hy hb1
    have HI := Lib.hid (show Ints w1.heap.size w1 (.slice ba b.length bc) b from HB.out.to (by omega) (same_below HB1.out))
    have HCT := Lib.hid (fun w' (h : w' = w1) => (by subst h; exact scont_or _ b _ HI.out : Calls Tryd.prog 54 #[.slice ba b.length bc, .func (.func 61) #[] #[]] w' (ContOr b w')))
    go_upto_region 5 with fail
    go_cut [28] from 15 (fun s28 wx => s28 = .bool false ∧ wx = w1)
    case first =>
      have hl2 : (b.length : Int) = 0 ∨ (b.length : Int) = 16 := by have := HL.out; omega
      rcases hl2 with hl2 | hl2
      all_goals (go_wp2; go_meet)
      all_goals (case rel => exact ⟨rfl, rfl⟩)
    case rest =>
      obtain ⟨rfl, hwc⟩ := hcut
      rw [hwc]
      clear hwc
      go_upto_region 10 with (first
        | (go_at_fn 61; refine (HS.out _).mono ?_; rintro e w' ⟨rfl, rfl⟩)
        | (go_at_call 61; refine (HS.out _).mono ?_; rintro e w' ⟨rfl, rfl⟩)
        | (go_at_call 54; (with_reducible refine (HCT.out _ ?_).mono ?_); exact rfl; rintro e w2 (⟨rfl, ha, n1, rfl⟩ | ⟨rfl, ha, n1, rfl⟩); exact absurd ha.out (by rw [HOB.out]; decide))
        | (go_at_call 62; refine (mcopy_any m ar am ao cr cm co _ ?_ ?_ ?_).mono ?_; (exact HR.out.to (Nat.le_of_lt (Nat.lt_of_succ_lt lt1)) (same_below (below_drewN HB1.out n1))); (exact HM.out.to (Nat.le_of_lt (Nat.lt_of_succ_lt lt1)) (same_below (below_drewN HB1.out n1))); (exact HO.out.to (Nat.le_of_lt (Nat.lt_of_succ_lt lt1)) (same_below (below_drewN HB1.out n1))); rintro e w3 ⟨br, dr, bm, dm, bo, d0, he, hown, hb3⟩; rw [Mach.agg, HN.out.regs, HN.out.mem] at he; subst he; obtain ⟨gr, mb, rfl, rfl, hg⟩ := gst_start HN.out hown hb3; have HG := Lib.hid hg; clear hown hg))
      have hg := HG.out
      generalize hW4 : w3.alloc _ = w4 at *
      clear hW4
      have k7 : w4.cell? ⟨w3.heap.size, 7, none⟩ = some (.int .i64 m.fin) := cell_block hg.box 7
      have k8 : w4.cell? ⟨w3.heap.size, 8, none⟩ = some (.slice (some ⟨mb, 0, none⟩) 256 dm) := cell_block hg.box 8
      have k4 : w4.cell? ⟨w3.heap.size, 4, none⟩ = some (.bool m.wait) := cell_block hg.box 4
      have f4 := free_block hg.box 4
      have HB3 := Lib.hid hb3
      clear hb3 hg q0 q1 q2 q3 q4 q5 q6 q7 q8 q9 q10 q11 HCT HS
      go_upto_region 11 with fail
      go_cut [61] from 15 (fun s61 wx => s61 = .bool (decide (m.fin = 0 ∧ irq = true)) ∧ wx = w4)
      case first =>
        by_cases hf : m.fin = 0
        · have HF := Lib.hid hf
          rw [hf] at k7
          clear hf
          cases irq with
          | true =>
            have HD := Lib.hid (show decide (m.fin = 0 ∧ true = true) = true from decide_eq_true ⟨HF.out, rfl⟩)
            go_wp2
            go_meet
            case rel => exact ⟨by rw [HD.out], rfl⟩
          | false =>
            have HD := Lib.hid (show decide (m.fin = 0 ∧ false = true) = false from decide_eq_false (fun h => Bool.noConfusion h.2))
            go_wp2
            go_meet
            case rel => exact ⟨by rw [HD.out], rfl⟩
        · have HD := Lib.hid (show decide (m.fin = 0 ∧ irq = true) = false from decide_eq_false (fun h => hf h.1))
          have hfb : (m.fin == 0) = false := by rw [beq_eq_false_iff_ne]; exact hf
          clear hf
          go_wp2
          go_meet
          case rel => exact ⟨by rw [HD.out], rfl⟩
      case rest =>
        obtain ⟨rfl, hwc⟩ := hcut
        rw [hwc]
        clear hwc
        go_upto_if 61 with fail
        go_cut [] from 15 (fun wx => Hid (GS (FlatSt mb dm) (w1.drewN n1) (fun _ => False) w3.heap.size gr dr (.slice (some ⟨mb, 0, none⟩) 256 dm) (irqM m irq) 0 false wx))
        case first =>
          by_cases hq : m.fin = 0 ∧ irq = true
          · have hd : decide (m.fin = 0 ∧ irq = true) = true := decide_eq_true hq
            have HQ : Hid (irqM m irq = { m with wait := true }) := Lib.hid (by unfold irqM; rw [if_pos hq])
            rw [hd]
            clear hd hq
            go_wp2
            go_meet
            case rel => exact Lib.hid (by rw [HQ.out]; exact (HG.out.put (flat_is mb dm) 4 (.bool true) { m with wait := true } 0 rfl rfl rfl rfl).gs)
          · have hd : decide (m.fin = 0 ∧ irq = true) = false := decide_eq_false hq
            have HQ : Hid (irqM m irq = m) := Lib.hid (by unfold irqM; rw [if_neg hq])
            rw [hd]
            clear hd hq
            go_wp2
            go_meet
            case rel => exact Lib.hid (by rw [HQ.out]; exact HG.out.gs)
        case rest =>
          have HG1 := Lib.hid hcut.out
          clear k7 k8 k4 f4 HG
          go_upto_if 68 with fail
          go_cut [] from 15 (fun wx => Hid (GS (FlatSt mb dm) (w1.drewN n1) (fun _ => False) w3.heap.size gr dr (.slice (some ⟨mb, 0, none⟩) 256 dm) (blockM (irqM m irq) b) 0 false wx))
          case first =>
            by_cases hz : b.length = 0
            · have HQ : Hid (blockM (irqM m irq) b = irqM m irq) := Lib.hid (by unfold blockM; rw [if_pos hz])
              have hd : decide ((0 : Int) < (b.length : Int)) = false := decide_eq_false (by omega)
              have hzi : (b.length : Int) = 0 := by omega
              go_wp2
              go_meet
              case rel => exact Lib.hid (by rw [HQ.out]; exact HG1.out)
            · have HQ : Hid (blockM (irqM m irq) b = comesM (irqM m irq) b) := Lib.hid (by unfold blockM; rw [if_neg hz])
              have hd : (0 : Int) < (b.length : Int) := by omega
              have hb16 : b.length = 16 := HL.out.resolve_left hz
              have HCO := Lib.hid (fun w' (h : GS (FlatSt mb dm) (w1.drewN n1) (fun _ => False) w3.heap.size gr dr (.slice (some ⟨mb, 0, none⟩) 256 dm) (irqM m irq) 0 false w') => (by
                obtain ⟨a1, c1, F1, h1⟩ := h
                exact comes_any (flat_is mb dm) h1 (HN.out.irq irq) w.heap.size _ b hb16 HWB.out (fun w' ho => HB.out.to (Nat.le_refl _) (same_below ((below_drewN HB1.out n1).trans (ho.below (B := w.heap.size) (fun g hg => hg.elim) (by have := HB1.out.size; exact this))))) : Calls Tryd.prog 63 #[.pointer (some ⟨w3.heap.size, 0, none⟩), .iface 116 (.slice (some ⟨mb, 0, none⟩) 256 dm), .slice ba b.length bc] w' (ComesPost (FlatSt mb dm) (w1.drewN n1) (fun _ => False) w3.heap.size gr dr (.slice (some ⟨mb, 0, none⟩) 256 dm) (irqM m irq) 0 false (comesM (irqM m irq) b))))
              clear hz hb16
              go_wp2_with (go_at_call 63; (with_reducible refine (HCO.out _ ?_).mono ?_); exact HG1.out; rintro e w5 ⟨m5, x5, rfl, hg5, hm5, -, hor⟩; have HG5 : Hid (GS (FlatSt mb dm) (w1.drewN n1) (fun _ => False) w3.heap.size gr dr (.slice (some ⟨mb, 0, none⟩) 256 dm) (comesM (irqM m irq) b) 0 false w5) := (Lib.hid (by have hx5 := flat_x hg5; subst hx5; rcases hor with ⟨-, rfl⟩ | h; exact hg5; cases h)); clear hg5 hm5 hor)
              go_meet
              case rel => exact Lib.hid (by rw [HQ.out]; exact HG5.out)
          case rest =>
            have HG2 := Lib.hid hcut.out
            have HEN := Lib.hid (fun w' (h : GS (FlatSt mb dm) (w1.drewN n1) (fun _ => False) w3.heap.size gr dr (.slice (some ⟨mb, 0, none⟩) 256 dm) (blockM (irqM m irq) b) 0 false w') => (by
              obtain ⟨a1, c1, F1, h1⟩ := h
              exact enter_any (flat_is mb dm) h1 : Calls Tryd.prog 40 #[.pointer (some ⟨w3.heap.size, 0, none⟩)] w' (fun e w'' => e = .returned (.tuple #[]) ∧ GS (FlatSt mb dm) (w1.drewN n1) (fun _ => False) w3.heap.size gr dr (.slice (some ⟨mb, 0, none⟩) 256 dm) (enterM (blockM (irqM m irq) b)) 0 false w'')))
            have HMK : Hid (MOk (enterM (blockM (irqM m irq) b))) := Lib.hid ((HN.out.irq irq).block HL.out HWB.out).enter
            have HCT : Hid ((enterM (blockM (irqM m irq) b)).count < 1099511627776) := Lib.hid (by
              have e : (enterM (blockM (irqM m irq) b)).count = m.count := by
                unfold enterM blockM comesM irqM
                repeat' split
                all_goals rfl
              have h1 := HN.out.count
              have h2 : ¬ m.count = 1099511627776 := HCN.out
              rw [e]; omega)
            have HEX := Lib.hid (fun w' (h : GS (FlatSt mb dm) (w1.drewN n1) (fun _ => False) w3.heap.size gr dr (.slice (some ⟨mb, 0, none⟩) 256 dm) (enterM (blockM (irqM m irq) b)) 0 false w') => (by
              obtain ⟨a1, c1, F1, h1⟩ := h
              exact exec_any (flat_is mb dm) h1 HMK.out HCT.out value HWV.out : Calls Tryd.prog 44 #[.pointer (some ⟨w3.heap.size, 0, none⟩), .iface 116 (.slice (some ⟨mb, 0, none⟩) 256 dm), .int .i64 value] w' (ExecPost (FlatSt mb dm) (w1.drewN n1) (fun _ => False) w3.heap.size gr dr (.slice (some ⟨mb, 0, none⟩) 256 dm) (enterM (blockM (irqM m irq) b)) false (execM (enterM (blockM (irqM m irq) b)) value))))
            rw [show execM (enterM (blockM (irqM m irq) b)) value = stepM m irq b value from rfl] at HEX
            have HMR : Hid (m.regs.length = 8) := Lib.hid HN.out.regs
            clear HG1
            go_upto_region 17 with (first
              | (go_at_call 40; (with_reducible refine (HEN.out _ ?_).mono ?_); exact HG2.out; rintro e w5 ⟨rfl, hg5⟩; have HG5 := Lib.hid hg5; clear hg5)
              | (go_at_call 44; (with_reducible refine (HEX.out _ ?_).mono ?_); exact HG5.out; rintro e w6 ⟨mz, wz, xz, rfl, hg6, hm6, -, -, hor⟩; have HG6 : Hid (GS (FlatSt mb dm) (w1.drewN n1) (fun _ => False) w3.heap.size gr dr (.slice (some ⟨mb, 0, none⟩) 256 dm) (stepM m irq b value).1 (stepM m irq b value).2 false w6) := (Lib.hid (by have hx6 := flat_x hg6; subst hx6; rcases hor with ⟨-, rfl, rfl⟩ | h; exact hg6; cases h)); have HM6 : Hid (MOk (stepM m irq b value).1) := (Lib.hid (by have hx6 := flat_x hg6; subst hx6; rcases hor with ⟨-, rfl, rfl⟩ | h; exact hm6; cases h)); clear hg6 hm6 hor))
            obtain ⟨az, dz, Fz, hz⟩ := HG6.out
            generalize hmz : (stepM m irq b value).1 = mz at *
            generalize hwz : (stepM m irq b value).2 = wz at *
            have HZ := Lib.hid hz
            have p0 : w6.cell? ⟨w3.heap.size, 0, none⟩ = some (.slice (some ⟨gr, 0, none⟩) 8 dr) := cell_block hz.box 0
            have p1 : w6.cell? ⟨w3.heap.size, 1, none⟩ = some (.int .i64 mz.pc) := cell_block hz.box 1
            have p2 : w6.cell? ⟨w3.heap.size, 2, none⟩ = some (.int .i64 mz.back) := cell_block hz.box 2
            have p3 : w6.cell? ⟨w3.heap.size, 3, none⟩ = some (.bool mz.ints) := cell_block hz.box 3
            have p4 : w6.cell? ⟨w3.heap.size, 4, none⟩ = some (.bool mz.wait) := cell_block hz.box 4
            have p5 : w6.cell? ⟨w3.heap.size, 5, none⟩ = some (.int .i64 mz.table) := cell_block hz.box 5
            have p6 : w6.cell? ⟨w3.heap.size, 6, none⟩ = some (.int .i64 mz.count) := cell_block hz.box 6
            have p7 : w6.cell? ⟨w3.heap.size, 7, none⟩ = some (.int .i64 mz.fin) := cell_block hz.box 7
            have p8 : w6.cell? ⟨w3.heap.size, 8, none⟩ = some (.slice (some ⟨mb, 0, none⟩) 256 dm) := cell_block hz.box 8
            have p9 : w6.cell? ⟨w3.heap.size, 9, none⟩ = some (.slice az mz.out.length dz) := cell_block hz.box 9
            have p10 : w6.cell? ⟨w3.heap.size, 10, none⟩ = some (.int .i64 mz.ready) := cell_block hz.box 10
            have p11 : w6.cell? ⟨w3.heap.size, 11, none⟩ = some (.int .i64 mz.want) := cell_block hz.box 11
            have p12 : w6.cell? ⟨w3.heap.size, 12, none⟩ = some (.int .i64 wz) := cell_block hz.box 12
            have hx6 := hz.old.at (below_drewN (Below.refl w1.heap.size w1) n1 |>.block _ lt1 |>.trans HX.out) (fun q => q)
            have r0 : w6.cell? ⟨w.heap.size + 1, 0, none⟩ = some (.slice none 0 0) := cell_block hx6 0
            have g0 := free_block hx6 0
            have r1 : w6.cell? ⟨w.heap.size + 1, 1, none⟩ = some (.int .i64 0) := cell_block hx6 1
            have g1 := free_block hx6 1
            have r2 : w6.cell? ⟨w.heap.size + 1, 2, none⟩ = some (.int .i64 0) := cell_block hx6 2
            have g2 := free_block hx6 2
            have r3 : w6.cell? ⟨w.heap.size + 1, 3, none⟩ = some (.bool false) := cell_block hx6 3
            have g3 := free_block hx6 3
            have r4 : w6.cell? ⟨w.heap.size + 1, 4, none⟩ = some (.bool false) := cell_block hx6 4
            have g4 := free_block hx6 4
            have r5 : w6.cell? ⟨w.heap.size + 1, 5, none⟩ = some (.int .i64 0) := cell_block hx6 5
            have g5 := free_block hx6 5
            have r6 : w6.cell? ⟨w.heap.size + 1, 6, none⟩ = some (.int .i64 0) := cell_block hx6 6
            have g6 := free_block hx6 6
            have r7 : w6.cell? ⟨w.heap.size + 1, 7, none⟩ = some (.int .i64 0) := cell_block hx6 7
            have g7 := free_block hx6 7
            have r8 : w6.cell? ⟨w.heap.size + 1, 8, none⟩ = some (.slice none 0 0) := cell_block hx6 8
            have g8 := free_block hx6 8
            have r9 : w6.cell? ⟨w.heap.size + 1, 9, none⟩ = some (.slice none 0 0) := cell_block hx6 9
            have g9 := free_block hx6 9
            have r10 : w6.cell? ⟨w.heap.size + 1, 10, none⟩ = some (.int .i64 0) := cell_block hx6 10
            have g10 := free_block hx6 10
            have r11 : w6.cell? ⟨w.heap.size + 1, 11, none⟩ = some (.int .i64 0) := cell_block hx6 11
            have g11 := free_block hx6 11
            have HX6 := Lib.hid hx6
            clear hz hx6
            go_region
            go_wp2
            refine bodyPost_ret (v := .tuple #[.agg #[.slice (some ⟨gr, 0, none⟩) 8 dr, .int .i64 mz.pc, .int .i64 mz.back, .bool mz.ints, .bool mz.wait, .int .i64 mz.table, .int .i64 mz.count, .int .i64 mz.fin, .slice (some ⟨mb, 0, none⟩) 256 dm, .slice az mz.out.length dz, .int .i64 mz.ready, .int .i64 mz.want], .int .i64 wz, .int .i64 0]) (by simp [results, Tryd.results30, go_sem, r0, r1, r2, r3, r4, r5, r6, r7, r8, r9, r10, r11]) rfl ?_
            clear p0 p1 p2 p3 p4 p5 p6 p7 p8 p9 p10 p11 p12 r0 r1 r2 r3 r4 r5 r6 r7 r8 r9 r10 r11 g0 g1 g2 g3 g4 g5 g6 g7 g8 g9 g10 g11
            have h0 := HZ.out.sinv (w := w) (g := w.heap.size + 1) (fun k q => q) HM6.out (below_drewN HB1.out n1) ⟨_, HX6.out⟩
            have hw1 : w.heap.size ≤ w.heap.size + 1 := Nat.le_succ _
            exact StepPost.yes HPOST.out HM6.out ((((((((((((h0.step hw1 0 (.slice (some ⟨gr, 0, none⟩) 8 dr)).step hw1 1 (.int .i64 mz.pc)).step hw1 2 (.int .i64 mz.back)).step hw1 3 (.bool mz.ints)).step hw1 4 (.bool mz.wait)).step hw1 5 (.int .i64 mz.table)).step hw1 6 (.int .i64 mz.count)).step hw1 7 (.int .i64 mz.fin)).step hw1 8 (.slice (some ⟨mb, 0, none⟩) 256 dm)).step hw1 9 (.slice az mz.out.length dz)).step hw1 10 (.int .i64 mz.ready)).step hw1 11 (.int .i64 mz.want)).drew

theorem step_any (v vb : Value) (m : Mach) (irq : Bool) (b : List Int) (value : Int) (w : World) (hm : MachR w.heap.size w v m) (hb : Ints w.heap.size w vb b) (hv : I64 value) : Calls Tryd.prog 30 #[v, .bool irq, vb, .int .i64 value] w (StepPost m irq b value w) := by
  obtain ⟨ar, cr, am, cm, ao, co, rfl, h1, h2, h3⟩ := hm
  obtain ⟨ba, bc, rfl, hx⟩ := id hb
  by_cases hok : MOk m
  · by_cases hl : b.length = 0 ∨ b.length = 16
    · by_cases hg : oddB value = true ∨ b.any oddB = true ∨ m.count = 1099511627776
      · exact step_ref m ar am ao cr cm co irq ba b bc value w h1 h2 h3 hb hv hok (Or.inr hg)
      · exact step_ok m ar am ao cr cm co irq ba b bc value w h1 h2 h3 hb hv hok hl hg
    · exact step_ref m ar am ao cr cm co irq ba b bc value w h1 h2 h3 hb hv hok (Or.inl hl)
  · exact step_bad m ar am ao cr cm co irq ba b bc value w h1 h2 h3 hb hv hok
end Go.Proofs.YtilcnlmapifdgaaDoor
