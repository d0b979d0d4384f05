/- The law hourglasskeep.RecordsBegin returns true at all raw things and all numbers, the table laid as the program's text lays it. No further condition. -/
import Derived.Test.YtpdbcdfgonnnnaaDoorRows
import Derived.Test.YtpdbcdfgonnnnaaDoorYMem
import Derived.Test.YtpdbcdfgonnnnaaDoorYFacts
import Derived.WalkKit
import Derived.ProofKit
import Derived.OpenShut
import Derived.ShutString
import Derived.ChangeOld
import Derived.Below
import Derived.Test.YtpdbcdfgonnnnaaDoorYWm
import Derived.Test.YtpdbcdfgonnnnaaDoorYEu
import Derived.Test.YtpdbcdfgonnnnaaDoorYPk
import Derived.Test.YtpdbcdfgonnnnaaDoorYKr
import Derived.Test.YtpdbcdfgonnnnaaDoorTie
import Derived.Test.YtpdbcdfgonnnnaaDoorCards
import Derived.SevenTiedAt
import Derived.Deep.RegionHeld3
import Derived.Deep.RegionLaw
import Derived.Deep.CutBlock
import Derived.Deep.CutRange
import Derived.Deep.LoopGhost
namespace Go.Proofs.YtpdbcdfgonnnnaaDoor.lRecordsBegin
open Go Go.RowKit Go.ChangeShapes Go.WideShapes Go.ChangeAt Go.Deep
set_option maxHeartbeats 8000000
set_option maxRecDepth 100000
open Go.ChangeMaps (open_string shut_string)
set_option linter.unusedVariables false
attribute [local go_sem ↓] Go.wp_at_zero Go.wp_at_succ
theorem walk (W : World) (ht : Tab W) (v1 : Value) (xs : List Rw) (h1 : RawsR W.heap.size W v1 xs) (v2 : Value) (ys : List Rw) (h2 : RawsR W.heap.size W v2 ys) (n : Int) (hn : I64 n) (more : Int) (hm : I64 more) : Calls Tryd.prog 5 #[v1, v2, .int .i64 n, .int .i64 more] W fun e W' => e = .returned (.bool true) ∧ Below W.heap.size W W' := by
 have HT := Lib.hid ht
 have HRT := Lib.hid (runtells_any W ht)
 have HKR := Lib.hid (fun (w : World) (hb : Below W.heap.size W w) => krecz_any v1 v2 xs ys n w (ht.to hb) (h1.to hb.size (same_below hb)) (h2.to hb.size (same_below hb)) hn)
 have HIM := Lib.hid (fun (w : World) (hb : Below W.heap.size W w) => image_at v1 xs w (h1.to hb.size (same_below hb)))
 have HWO := Lib.hid (fun (w : World) (hb : Below W.heap.size W w) => worldz_any v2 ys w (h2.to hb.size (same_below hb)))
 have HP1 := Lib.hid (fun w => picked_any n 300 w hn.1 hn.2 (by omega) (by omega))
 have HP2 := Lib.hid (fun w => picked_any more 200 w hm.1 hm.2 (by omega) (by omega))
 obtain ⟨p0, p1⟩ := pick_rng n 300 (by omega)
 obtain ⟨q0, q1⟩ := pick_rng more 200 (by omega)
 generalize pickZ n 300 = pn at *
 generalize pickZ more 200 = pm at *
 clear ht h1 h2 hn hm
 go_enter Tryd.func5, Tryd.ntmps5
 go_wp2_with fail
 refine HRT.out.mono ?_
 rintro e w0 ⟨rfl, hb0⟩
 have HB0 := Lib.hid hb0
 clear hb0 HRT
 go_wp2_with fail
 refine (HKR.out w0 HB0.out).mono ?_
 rintro e w1 ⟨l, N, m, ai, ab, ar, am, ao, ci, cb, cr, cm, co, rfl, hk, hb1⟩
 go_upto_region 4 with fail
 have HBA := Lib.hid (below_alloc2 w1 (.cells #[.slice ai (imgZ xs).length ci, .slice ab l.length cb, .int .i64 N] 27 (0, 0)) (.cells #[.slice ar m.regs.length cr, .int .i64 m.pc, .int .i64 m.back, .bool m.ints, .bool m.wait, .int .i64 m.table, .int .i64 m.count, .int .i64 m.fin, .slice am m.mem.length cm, .slice ao m.out.length co, .int .i64 m.ready, .int .i64 m.want] 29 (0, 0)))
 obtain ⟨w2, hw2⟩ : ∃ W, W = ((w1.alloc (.cells #[.slice ai (imgZ xs).length ci, .slice ab l.length cb, .int .i64 N] 27 (0, 0))).alloc (.cells #[.slice ar m.regs.length cr, .int .i64 m.pc, .int .i64 m.back, .bool m.ints, .bool m.wait, .int .i64 m.table, .int .i64 m.count, .int .i64 m.fin, .slice am m.mem.length cm, .slice ao m.out.length co, .int .i64 m.ready, .int .i64 m.want] 29 (0, 0))) := ⟨_, rfl⟩
 have HX1 := Lib.hid (show w2.heap[w1.heap.size]? = some (.cells #[.slice ai (imgZ xs).length ci, .slice ab l.length cb, .int .i64 N] 27 (0, 0)) from by rw [hw2]; exact (alloc_lt (by simp)).trans (alloc_at rfl))
 have HX2 := Lib.hid (show w2.heap[w1.heap.size + 1]? = some (.cells #[.slice ar m.regs.length cr, .int .i64 m.pc, .int .i64 m.back, .bool m.ints, .bool m.wait, .int .i64 m.table, .int .i64 m.count, .int .i64 m.fin, .slice am m.mem.length cm, .slice ao m.out.length co, .int .i64 m.ready, .int .i64 m.want] 29 (0, 0)) from by rw [hw2]; exact alloc_at (by simp))
 rw [← hw2] at HBA ⊢
 obtain ⟨gt, hgt⟩ : ∃ g, g = w1.heap.size := ⟨_, rfl⟩
 obtain ⟨gg, hgg⟩ : ∃ g, g = w1.heap.size + 1 := ⟨_, rfl⟩
 rw [← hgg] at HX2 ⊢
 rw [← hgt] at HX1 ⊢
 clear hw2 hgt hgg
 have hb2 := hb1.trans (HBA.out.mono hb1.size)
 have HB2 := Lib.hid (HB0.out.trans (hb2.mono HB0.out.size))
 have HK := Lib.hid (hk.to HBA.out)
 have hN := hk.rc.tape.le
 clear HBA hb1 hk HKR hb2 HX2 HB0
 go_wp2_with fail
 refine (HIM.out w2 HB2.out).mono ?_
 rintro e w3 ⟨a5, c5, n5, rfl, hn5, hwo, hb3⟩
 have hle5 := hwo.len
 have HI3 := Lib.hid (show Ints w3.heap.size w3 (.slice a5 (imgZ xs).length c5) (imgZ xs) from ints_of_owns (by rw [hle5]; exact hwo.own) (by omega) (fun z hz => (hwo.word z hz).i64))
 have HIL := Lib.hid (show (imgZ xs).length ≤ 64 from by omega)
 rw [← hle5]
 have HB3 := Lib.hid (HB2.out.trans (hb3.mono HB2.out.size))
 have HK3 := Lib.hid (HK.out.to hb3)
 have HX13 := Lib.hid (block_below hb3 HX1.out (Array.getElem?_eq_some_iff.1 HX1.out).1)
 clear HK HX1 hb3 hwo hle5 hn5 HB2
 go_wp2_with fail
 refine (HWO.out w3 HB3.out).mono ?_
 rintro e w4 ⟨a0, a1, a2, a3, c0, c1, c2, c3, rfl, i0, i1, i2, i3, hW, hb4⟩
 have HB4 := Lib.hid (HB3.out.trans (hb4.mono HB3.out.size))
 have HK4 := Lib.hid (HK3.out.to hb4)
 have HI4 := Lib.hid (HI3.out.to hb4.size (same_below hb4))
 have HRA := Lib.hid (fun (k : Int) (h0 : 0 ≤ k) (h1 : k ≤ 500) => kreca_any a5 a0 a1 a2 a3 c5 c0 c1 c2 c3 (imgZ xs) (wI ys 20) (wV ys 20) (wB ys 20) (wD ys 20) k w4 (HT.out.to HB4.out) HI4.out i0 i1 i2 i3 h0 h1 HK4.out.nc HIL.out hW)
 have HX14 := Lib.hid (block_below hb4 HX13.out (Array.getElem?_eq_some_iff.1 HX13.out).1)
 clear i0 i1 i2 i3 hW hb4 HX13 HK3 HI3 HB3
 have hpq : IntKind.i64.wrap (pn + pm) = pn + pm := IntWalk.i64_in _ (by omega)
 go_wp2_with fail
 refine (HP1.out _).mono ?_
 rintro e w' ⟨rfl, rfl⟩
 go_wp2_with fail
 refine (HP2.out _).mono ?_
 rintro e w' ⟨rfl, rfl⟩
 go_wp2_with fail
 refine (HRA.out (pn + pm) (by omega) (by omega)).mono ?_
 rintro e w5 ⟨l2, N2, m2, ai2, ab2, ar2, am2, ao2, ci2, cb2, cr2, cm2, co2, rfl, hk2, hb5⟩
 go_upto_region 5 with fail
 have HBA := Lib.hid (below_alloc2 w5 (.cells #[.slice ai2 (imgZ xs).length ci2, .slice ab2 l2.length cb2, .int .i64 N2] 27 (0, 0)) (.cells #[.slice ar2 m2.regs.length cr2, .int .i64 m2.pc, .int .i64 m2.back, .bool m2.ints, .bool m2.wait, .int .i64 m2.table, .int .i64 m2.count, .int .i64 m2.fin, .slice am2 m2.mem.length cm2, .slice ao2 m2.out.length co2, .int .i64 m2.ready, .int .i64 m2.want] 29 (0, 0)))
 obtain ⟨w6, hw6⟩ : ∃ W, W = ((w5.alloc (.cells #[.slice ai2 (imgZ xs).length ci2, .slice ab2 l2.length cb2, .int .i64 N2] 27 (0, 0))).alloc (.cells #[.slice ar2 m2.regs.length cr2, .int .i64 m2.pc, .int .i64 m2.back, .bool m2.ints, .bool m2.wait, .int .i64 m2.table, .int .i64 m2.count, .int .i64 m2.fin, .slice am2 m2.mem.length cm2, .slice ao2 m2.out.length co2, .int .i64 m2.ready, .int .i64 m2.want] 29 (0, 0))) := ⟨_, rfl⟩
 have HY1 := Lib.hid (show w6.heap[w5.heap.size]? = some (.cells #[.slice ai2 (imgZ xs).length ci2, .slice ab2 l2.length cb2, .int .i64 N2] 27 (0, 0)) from by rw [hw6]; exact (alloc_lt (by simp)).trans (alloc_at rfl))
 have HY2 := Lib.hid (show w6.heap[w5.heap.size + 1]? = some (.cells #[.slice ar2 m2.regs.length cr2, .int .i64 m2.pc, .int .i64 m2.back, .bool m2.ints, .bool m2.wait, .int .i64 m2.table, .int .i64 m2.count, .int .i64 m2.fin, .slice am2 m2.mem.length cm2, .slice ao2 m2.out.length co2, .int .i64 m2.ready, .int .i64 m2.want] 29 (0, 0)) from by rw [hw6]; exact alloc_at (by simp))
 rw [← hw6] at HBA ⊢
 obtain ⟨gu, hgu⟩ : ∃ g, g = w5.heap.size := ⟨_, rfl⟩
 obtain ⟨gh, hgh⟩ : ∃ g, g = w5.heap.size + 1 := ⟨_, rfl⟩
 rw [← hgh] at HY2 ⊢
 rw [← hgu] at HY1 ⊢
 clear hw6 hgu hgh
 have hb6 := hb5.trans (HBA.out.mono hb5.size)
 have HB6 := Lib.hid (HB4.out.trans (hb6.mono HB4.out.size))
 have HK6 := Lib.hid (HK4.out.to hb6)
 have HL6 := Lib.hid (hk2.to HBA.out)
 have HNN := Lib.hid (HK4.out.rc.first hk2.rc (by omega))
 have HX16 := Lib.hid (block_below hb6 HX14.out (Array.getElem?_eq_some_iff.1 HX14.out).1)
 clear HBA hb5 hk2 hb6 HY2 HX14 HK4 HI4 HRA HP1 HP2 HIM HWO HB4 hpq HIL
 obtain ⟨mz, hmz⟩ : ∃ mz, mz = (recI (wI ys 20) (wV ys 20) (wB ys 20) (wD ys 20) (recS0 (imgZ xs)) N).m := ⟨_, rfl⟩
 have HMZ := Lib.hid hmz
 clear hmz
 have t0 : w6.cell? ⟨gt, 0, none⟩ = some (.slice ai (imgZ xs).length ci) := cell_block HX16.out 0
 have t1 : w6.cell? ⟨gt, 1, none⟩ = some (.slice ab l.length cb) := cell_block HX16.out 1
 have t2 : w6.cell? ⟨gt, 2, none⟩ = some (.int .i64 N) := cell_block HX16.out 2
 have lt6 : gt < w6.heap.size := (Array.getElem?_eq_some_iff.1 HX16.out).1
 go_wp2_with fail
 refine (krep_any HK6.out (HT.out.to HB6.out) rfl (Nat.le_refl _) HMZ.out).mono ?_
 rintro e w7 ⟨br, dr, bm, dm, bo, dq, rfl, hg7, hb7⟩
 go_upto_region 6 with fail
 have HBA := Lib.hid (below_alloc w7 (.cells #[.slice br mz.regs.length dr, .int .i64 mz.pc, .int .i64 mz.back, .bool mz.ints, .bool mz.wait, .int .i64 mz.table, .int .i64 mz.count, .int .i64 mz.fin, .slice bm mz.mem.length dm, .slice bo mz.out.length dq, .int .i64 mz.ready, .int .i64 mz.want] 29 (0, 0)))
 obtain ⟨w8, hw8⟩ : ∃ W, W = (w7.alloc (.cells #[.slice br mz.regs.length dr, .int .i64 mz.pc, .int .i64 mz.back, .bool mz.ints, .bool mz.wait, .int .i64 mz.table, .int .i64 mz.count, .int .i64 mz.fin, .slice bm mz.mem.length dm, .slice bo mz.out.length dq, .int .i64 mz.ready, .int .i64 mz.want] 29 (0, 0))) := ⟨_, rfl⟩
 have HXA := Lib.hid (show w8.heap[w7.heap.size]? = some (.cells #[.slice br mz.regs.length dr, .int .i64 mz.pc, .int .i64 mz.back, .bool mz.ints, .bool mz.wait, .int .i64 mz.table, .int .i64 mz.count, .int .i64 mz.fin, .slice bm mz.mem.length dm, .slice bo mz.out.length dq, .int .i64 mz.ready, .int .i64 mz.want] 29 (0, 0)) from by rw [hw8]; exact alloc_at rfl)
 rw [← hw8] at HBA ⊢
 obtain ⟨ga, hga⟩ : ∃ g, g = w7.heap.size := ⟨_, rfl⟩
 rw [← hga] at HXA ⊢
 clear hw8 hga
 have hb8 := hb7.trans (HBA.out.mono hb7.size)
 have HB8 := Lib.hid (HB6.out.trans (hb8.mono HB6.out.size))
 have HL8 := Lib.hid (HL6.out.to hb8)
 have HGA := Lib.hid (hg7.to HBA.out.size (same_below HBA.out))
 have HX18 := Lib.hid (block_below hb8 HX16.out (Array.getElem?_eq_some_iff.1 HX16.out).1)
 have HY8 := Lib.hid (block_below hb8 HY1.out (Array.getElem?_eq_some_iff.1 HY1.out).1)
 clear t0 t1 t2 lt6 hb7 hg7 hb8 HBA HX16 HY1 HK6 HL6 HB6
 have t2 : w8.cell? ⟨gt, 2, none⟩ = some (.int .i64 N) := cell_block HX18.out 2
 have u0 : w8.cell? ⟨gu, 0, none⟩ = some (.slice ai2 (imgZ xs).length ci2) := cell_block HY8.out 0
 have u1 : w8.cell? ⟨gu, 1, none⟩ = some (.slice ab2 l2.length cb2) := cell_block HY8.out 1
 have u2 : w8.cell? ⟨gu, 2, none⟩ = some (.int .i64 N2) := cell_block HY8.out 2
 have lt8 : gt < w8.heap.size := (Array.getElem?_eq_some_iff.1 HX18.out).1
 have lu8 : gu < w8.heap.size := (Array.getElem?_eq_some_iff.1 HY8.out).1
 go_wp2_with fail
 refine (krep_any HL8.out (HT.out.to HB8.out) rfl HNN.out HMZ.out).mono ?_
 rintro e w9 ⟨er, fr, em, fm, eo, fo, rfl, hg9, hb9⟩
 go_upto_region 7 with fail
 have HBA := Lib.hid (below_alloc w9 (.cells #[.slice er mz.regs.length fr, .int .i64 mz.pc, .int .i64 mz.back, .bool mz.ints, .bool mz.wait, .int .i64 mz.table, .int .i64 mz.count, .int .i64 mz.fin, .slice em mz.mem.length fm, .slice eo mz.out.length fo, .int .i64 mz.ready, .int .i64 mz.want] 29 (0, 0)))
 obtain ⟨wa, hwa⟩ : ∃ W, W = (w9.alloc (.cells #[.slice er mz.regs.length fr, .int .i64 mz.pc, .int .i64 mz.back, .bool mz.ints, .bool mz.wait, .int .i64 mz.table, .int .i64 mz.count, .int .i64 mz.fin, .slice em mz.mem.length fm, .slice eo mz.out.length fo, .int .i64 mz.ready, .int .i64 mz.want] 29 (0, 0))) := ⟨_, rfl⟩
 have HXB := Lib.hid (show wa.heap[w9.heap.size]? = some (.cells #[.slice er mz.regs.length fr, .int .i64 mz.pc, .int .i64 mz.back, .bool mz.ints, .bool mz.wait, .int .i64 mz.table, .int .i64 mz.count, .int .i64 mz.fin, .slice em mz.mem.length fm, .slice eo mz.out.length fo, .int .i64 mz.ready, .int .i64 mz.want] 29 (0, 0)) from by rw [hwa]; exact alloc_at rfl)
 rw [← hwa] at HBA ⊢
 obtain ⟨gb, hgb⟩ : ∃ g, g = w9.heap.size := ⟨_, rfl⟩
 rw [← hgb] at HXB ⊢
 clear hwa hgb
 have hba := hb9.trans (HBA.out.mono hb9.size)
 have HBa := Lib.hid (HB8.out.trans (hba.mono HB8.out.size))
 have HGAa := Lib.hid (HGA.out.to hba.size (same_below hba))
 have HGB := Lib.hid (hg9.to HBA.out.size (same_below HBA.out))
 have HX1a := Lib.hid (block_below hba HX18.out (Array.getElem?_eq_some_iff.1 HX18.out).1)
 have HYa := Lib.hid (block_below hba HY8.out (Array.getElem?_eq_some_iff.1 HY8.out).1)
 have HXAa := Lib.hid (block_below hba HXA.out (Array.getElem?_eq_some_iff.1 HXA.out).1)
 clear t2 u0 u1 u2 lt8 lu8 hb9 hg9 hba HBA HX18 HY8 HXA HL8 HGA HB8
 have t2 : wa.cell? ⟨gt, 2, none⟩ = some (.int .i64 N) := cell_block HX1a.out 2
 have u2 : wa.cell? ⟨gu, 2, none⟩ = some (.int .i64 N2) := cell_block HYa.out 2
 first | (obtain ⟨a0, a1, a2, a3, a4, a5, a6, a7, a8, a9, a10, a11⟩ := cells12 HXAa.out) | (obtain ⟨a0, a1, a2, a3, a4, a5, a6, a7, a8, a9, a10, a11⟩ := cells13 HXAa.out)
 first | (obtain ⟨b0, b1, b2, b3, b4, b5, b6, b7, b8, b9, b10, b11⟩ := cells12 HXB.out) | (obtain ⟨b0, b1, b2, b3, b4, b5, b6, b7, b8, b9, b10, b11⟩ := cells13 HXB.out)
 have lta : gt < wa.heap.size := (Array.getElem?_eq_some_iff.1 HX1a.out).1
 have lua : gu < wa.heap.size := (Array.getElem?_eq_some_iff.1 HYa.out).1
 have laa : ga < wa.heap.size := (Array.getElem?_eq_some_iff.1 HXAa.out).1
 have lba : gb < wa.heap.size := (Array.getElem?_eq_some_iff.1 HXB.out).1
 have hnn := HNN.out
 have hle : decide (N ≤ N2) = true := decide_eq_true hnn
 have HSM := Lib.hid (show Calls Tryd.prog 22 #[.agg #[.slice br mz.regs.length dr, .int .i64 mz.pc, .int .i64 mz.back, .bool mz.ints, .bool mz.wait, .int .i64 mz.table, .int .i64 mz.count, .int .i64 mz.fin, .slice bm mz.mem.length dm, .slice bo mz.out.length dq, .int .i64 mz.ready, .int .i64 mz.want], .agg #[.slice er mz.regs.length fr, .int .i64 mz.pc, .int .i64 mz.back, .bool mz.ints, .bool mz.wait, .int .i64 mz.table, .int .i64 mz.count, .int .i64 mz.fin, .slice em mz.mem.length fm, .slice eo mz.out.length fo, .int .i64 mz.ready, .int .i64 mz.want]] wa (fun e w' => e = .returned (.bool true) ∧ Below wa.heap.size wa w') from
  ksame_yes mz _ _ _ _ _ _ wa (machr_ints HGAa.out).1 (machr_ints HGAa.out).2.1 (machr_ints HGAa.out).2.2 (machr_ints HGB.out).1 (machr_ints HGB.out).2.1 (machr_ints HGB.out).2.2)
 clear HGAa HGB HX1a HYa HXAa HXB HMZ HNN
 go_wp2_with fail
 refine HSM.out.mono ?_
 rintro e wb ⟨rfl, hbb⟩
 have HBB := Lib.hid (HBa.out.trans (hbb.mono HBa.out.size))
 clear hbb
 go_wp2
 go_ret
 exact ⟨ret_bool (by simp), HBB.out⟩
theorem lifted (os : Os) (started : os.Started) (H : Type) (enc : TypeId × Value → H) :
  ReturnsInHanded {} Tryd.checked os 5 .any (fun w args => (Rows.recordsBeginSpec.pre enc Tryd.prog Tryd.f5 [] false w args ∧ laidMetH Tryd.prog laidW w) ∧ sizedMet enc Tryd.prog Tryd.f5 (OpenSpec.ofChange Rows.recordsBeginSpec) false w args) (Rows.recordsBeginSpec.post enc Tryd.prog Tryd.f5 false true false false) := by
 refine returnsInHanded_of_change_and (C := Tryd.checked) (X := fun w _ => laidMetH Tryd.prog laidW w) (fun _ _ _ hh h => h.of_heap hh) Facts.own started (by kernel_rfl) Tryd.func5
  (ChangeSpec.witness_shaped (enc := enc) (C := Tryd.checked) (os := os) (X := fun w _ => laidMetH Tryd.prog laidW w) false (World.doorLaid Tryd.prog 400 os) #[.slice none 0 0, .slice none 0 0, .int .i64 0, .int .i64 0] 8 rfl (World.shaped_of_RefB (by kernel_rfl) (by kernel_rfl)) (by kernel_rfl) (by kernel_rfl) (by kernel_rfl) (door_met os _)) ?_
 intro W base args ds gs before hval0 hW hcnd hsz0 hL _
 have hsz : (DataW.weightsEach Tryd.prog (Tryd.f5.params.toList ++ Rows.recordsBeginSpec.plain.varTypes Tryd.prog) (ds ++ gs)).all (· ≤ reachBytes) = true := hsz0
 have hval : ∀ (j : Nat) t v, Tryd.f5.params[j]? = some t → args[j]? = some v → Value.okWide Tryd.prog W .any base t v := hval0
 have hW' := hW
 obtain ⟨p, q, hA0, hV, rfl, hfz, hnd⟩ := hW
 have hA : DataW.TrodAll enc Tryd.prog W 0 (fun _ => true) true Tryd.f5.params.toList args.toList ds p := hA0
 rw [Tryd.params5] at hA hval hsz
 obtain ⟨v0, vs0, d0, ds0, p0, q0, hargs, rfl, rfl, h0, r0⟩ := trodAll_cons hA
 obtain ⟨v1, vs1, d1, ds1, p1, q1, rfl, rfl, rfl, h1, r1⟩ := trodAll_cons r0
 obtain ⟨v2, vs2, d2, ds2, p2, q2, rfl, rfl, rfl, h2, r2⟩ := trodAll_cons r1
 obtain ⟨v3, vs3, d3, ds3, p3, q3, rfl, rfl, rfl, h3, r3⟩ := trodAll_cons r2
 obtain ⟨rfl, rfl, rfl⟩ := trodAll_nil r3
 obtain rfl : args = #[v0, v1, v2, v3] := by cases args; simp_all
 obtain ⟨rfl, rfl⟩ := trodVars_none hV
 have k0 := h0
 have lt0 : ∀ x ∈ p0, x.block < W.heap.size := by obtain ⟨m, hm⟩ := k0; exact DataW.trod_lt m _ _ _ hm
 obtain ⟨x0_0, w0⟩ := open_rawsR (hval 0 22 v0 rfl rfl) h0 (fits_at hsz (j := 0) rfl rfl)
 have k1 := h1
 have lt1 : ∀ x ∈ p1, x.block < W.heap.size := by obtain ⟨m, hm⟩ := k1; exact DataW.trod_lt m _ _ _ hm
 obtain ⟨x1_0, w1⟩ := open_rawsR (hval 1 22 v1 rfl rfl) h1 (fits_at hsz (j := 1) rfl rfl)
 have k2 := h2
 have lt2 : ∀ x ∈ p2, x.block < W.heap.size := by obtain ⟨m, hm⟩ := k2; exact DataW.trod_lt m _ _ _ hm
 obtain ⟨a2, rfl, rfl, rfl, w2⟩ := open_int Tryd.underlying3 (hval 2 3 v2 rfl rfl) h2
 have k3 := h3
 have lt3 : ∀ x ∈ p3, x.block < W.heap.size := by obtain ⟨m, hm⟩ := k3; exact DataW.trod_lt m _ _ _ hm
 obtain ⟨a3, rfl, rfl, rfl, w3⟩ := open_int Tryd.underlying3 (hval 3 3 v3 rfl rfl) h3
 clear hA0 hval0
 refine (walk W (tab_of_laid hL) v0 x0_0 w0 v1 x1_0 w1 a2 (Go.bounds_i64 w2) a3 (Go.bounds_i64 w3)).mono fun e W' ⟨he, bel⟩ => ?_
 subst he
 exact ⟨_, rfl, _, _, _, [], _, [], hW', trodAll_mk1 (shut_bool Tryd.underlying4 _), (trodAll_cons_mk (Below.trod Facts.laidOut (by kernel_rfl) (of_decide_eq_true (by kernel_rfl)) k0 bel lt0) (trodAll_cons_mk (Below.trod Facts.laidOut (by kernel_rfl) (of_decide_eq_true (by kernel_rfl)) k1 bel lt1) (trodAll_cons_mk (Below.trod Facts.laidOut (by kernel_rfl) (of_decide_eq_true (by kernel_rfl)) k2 bel lt2) (trodAll_cons_mk (Below.trod Facts.laidOut (by kernel_rfl) (of_decide_eq_true (by kernel_rfl)) k3 bel lt3) trodAll_mk0)))), rfl, bel.frame _, fun h => by cases h⟩
theorem closed : joinedFacts Tryd.prog 5 Tryd.f5 Rows.recordsBeginSpec Rows.recordsBeginRow = true := by
 unfold joinedFacts
 rw [Facts.enters, Facts.lifts, Facts.made]
 kernel_rfl
theorem over : Rows.recordsBeginRow.holds Tryd.pinned (OpenSpec.ofChange Rows.recordsBeginSpec) :=
 OpenClaim.holds_of_wide 5 Tryd.f5 rfl rfl rfl rfl rfl rfl rfl ⟨rfl, rfl, rfl, rfl, rfl⟩ rfl rfl rfl rfl rfl (by kernel_rfl) Tryd.func5 closed
  (of_decide_eq_true (by kernel_rfl)) (by unfold Func.isWrapper; first | (rw [if_pos (by decide +kernel)]; kernel_rfl) | (rw [if_neg (by decide +kernel)]; exact ⟨rfl, rfl⟩))
  (fun os started H enc _ => lifted os started H enc)
theorem proved : Rows.RecordsBeginCardSaid :=
 Claim7.holds_tied_plain_at .later [] [.data] true (true, "850d05a04a8e8d5f98819d9d0a54a36c2c86ac0283d882885c8e6c491e21e498") false over (fun _ h => by cases h) (by kernel_rfl) (fun _ h => by cases h) recordsBegin_row_tie rfl ⟨rfl, rfl⟩ (by kernel_rfl) rfl
  (fun f fn hf hfn => by
   obtain rfl : f = 5 := Option.some.inj ((show Tryd.prog.funcNamed "hourglass/hourglasskeep.RecordsBegin" = some 5 by kernel_rfl).symm.trans hf) |>.symm
   obtain rfl : fn = Tryd.f5 := (Option.some.inj (Tryd.func5.symm.trans hfn)).symm
   exact ⟨by kernel_rfl, fun j t ht => by
    rw [Tryd.params5] at ht
    have hm : t ∈ [22, 22, 3, 3] := by simpa using Array.mem_of_getElem? ht
    have hall : ([22, 22, 3, 3].all fun u => !Tryd.prog.wantsStandIn u) = true := by kernel_rfl
    exact (show Tryd.prog.wantsStandIn t = false by simpa using List.all_eq_true.1 hall t hm)⟩)
  (by kernel_rfl)
#print axioms proved
end Go.Proofs.YtpdbcdfgonnnnaaDoor.lRecordsBegin
