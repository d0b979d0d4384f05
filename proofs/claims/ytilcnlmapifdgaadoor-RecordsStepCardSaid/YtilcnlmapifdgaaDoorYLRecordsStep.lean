/- The law hourglasskeep.RecordsStep returns true at all raw things and all numbers, the table laid as the program's text lays it. No further condition. -/
import Derived.Test.YtilcnlmapifdgaaDoorRows
import Derived.Test.YtilcnlmapifdgaaDoorYMem
import Derived.Test.YtilcnlmapifdgaaDoorYFacts
import Derived.WalkKit
import Derived.ProofKit
import Derived.OpenShut
import Derived.ShutString
import Derived.ChangeOld
import Derived.Below
import Derived.Test.YtilcnlmapifdgaaDoorYKt
import Derived.Test.YtilcnlmapifdgaaDoorYKc
import Derived.Test.YtilcnlmapifdgaaDoorYPk
import Derived.Test.YtilcnlmapifdgaaDoorYEu
import Derived.Test.YtilcnlmapifdgaaDoorTie
import Derived.Test.YtilcnlmapifdgaaDoorCards
import Derived.SevenTiedAt
import Derived.Deep.CutBlock
import Derived.Deep.CutRange
import Derived.Deep.LoopGhost
namespace Go.Proofs.YtilcnlmapifdgaaDoor.lRecordsStep
open Go Go.RowKit Go.ChangeShapes Go.WideShapes Go.ChangeAt Go.Deep
open Go.ChangeMaps (open_string shut_string)
set_option linter.unusedVariables false
attribute [local go_sem ↓] Go.wp_at_zero Go.wp_at_succ

theorem fold_take2 {k : Int} {l : List Ev} {i : Nat} (h : i < l.length) (a : Bool × List Int × Int) : (l.take (i + 1)).foldl (inStep k) a = inStep k ((l.take i).foldl (inStep k) a) l[i] := by
  rw [List.take_add_one, List.getElem?_eq_getElem h, Option.toList_some, List.foldl_append]
  rfl

set_option maxHeartbeats 8000000 in
set_option maxRecDepth 100000 in
theorem walk (W : World) (ht : Tab W) (v1 : Value) (xs : List Rw) (h1 : RawsR W.heap.size W v1 xs) (v2 : Value) (ys : List Rw) (h2 : RawsR W.heap.size W v2 ys) (n : Int) (hn : I64 n) (at_ : Int) (hat : I64 at_) : Calls Tryd.prog 8 #[v1, v2, .int .i64 n, .int .i64 at_] W fun e W' => e = .returned (.bool true) ∧ Below W.heap.size W W' := by
  have HT := Lib.hid ht
  have HRT := Lib.hid (runtells_any W ht)
  have HKR := Lib.hid (fun (w : World) (hb : Below W.heap.size W w) => krecorded_any v1 v2 xs ys n w (ht.to hb) (h1.to hb.size (same_below hb)) (h2.to hb.size (same_below hb)) hn)
  have HAT := Lib.hid hat
  clear ht h1 h2 hn hat
  go_enter Tryd.func8, Tryd.ntmps8
  go_wp2_with fail
  refine HRT.out.mono ?_
  rintro e w0 ⟨rfl, hb0⟩
  have HB0 := Lib.hid hb0
  clear hb0 HRT
  go_wp2_with fail
  refine (HKR.out w0 HB0.out).mono ?_
  rintro e w1 ⟨img, is, vs, bs, ds, l, N, m, ai, ab, ar, am, ao, ci, cb, cr, cm, co, rfl, hk, hb1⟩
  go_upto_region 4 with fail
  have hN := hk.rc.tape.le
  have HBA := Lib.hid (below_alloc2 w1 (.cells #[.slice ai img.length ci, .slice ab l.length cb, .int .i64 N] 27 (0, 0)) (.cells #[.slice ar m.regs.length cr, .int .i64 m.pc, .int .i64 m.back, .bool m.ints, .bool m.wait, .int .i64 m.table, .int .i64 m.count, .int .i64 m.fin, .slice am m.mem.length cm, .slice ao m.out.length co, .int .i64 m.ready, .int .i64 m.want] 29 (0, 0)))
  obtain ⟨w2, hw2⟩ : ∃ W, W = ((w1.alloc (.cells #[.slice ai img.length ci, .slice ab l.length cb, .int .i64 N] 27 (0, 0))).alloc (.cells #[.slice ar m.regs.length cr, .int .i64 m.pc, .int .i64 m.back, .bool m.ints, .bool m.wait, .int .i64 m.table, .int .i64 m.count, .int .i64 m.fin, .slice am m.mem.length cm, .slice ao m.out.length co, .int .i64 m.ready, .int .i64 m.want] 29 (0, 0))) := ⟨_, rfl⟩
  have HX1 := Lib.hid (show w2.heap[w1.heap.size]? = some (.cells #[.slice ai img.length ci, .slice ab l.length cb, .int .i64 N] 27 (0, 0)) from by rw [hw2]; exact (alloc_lt (by simp)).trans (alloc_at rfl))
  have HX2 := Lib.hid (show w2.heap[w1.heap.size + 1]? = some (.cells #[.slice ar m.regs.length cr, .int .i64 m.pc, .int .i64 m.back, .bool m.ints, .bool m.wait, .int .i64 m.table, .int .i64 m.count, .int .i64 m.fin, .slice am m.mem.length cm, .slice ao m.out.length co, .int .i64 m.ready, .int .i64 m.want] 29 (0, 0)) from by rw [hw2]; exact alloc_at (by simp))
  rw [← hw2] at HBA ⊢
  obtain ⟨gt, hgt⟩ : ∃ g, g = w1.heap.size := ⟨_, rfl⟩
  obtain ⟨gg, hgg⟩ : ∃ g, g = w1.heap.size + 1 := ⟨_, rfl⟩
  rw [← hgg] at HX2 ⊢
  rw [← hgt] at HX1 ⊢
  clear hw2 hgt hgg
  have HB2 := Lib.hid (HB0.out.trans ((hb1.trans (HBA.out.mono hb1.size)).mono HB0.out.size))
  have HK := Lib.hid (hk.to HBA.out)
  clear HBA hb1 hk HKR HX2
  have t0 : w2.cell? ⟨gt, 0, none⟩ = some (.slice ai img.length ci) := cell_block HX1.out 0
  have t1 : w2.cell? ⟨gt, 1, none⟩ = some (.slice ab l.length cb) := cell_block HX1.out 1
  have t2 : w2.cell? ⟨gt, 2, none⟩ = some (.int .i64 N) := cell_block HX1.out 2
  have lt2 : gt < w2.heap.size := (Array.getElem?_eq_some_iff.1 HX1.out).1
  go_wp2_with fail
  refine (kchk_any HK.out (HT.out.to HB2.out)).mono ?_
  rintro e w3 ⟨vo, rfl, hev, hb3⟩
  have HB3 := Lib.hid (HB2.out.trans (hb3.mono HB2.out.size))
  have HK3 := Lib.hid (HK.out.to hb3)
  have HEV := Lib.hid hev
  have HX13 := Lib.hid (block_below hb3 HX1.out (Array.getElem?_eq_some_iff.1 HX1.out).1)
  clear t0 t1 t2 lt2 hb3 hev HX1 HK
  have t0 : w3.cell? ⟨gt, 0, none⟩ = some (.slice ai img.length ci) := cell_block HX13.out 0
  have t1 : w3.cell? ⟨gt, 1, none⟩ = some (.slice ab l.length cb) := cell_block HX13.out 1
  have t2 : w3.cell? ⟨gt, 2, none⟩ = some (.int .i64 N) := cell_block HX13.out 2
  have lt3 : gt < w3.heap.size := (Array.getElem?_eq_some_iff.1 HX13.out).1
  by_cases hN0 : N = 0
  · subst hN0
    go_wp2
    go_ret
    exact ⟨ret_bool (by simp), HB3.out⟩
  have hNb : ((N : Int) == 0) = false := by rw [beq_eq_false_iff_ne]; omega
  obtain ⟨p0, p1⟩ := pick_rng at_ (N : Int) (by omega)
  have HPK := Lib.hid (fun w => picked_any at_ (N : Int) w HAT.out.1 HAT.out.2 (by omega) (by omega))
  obtain ⟨k, hk⟩ : ∃ k : Nat, pickZ at_ (N : Int) = k := ⟨(pickZ at_ (N : Int)).toNat, by omega⟩
  rw [hk] at HPK p0 p1
  have hkN : k < N := by omega
  clear hk p0 p1 hN0
  obtain ⟨ma, hma⟩ : ∃ ma, ma = (recI is vs bs ds (recS0 img) k).m := ⟨_, rfl⟩
  obtain ⟨mb, hmb⟩ : ∃ mb, mb = (recI is vs bs ds (recS0 img) (k + 1)).m := ⟨_, rfl⟩
  have HMA := Lib.hid hma
  have HMB := Lib.hid hmb
  have HST := Lib.hid (show stepM ma (inA (recI is vs bs ds (recS0 img) N).all k).1 (inA (recI is vs bs ds (recS0 img) N).all k).2.1 (inA (recI is vs bs ds (recS0 img) N).all k).2.2 = onM ma (recI is vs bs ds (recS0 img) N).all k from rfl)
  have HON := Lib.hid (show (onM ma (recI is vs bs ds (recS0 img) N).all k).1 = mb from by
    rw [hma, hmb, ← HK3.out.rc.run (k := k) (by omega), ← HK3.out.rc.run (k := k + 1) (by omega)]
    rfl)
  have HIN := Lib.hid (inA_good HK3.out.rc.evl (k : Int))
  have HEG := Lib.hid HK3.out.rc.evl.good
  have HOA := Lib.hid (show MOk ma from by rw [hma]; exact HK3.out.rc.ok (by omega))
  have HOB := Lib.hid (show MOk mb from by rw [hmb]; exact HK3.out.rc.ok (by omega))
  have HCA := Lib.hid (show ma.count < 1099511627776 from by rw [hma, HK3.out.rc.count (by omega)]; omega)
  clear hma hmb
  go_wp2_with fail
  refine (HPK.out _).mono ?_
  rintro e w' ⟨rfl, rfl⟩
  clear HPK
  go_wp2_with fail
  refine (krep_any HK3.out (HT.out.to HB3.out) rfl (show k ≤ N by omega) HMA.out).mono ?_
  rintro e w4 ⟨br, dr, bm, dm, bo, dq, rfl, hg4, hb4⟩
  go_upto_region 9 with fail
  have HBA := Lib.hid (below_alloc w4 (.cells #[.slice br ma.regs.length dr, .int .i64 ma.pc, .int .i64 ma.back, .bool ma.ints, .bool ma.wait, .int .i64 ma.table, .int .i64 ma.count, .int .i64 ma.fin, .slice bm ma.mem.length dm, .slice bo ma.out.length dq, .int .i64 ma.ready, .int .i64 ma.want] 29 (0, 0)))
  obtain ⟨w5, hw5⟩ : ∃ W, W = (w4.alloc (.cells #[.slice br ma.regs.length dr, .int .i64 ma.pc, .int .i64 ma.back, .bool ma.ints, .bool ma.wait, .int .i64 ma.table, .int .i64 ma.count, .int .i64 ma.fin, .slice bm ma.mem.length dm, .slice bo ma.out.length dq, .int .i64 ma.ready, .int .i64 ma.want] 29 (0, 0))) := ⟨_, rfl⟩
  have HXA := Lib.hid (show w5.heap[w4.heap.size]? = some (.cells #[.slice br ma.regs.length dr, .int .i64 ma.pc, .int .i64 ma.back, .bool ma.ints, .bool ma.wait, .int .i64 ma.table, .int .i64 ma.count, .int .i64 ma.fin, .slice bm ma.mem.length dm, .slice bo ma.out.length dq, .int .i64 ma.ready, .int .i64 ma.want] 29 (0, 0)) from by rw [hw5]; exact alloc_at rfl)
  rw [← hw5] at HBA ⊢
  obtain ⟨ga, hga⟩ : ∃ g, g = w4.heap.size := ⟨_, rfl⟩
  rw [← hga] at HXA ⊢
  clear hw5 hga
  have hb5 := hb4.trans (HBA.out.mono hb4.size)
  have HB5 := Lib.hid (HB3.out.trans (hb5.mono HB3.out.size))
  have HK5 := Lib.hid (HK3.out.to hb5)
  have HGA := Lib.hid (hg4.to HBA.out.size (same_below HBA.out))
  have HEV5 := Lib.hid (HEV.out.to hb5.size (same_below hb5))
  have HX15 := Lib.hid (block_below hb5 HX13.out (Array.getElem?_eq_some_iff.1 HX13.out).1)
  clear t0 t1 t2 lt3 hb4 hg4 hb5 HBA HX13 HK3 HEV
  have t0 : w5.cell? ⟨gt, 0, none⟩ = some (.slice ai img.length ci) := cell_block HX15.out 0
  have t1 : w5.cell? ⟨gt, 1, none⟩ = some (.slice ab l.length cb) := cell_block HX15.out 1
  have t2 : w5.cell? ⟨gt, 2, none⟩ = some (.int .i64 N) := cell_block HX15.out 2
  have lt5 : gt < w5.heap.size := (Array.getElem?_eq_some_iff.1 HX15.out).1
  have w1k : IntKind.i64.wrap ((k : Int) + 1) = (k : Int) + 1 := IntWalk.i64_in _ (by omega)
  go_wp2_with fail
  refine (krep_any HK5.out (HT.out.to HB5.out) (k := (k : Int) + 1) (j := k + 1) (by push_cast; rfl) (show k + 1 ≤ N by omega) HMB.out).mono ?_
  rintro e w6 ⟨er, fr, em, fm, eo, fo, rfl, hg6, hb6⟩
  go_upto_region 10 with fail
  have HBA := Lib.hid (below_alloc w6 (.cells #[.slice er mb.regs.length fr, .int .i64 mb.pc, .int .i64 mb.back, .bool mb.ints, .bool mb.wait, .int .i64 mb.table, .int .i64 mb.count, .int .i64 mb.fin, .slice em mb.mem.length fm, .slice eo mb.out.length fo, .int .i64 mb.ready, .int .i64 mb.want] 29 (0, 0)))
  obtain ⟨w7, hw7⟩ : ∃ W, W = (w6.alloc (.cells #[.slice er mb.regs.length fr, .int .i64 mb.pc, .int .i64 mb.back, .bool mb.ints, .bool mb.wait, .int .i64 mb.table, .int .i64 mb.count, .int .i64 mb.fin, .slice em mb.mem.length fm, .slice eo mb.out.length fo, .int .i64 mb.ready, .int .i64 mb.want] 29 (0, 0))) := ⟨_, rfl⟩
  have HXB := Lib.hid (show w7.heap[w6.heap.size]? = some (.cells #[.slice er mb.regs.length fr, .int .i64 mb.pc, .int .i64 mb.back, .bool mb.ints, .bool mb.wait, .int .i64 mb.table, .int .i64 mb.count, .int .i64 mb.fin, .slice em mb.mem.length fm, .slice eo mb.out.length fo, .int .i64 mb.ready, .int .i64 mb.want] 29 (0, 0)) from by rw [hw7]; exact alloc_at rfl)
  rw [← hw7] at HBA ⊢
  obtain ⟨gb, hgb⟩ : ∃ g, g = w6.heap.size := ⟨_, rfl⟩
  rw [← hgb] at HXB ⊢
  clear hw7 hgb
  have hb7 := hb6.trans (HBA.out.mono hb6.size)
  have HB7 := Lib.hid (HB5.out.trans (hb7.mono HB5.out.size))
  have HGA7 := Lib.hid (HGA.out.to hb7.size (same_below hb7))
  have HGB7 := Lib.hid (hg6.to HBA.out.size (same_below HBA.out))
  have HEV7 := Lib.hid (HEV5.out.to hb7.size (same_below hb7))
  have HXA7 := Lib.hid (block_below hb7 HXA.out (Array.getElem?_eq_some_iff.1 HXA.out).1)
  clear t0 t1 t2 lt5 hb6 hg6 hb7 HBA HX15 HK5 HEV5 HGA HXA w1k HMA HMB
  obtain ⟨al, cl, rfl, hll, _, _⟩ := id HEV7.out
  generalize hall : (recI is vs bs ds (recS0 img) N).all = all at *
  clear hall
  have HX7 := Lib.hid (Below.refl w7.heap.size w7)
  go_upto_block 0 with fail
  go_cut [19, 20, 21] from 75 to 98 (fun s19 s20 s21 wx => ∃ (a : Bool × List Int × Int) (xa : Option Addr) (xc : Nat), Hid (a = inA all k) ∧ s19 = .bool a.1 ∧ s20 = .slice xa a.2.1.length xc ∧ s21 = .int .i64 a.2.2 ∧ Hid (Ints w7.heap.size w7 (.slice xa a.2.1.length xc) a.2.1) ∧ Hid (Below w7.heap.size w7 wx))
  case first =>
    go_wp2_with fail
    go_loopg [19, 20, 21, 77] all.length (fun gh s19 s20 s21 s77 wr => ∃ (j : Nat) (a : Bool × List Int × Int) (xa : Option Addr) (xc : Nat), j ≤ all.length ∧ gh = all.length - j ∧ s77 = .int .i64 j ∧ Hid (a = (all.take j).foldl (inStep k) (false, [], 0)) ∧ s19 = .bool a.1 ∧ s20 = .slice xa a.2.1.length xc ∧ s21 = .int .i64 a.2.2 ∧ Hid (Ints w7.heap.size w7 (.slice xa a.2.1.length xc) a.2.1) ∧ Hid (Below w7.heap.size w7 wr))
    case atStart => exact ⟨0, (false, [], 0), none, 0, Nat.zero_le _, by omega, rfl, Lib.hid rfl, rfl, rfl, rfl, Lib.hid (Sl1.nil _ _ _ _), HX7⟩
    case round =>
      obtain ⟨j, a, xa, xc, hj, rfl, rfl, HA, rfl, rfl, rfl, HI, HB⟩ := hrel
      by_cases hlt : j < all.length
      · obtain ⟨_, _, hv, _, _, hcl⟩ := HEV7.out
        injection hv with q1 q2 q3
        subst q1 q3
        obtain ⟨b, off, cs, rfl, hb, hcs, hcell, dd, cd, hcs2, i1, i2, hint⟩ := hcl j hlt
        subst hcs2
        have HFT := Lib.hid (fold_take2 (k := (k : Int)) hlt (false, [], 0))
        have HGD := Lib.hid (HEG.out _ (List.getElem_mem hlt))
        generalize all[j] = x at *
        have k0 : w7.cell? ⟨b, off + j * 3, none⟩ = some (.int .i64 x.at_) := hcell 0 (by simp)
        have k1 : w7.cell? ⟨b, off + j * 3 + 1, none⟩ = some (.int .i64 x.kind) := hcell 1 (by simp)
        have k2 : w7.cell? ⟨b, off + j * 3 + 2, none⟩ = some (.slice dd x.data.length cd) := hcell 2 (by simp)
        have hsm := same_below HB.out
        rw [← hsm _ _ hb] at k0 k1 k2
        have hbw : b < wr.heap.size := Nat.lt_of_lt_of_le hb HB.out.size
        have HINT := Lib.hid hint
        have hll2 : (j : Int) < (all.length : Int) := by omega
        clear hcell hint hsm hcl i1 i2 hcs
        have hwr : IntKind.i64.wrap ((j : Int) + 1) = ((j + 1 : Nat) : Int) := by rw [IntWalk.i64_in _ (by omega)]; rfl
        have HBN := Lib.hid (fun O => HB.out.alloc HB.out.size O)
        by_cases hak : x.at_ = k
        · have hab : (x.at_ != (k : Int)) = false := by rw [bne_eq_false_iff_eq]; exact hak
          rcases (show x.kind = 1 ∨ x.kind = 2 ∨ x.kind = 3 by have := HGD.out.k1; have := HGD.out.k3; omega) with hk1 | hk1 | hk1
          · have HN := Lib.hid (show ((all.take (j + 1)).foldl (inStep k) (false, [], 0)) = (true, a.2.1, a.2.2) from by
              rw [HFT.out, ← HA.out]; unfold inStep; rw [if_neg (fun e => e hak), if_pos hk1])
            have e1 : (x.kind == 1) = true := by rw [hk1]; rfl
            generalize x.at_ = xat at *
            generalize x.kind = xk at *
            clear hak hk1
            go_wp2_with fail
            go_roundg (all.length - (j + 1))
            case measure => omega
            case rel => exact ⟨j + 1, (true, a.2.1, a.2.2), xa, xc, by omega, rfl, rfl, Lib.hid HN.out.symm, rfl, rfl, rfl, HI, Lib.hid (HBN.out _)⟩
          · have HN := Lib.hid (show ((all.take (j + 1)).foldl (inStep k) (false, [], 0)) = (a.1, x.data, a.2.2) from by
              rw [HFT.out, ← HA.out]; unfold inStep; rw [if_neg (fun e => e hak), if_neg (by omega), if_pos hk1])
            have e1 : (x.kind == 1) = false := by rw [hk1]; rfl
            have e2 : (x.kind == 2) = true := by rw [hk1]; rfl
            have HD := Lib.hid HINT.out
            generalize x.at_ = xat at *
            generalize x.kind = xk at *
            clear hak hk1
            go_wp2_with fail
            go_roundg (all.length - (j + 1))
            case measure => omega
            case rel => exact ⟨j + 1, (a.1, x.data, a.2.2), dd, cd, by omega, rfl, rfl, Lib.hid HN.out.symm, rfl, rfl, rfl, HD, Lib.hid (HBN.out _)⟩
          · obtain ⟨z, hz⟩ : ∃ z, x.data = [z] := List.length_eq_one_iff.1 (HGD.out.v1 hk1)
            have HN := Lib.hid (show ((all.take (j + 1)).foldl (inStep k) (false, [], 0)) = (a.1, a.2.1, z) from by
              rw [HFT.out, ← HA.out]; unfold inStep; rw [if_neg (fun e => e hak), if_neg (by omega), if_neg (by omega), hz]; rfl)
            have hd2 := HINT.out
            rw [hz] at hd2 k2
            obtain ⟨_, _, hv, _, _, hcl⟩ := hd2
            injection hv with q1 q2 q3
            subst q1 q3
            obtain ⟨gd, od, vi, rfl, hgd, hci, hvi⟩ := hcl 0 (by simp)
            obtain ⟨rfl, -⟩ := hvi
            simp only [List.getElem_cons_zero, Nat.add_zero] at hci
            simp only [List.length_singleton] at k2
            rw [← same_below HB.out _ _ hgd] at hci
            have hgw : gd < wr.heap.size := Nat.lt_of_lt_of_le hgd HB.out.size
            have e1 : (x.kind == 1) = false := by rw [hk1]; rfl
            have e2 : (x.kind == 2) = false := by rw [hk1]; rfl
            generalize x.at_ = xat at *
            generalize x.kind = xk at *
            clear hak hk1 hz hcl
            go_wp2_with fail
            go_roundg (all.length - (j + 1))
            case measure => omega
            case rel => exact ⟨j + 1, (a.1, a.2.1, z), xa, xc, by omega, rfl, rfl, Lib.hid HN.out.symm, rfl, rfl, rfl, HI, Lib.hid (HBN.out _)⟩
        · have hab : (x.at_ != (k : Int)) = true := by rw [bne_iff_ne]; exact hak
          have HN := Lib.hid (show ((all.take (j + 1)).foldl (inStep k) (false, [], 0)) = a from by
            rw [HFT.out, ← HA.out]; unfold inStep; rw [if_pos hak])
          generalize x.at_ = xat at *
          generalize x.kind = xk at *
          clear hak
          go_wp2_with fail
          go_roundg (all.length - (j + 1))
          case measure => omega
          case rel => exact ⟨j + 1, a, xa, xc, by omega, rfl, rfl, Lib.hid HN.out.symm, rfl, rfl, rfl, HI, Lib.hid (HBN.out _)⟩
      · have HFIN := Lib.hid (show a = inA all k from by have e := HA.out; rw [List.take_of_length_le (by omega)] at e; exact e)
        have hll2 : ¬ (j : Int) < (all.length : Int) := by omega
        go_wp2_with fail
        go_meet
        exact ⟨a, xa, xc, HFIN, rfl, rfl, rfl, HI, HB⟩
  case rest =>
    obtain ⟨a, xa, xc, HA, rfl, rfl, rfl, HI, HB⟩ := hcut
    have hA := HA.out
    subst hA
    obtain ⟨w8, hw8⟩ : ∃ w8, w8 = wc := ⟨_, rfl⟩
    subst hw8
    have HGA8 := Lib.hid (HGA7.out.to HB.out.size (same_below HB.out))
    have HGB8 := Lib.hid (HGB7.out.to HB.out.size (same_below HB.out))
    have HI8 := Lib.hid (HI.out.to HB.out.size (same_below HB.out))
    have HB8 := Lib.hid (HB7.out.trans (HB.out.mono HB7.out.size))
    have HXA8 := Lib.hid (block_below HB.out HXA7.out (Array.getElem?_eq_some_iff.1 HXA7.out).1)
    have HXB8 := Lib.hid (block_below HB.out HXB.out (Array.getElem?_eq_some_iff.1 HXB.out).1)
    have p0 : w8.cell? ⟨ga, 0, none⟩ = some (.slice br ma.regs.length dr) := cell_block HXA8.out 0
    have p1 : w8.cell? ⟨ga, 1, none⟩ = some (.int .i64 ma.pc) := cell_block HXA8.out 1
    have p2 : w8.cell? ⟨ga, 2, none⟩ = some (.int .i64 ma.back) := cell_block HXA8.out 2
    have p3 : w8.cell? ⟨ga, 3, none⟩ = some (.bool ma.ints) := cell_block HXA8.out 3
    have p4 : w8.cell? ⟨ga, 4, none⟩ = some (.bool ma.wait) := cell_block HXA8.out 4
    have p5 : w8.cell? ⟨ga, 5, none⟩ = some (.int .i64 ma.table) := cell_block HXA8.out 5
    have p6 : w8.cell? ⟨ga, 6, none⟩ = some (.int .i64 ma.count) := cell_block HXA8.out 6
    have p7 : w8.cell? ⟨ga, 7, none⟩ = some (.int .i64 ma.fin) := cell_block HXA8.out 7
    have p8 : w8.cell? ⟨ga, 8, none⟩ = some (.slice bm ma.mem.length dm) := cell_block HXA8.out 8
    have p9 : w8.cell? ⟨ga, 9, none⟩ = some (.slice bo ma.out.length dq) := cell_block HXA8.out 9
    have p10 : w8.cell? ⟨ga, 10, none⟩ = some (.int .i64 ma.ready) := cell_block HXA8.out 10
    have p11 : w8.cell? ⟨ga, 11, none⟩ = some (.int .i64 ma.want) := cell_block HXA8.out 11
    have la8 : ga < w8.heap.size := (Array.getElem?_eq_some_iff.1 HXA8.out).1

    clear HGA7 HGB7 HB7 HEV7 HXA7 HX7 HI
    go_wp2_with fail
    refine (step_good _ _ ma _ _ _ w8 HGA8.out HI8.out HIN.out.2.2 HOA.out HIN.out.1 HIN.out.2.1 HCA.out).mono ?_
    rintro e w9 ⟨gr, hr, gm, hm, go, ho, he, hown, hb9⟩
    rw [HST.out, HON.out] at he hown
    subst he
    go_upto_region 25 with fail
    have HBA := Lib.hid (below_alloc w9 (.cells #[.slice gr mb.regs.length hr, .int .i64 mb.pc, .int .i64 mb.back, .bool mb.ints, .bool mb.wait, .int .i64 mb.table, .int .i64 mb.count, .int .i64 mb.fin, .slice gm mb.mem.length hm, .slice go mb.out.length ho, .int .i64 mb.ready, .int .i64 mb.want] 29 (0, 0)))
    obtain ⟨w10, hw10⟩ : ∃ W, W = (w9.alloc (.cells #[.slice gr mb.regs.length hr, .int .i64 mb.pc, .int .i64 mb.back, .bool mb.ints, .bool mb.wait, .int .i64 mb.table, .int .i64 mb.count, .int .i64 mb.fin, .slice gm mb.mem.length hm, .slice go mb.out.length ho, .int .i64 mb.ready, .int .i64 mb.want] 29 (0, 0))) := ⟨_, rfl⟩
    have HXC := Lib.hid (show w10.heap[w9.heap.size]? = some (.cells #[.slice gr mb.regs.length hr, .int .i64 mb.pc, .int .i64 mb.back, .bool mb.ints, .bool mb.wait, .int .i64 mb.table, .int .i64 mb.count, .int .i64 mb.fin, .slice gm mb.mem.length hm, .slice go mb.out.length ho, .int .i64 mb.ready, .int .i64 mb.want] 29 (0, 0)) from by rw [hw10]; exact alloc_at rfl)
    rw [← hw10] at HBA ⊢
    obtain ⟨gc, hgc⟩ : ∃ g, g = w9.heap.size := ⟨_, rfl⟩
    rw [← hgc] at HXC ⊢
    clear hw10 hgc
    have HB9 := Lib.hid (HB8.out.trans (hb9.mono HB8.out.size))
    have hb10 := hb9.trans (HBA.out.mono hb9.size)
    have HB10 := Lib.hid (HB9.out.trans (HBA.out.mono HB9.out.size))
    have HGC := Lib.hid ((mach_r HOB.out hown).to HBA.out.size (same_below HBA.out))
    have HGB10 := Lib.hid (HGB8.out.to hb10.size (same_below hb10))
    have HXB10 := Lib.hid (block_below hb10 HXB8.out (Array.getElem?_eq_some_iff.1 HXB8.out).1)
    clear hb9 hown HBA hb10
    have q0 : w10.cell? ⟨gb, 0, none⟩ = some (.slice er mb.regs.length fr) := cell_block HXB10.out 0
    have q1 : w10.cell? ⟨gb, 1, none⟩ = some (.int .i64 mb.pc) := cell_block HXB10.out 1
    have q2 : w10.cell? ⟨gb, 2, none⟩ = some (.int .i64 mb.back) := cell_block HXB10.out 2
    have q3 : w10.cell? ⟨gb, 3, none⟩ = some (.bool mb.ints) := cell_block HXB10.out 3
    have q4 : w10.cell? ⟨gb, 4, none⟩ = some (.bool mb.wait) := cell_block HXB10.out 4
    have q5 : w10.cell? ⟨gb, 5, none⟩ = some (.int .i64 mb.table) := cell_block HXB10.out 5
    have q6 : w10.cell? ⟨gb, 6, none⟩ = some (.int .i64 mb.count) := cell_block HXB10.out 6
    have q7 : w10.cell? ⟨gb, 7, none⟩ = some (.int .i64 mb.fin) := cell_block HXB10.out 7
    have q8 : w10.cell? ⟨gb, 8, none⟩ = some (.slice em mb.mem.length fm) := cell_block HXB10.out 8
    have q9 : w10.cell? ⟨gb, 9, none⟩ = some (.slice eo mb.out.length fo) := cell_block HXB10.out 9
    have q10 : w10.cell? ⟨gb, 10, none⟩ = some (.int .i64 mb.ready) := cell_block HXB10.out 10
    have q11 : w10.cell? ⟨gb, 11, none⟩ = some (.int .i64 mb.want) := cell_block HXB10.out 11
    have r0 : w10.cell? ⟨gc, 0, none⟩ = some (.slice gr mb.regs.length hr) := cell_block HXC.out 0
    have r1 : w10.cell? ⟨gc, 1, none⟩ = some (.int .i64 mb.pc) := cell_block HXC.out 1
    have r2 : w10.cell? ⟨gc, 2, none⟩ = some (.int .i64 mb.back) := cell_block HXC.out 2
    have r3 : w10.cell? ⟨gc, 3, none⟩ = some (.bool mb.ints) := cell_block HXC.out 3
    have r4 : w10.cell? ⟨gc, 4, none⟩ = some (.bool mb.wait) := cell_block HXC.out 4
    have r5 : w10.cell? ⟨gc, 5, none⟩ = some (.int .i64 mb.table) := cell_block HXC.out 5
    have r6 : w10.cell? ⟨gc, 6, none⟩ = some (.int .i64 mb.count) := cell_block HXC.out 6
    have r7 : w10.cell? ⟨gc, 7, none⟩ = some (.int .i64 mb.fin) := cell_block HXC.out 7
    have r8 : w10.cell? ⟨gc, 8, none⟩ = some (.slice gm mb.mem.length hm) := cell_block HXC.out 8
    have r9 : w10.cell? ⟨gc, 9, none⟩ = some (.slice go mb.out.length ho) := cell_block HXC.out 9
    have r10 : w10.cell? ⟨gc, 10, none⟩ = some (.int .i64 mb.ready) := cell_block HXC.out 10
    have r11 : w10.cell? ⟨gc, 11, none⟩ = some (.int .i64 mb.want) := cell_block HXC.out 11
    have lb10 : gb < w10.heap.size := (Array.getElem?_eq_some_iff.1 HXB10.out).1
    have lc10 : gc < w10.heap.size := (Array.getElem?_eq_some_iff.1 HXC.out).1
    have HSM := Lib.hid (fun (W : World) (hb : Below w10.heap.size w10 W) => (show Calls Tryd.prog 24 #[.agg #[.slice er mb.regs.length fr, .int .i64 mb.pc, .int .i64 mb.back, .bool mb.ints, .bool mb.wait, .int .i64 mb.table, .int .i64 mb.count, .int .i64 mb.fin, .slice em mb.mem.length fm, .slice eo mb.out.length fo, .int .i64 mb.ready, .int .i64 mb.want], .agg #[.slice gr mb.regs.length hr, .int .i64 mb.pc, .int .i64 mb.back, .bool mb.ints, .bool mb.wait, .int .i64 mb.table, .int .i64 mb.count, .int .i64 mb.fin, .slice gm mb.mem.length hm, .slice go mb.out.length ho, .int .i64 mb.ready, .int .i64 mb.want]] W (fun e w' => e = .returned (.bool true) ∧ Below W.heap.size W w') from
      ksame_yes mb _ _ _ _ _ _ W ((machr_ints HGB10.out).1.to hb.size (same_below hb)) ((machr_ints HGB10.out).2.1.to hb.size (same_below hb)) ((machr_ints HGB10.out).2.2.to hb.size (same_below hb)) ((machr_ints HGC.out).1.to hb.size (same_below hb)) ((machr_ints HGC.out).2.1.to hb.size (same_below hb)) ((machr_ints HGC.out).2.2.to hb.size (same_below hb))))
    have HBR := Lib.hid (Below.refl w10.heap.size w10)
    clear HGB10 HGC
    go_upto_region 25 with fail
    first
      | (go_region_with (first | (go_at_call 24; refine (HSM.out _ ?_).mono ?_; (first | exact HBR.out | exact below_drewN HBR.out _); rintro e w11 ⟨rfl, hb11⟩; have HB11 := Lib.hid hb11)); all_goals go_wp2; all_goals go_ret; all_goals exact ⟨ret_bool (by simp), HB10.out.trans ((below_drewN HBR.out 1).trans (HB11.out.mono (by simp)) |>.mono HB10.out.size)⟩)
      | (go_wp2_with fail; refine (HSM.out _ HBR.out).mono ?_; rintro e w11 ⟨rfl, hb11⟩; have HB11 := Lib.hid (HB10.out.trans (hb11.mono HB10.out.size)); clear hb11; go_wp2; go_ret; exact ⟨ret_bool (by simp), HB11.out⟩)

set_option maxRecDepth 100000 in
theorem lifted (os : Os) (started : os.Started) (H : Type) (enc : TypeId × Value → H) :
    ReturnsInHanded {} Tryd.checked os 8 .any (fun w args => (Rows.recordsStepSpec.pre enc Tryd.prog Tryd.f8 [] false w args ∧ laidMetH Tryd.prog laidW w) ∧ sizedMet enc Tryd.prog Tryd.f8 (OpenSpec.ofChange Rows.recordsStepSpec) false w args) (Rows.recordsStepSpec.post enc Tryd.prog Tryd.f8 false true false false) := by
  refine returnsInHanded_of_change_and (C := Tryd.checked) (X := fun w _ => laidMetH Tryd.prog laidW w) (fun _ _ _ hh h => h.of_heap hh) Facts.own started (by kernel_rfl) Tryd.func8
    (ChangeSpec.witness_shaped (enc := enc) (C := Tryd.checked) (os := os) (X := fun w _ => laidMetH Tryd.prog laidW w) false (World.doorLaid Tryd.prog 400 os) #[.slice none 0 0, .slice none 0 0, .int .i64 0, .int .i64 0] 8 rfl (World.shaped_of_RefB (by kernel_rfl) (by kernel_rfl)) (by kernel_rfl) (by kernel_rfl) (by kernel_rfl) (door_met os _)) ?_
  intro W base args ds gs before hval0 hW hcnd hsz0 hL _
  have hsz : (DataW.weightsEach Tryd.prog (Tryd.f8.params.toList ++ Rows.recordsStepSpec.plain.varTypes Tryd.prog) (ds ++ gs)).all (· ≤ reachBytes) = true := hsz0
  have hval : ∀ (j : Nat) t v, Tryd.f8.params[j]? = some t → args[j]? = some v → Value.okWide Tryd.prog W .any base t v := hval0
  have hW' := hW
  obtain ⟨p, q, hA0, hV, rfl, hfz, hnd⟩ := hW
  have hA : DataW.TrodAll enc Tryd.prog W 0 (fun _ => true) true Tryd.f8.params.toList args.toList ds p := hA0
  rw [Tryd.params8] at hA hval hsz
  obtain ⟨v0, vs0, d0, ds0, p0, q0, hargs, rfl, rfl, h0, r0⟩ := trodAll_cons hA
  obtain ⟨v1, vs1, d1, ds1, p1, q1, rfl, rfl, rfl, h1, r1⟩ := trodAll_cons r0
  obtain ⟨v2, vs2, d2, ds2, p2, q2, rfl, rfl, rfl, h2, r2⟩ := trodAll_cons r1
  obtain ⟨v3, vs3, d3, ds3, p3, q3, rfl, rfl, rfl, h3, r3⟩ := trodAll_cons r2
  obtain ⟨rfl, rfl, rfl⟩ := trodAll_nil r3
  obtain rfl : args = #[v0, v1, v2, v3] := by cases args; simp_all
  obtain ⟨rfl, rfl⟩ := trodVars_none hV
  have k0 := h0
  have lt0 : ∀ x ∈ p0, x.block < W.heap.size := by obtain ⟨m, hm⟩ := k0; exact DataW.trod_lt m _ _ _ hm
  obtain ⟨x0_0, w0⟩ := open_rawsR (hval 0 22 v0 rfl rfl) h0 (fits_at hsz (j := 0) rfl rfl)
  have k1 := h1
  have lt1 : ∀ x ∈ p1, x.block < W.heap.size := by obtain ⟨m, hm⟩ := k1; exact DataW.trod_lt m _ _ _ hm
  obtain ⟨x1_0, w1⟩ := open_rawsR (hval 1 22 v1 rfl rfl) h1 (fits_at hsz (j := 1) rfl rfl)
  have k2 := h2
  have lt2 : ∀ x ∈ p2, x.block < W.heap.size := by obtain ⟨m, hm⟩ := k2; exact DataW.trod_lt m _ _ _ hm
  obtain ⟨a2, rfl, rfl, rfl, w2⟩ := open_int Tryd.underlying3 (hval 2 3 v2 rfl rfl) h2
  have k3 := h3
  have lt3 : ∀ x ∈ p3, x.block < W.heap.size := by obtain ⟨m, hm⟩ := k3; exact DataW.trod_lt m _ _ _ hm
  obtain ⟨a3, rfl, rfl, rfl, w3⟩ := open_int Tryd.underlying3 (hval 3 3 v3 rfl rfl) h3
  clear hA0 hval0
  refine (walk W (tab_of_laid hL) v0 x0_0 w0 v1 x1_0 w1 a2 (Go.bounds_i64 w2) a3 (Go.bounds_i64 w3)).mono fun e W' ⟨he, bel⟩ => ?_
  subst he
  exact ⟨_, rfl, _, _, _, [], _, [], hW', trodAll_mk1 (shut_bool Tryd.underlying4 _), (trodAll_cons_mk (Below.trod Facts.laidOut (by kernel_rfl) (of_decide_eq_true (by kernel_rfl)) k0 bel lt0) (trodAll_cons_mk (Below.trod Facts.laidOut (by kernel_rfl) (of_decide_eq_true (by kernel_rfl)) k1 bel lt1) (trodAll_cons_mk (Below.trod Facts.laidOut (by kernel_rfl) (of_decide_eq_true (by kernel_rfl)) k2 bel lt2) (trodAll_cons_mk (Below.trod Facts.laidOut (by kernel_rfl) (of_decide_eq_true (by kernel_rfl)) k3 bel lt3) trodAll_mk0)))), rfl, bel.frame _, fun h => by cases h⟩

theorem closed : joinedFacts Tryd.prog 8 Tryd.f8 Rows.recordsStepSpec Rows.recordsStepRow = true := by
  unfold joinedFacts
  rw [Facts.enters, Facts.lifts, Facts.made]
  kernel_rfl

theorem over : Rows.recordsStepRow.holds Tryd.pinned (OpenSpec.ofChange Rows.recordsStepSpec) :=
  OpenClaim.holds_of_wide 8 Tryd.f8 rfl rfl rfl rfl rfl rfl rfl ⟨rfl, rfl, rfl, rfl, rfl⟩ rfl rfl rfl rfl rfl (by kernel_rfl) Tryd.func8 closed
    (of_decide_eq_true (by kernel_rfl)) (by unfold Func.isWrapper; first | (rw [if_pos (by decide +kernel)]; kernel_rfl) | (rw [if_neg (by decide +kernel)]; exact ⟨rfl, rfl⟩))
    (fun os started H enc _ => lifted os started H enc)

theorem proved : Rows.RecordsStepCardSaid :=
  Claim7.holds_tied_plain_at .later [] [.data] true (true, "6d5b78e78c95c40ea946ebdd402936f35e25dfe14a1593a4fc0ed35c5b3a85a9") false over (fun _ h => by cases h) (by kernel_rfl) (fun _ h => by cases h) recordsStep_row_tie rfl ⟨rfl, rfl⟩ (by kernel_rfl) rfl
    (fun f fn hf hfn => by
      obtain rfl : f = 8 := Option.some.inj ((show Tryd.prog.funcNamed "hourglass/hourglasskeep.RecordsStep" = some 8 by kernel_rfl).symm.trans hf) |>.symm
      obtain rfl : fn = Tryd.f8 := (Option.some.inj (Tryd.func8.symm.trans hfn)).symm
      exact ⟨by kernel_rfl, fun j t ht => by
        rw [Tryd.params8] at ht
        have hm : t ∈ [22, 22, 3, 3] := by simpa using Array.mem_of_getElem? ht
        have hall : ([22, 22, 3, 3].all fun u => !Tryd.prog.wantsStandIn u) = true := by kernel_rfl
        exact (show Tryd.prog.wantsStandIn t = false by simpa using List.all_eq_true.1 hall t hm)⟩)
    (by kernel_rfl)
#print axioms proved
end Go.Proofs.YtilcnlmapifdgaaDoor.lRecordsStep
