/- The law hourglasstop.TopSeek returns true at all raw things and all numbers, the table laid as the program's text lays it. No further condition. -/
import Derived.Test.YtpdbcdfgonnnnaaDoorRows
import Derived.Test.YtpdbcdfgonnnnaaDoorYMem
import Derived.Test.YtpdbcdfgonnnnaaDoorYFacts
import Derived.WalkKit
import Derived.ProofKit
import Derived.OpenShut
import Derived.ShutString
import Derived.ChangeOld
import Derived.Below
import Derived.Test.YtpdbcdfgonnnnaaDoorYVp
import Derived.Test.YtpdbcdfgonnnnaaDoorYKv
import Derived.Test.YtpdbcdfgonnnnaaDoorYEu
import Derived.Test.YtpdbcdfgonnnnaaDoorYPk
import Derived.Test.YtpdbcdfgonnnnaaDoorYKr
import Derived.Test.YtpdbcdfgonnnnaaDoorYWa
import Derived.Test.YtpdbcdfgonnnnaaDoorTie
import Derived.Test.YtpdbcdfgonnnnaaDoorCards
import Derived.SevenTiedAt
import Derived.Deep.RegionHeld3
import Derived.Deep.RegionLaw
import Derived.Deep.CutBlock
import Derived.Deep.CutRange
import Derived.Deep.LoopGhost
namespace Go.Proofs.YtpdbcdfgonnnnaaDoor.lTopSeek
open Go Go.RowKit Go.ChangeShapes Go.WideShapes Go.ChangeAt Go.Deep
set_option maxHeartbeats 8000000
set_option maxRecDepth 100000
open Go.ChangeMaps (open_string shut_string)
set_option linter.unusedVariables false
attribute [local go_sem ↓] Go.wp_at_zero Go.wp_at_succ
theorem len1_of {α : Type} {l : List α} (h : l.length = 1) : ∃ a, l = [a] := List.length_eq_one_iff.1 h
theorem len5_of {α : Type} {l : List α} (h : l.length = 5) : ∃ a b c d e, l = [a, b, c, d, e] := by
 match l, h with
 | [a, b, c, d, e], _ => exact ⟨a, b, c, d, e, rfl⟩
theorem walk (W : World) (ht : Tab W) (v1 : Value) (xs : List Rw) (h1 : RawsR W.heap.size W v1 xs) (v2 : Value) (ys : List Rw) (h2 : RawsR W.heap.size W v2 ys) (n : Int) (hn : I64 n) (a : Int) (ha : I64 a) (b : Int) (hb : I64 b) (every : Int) (he : I64 every) (keep : Int) (hk : I64 keep) : Calls Tryd.prog 4 #[v1, v2, .int .i64 n, .int .i64 a, .int .i64 b, .int .i64 every, .int .i64 keep] W fun e W' => e = .returned (.bool true) ∧ Below W.heap.size W W' := by
 have HT := Lib.hid ht
 have HDT := Lib.hid (decktells_any W ht)
 have HKR := Lib.hid (fun (w : World) (hb : Below W.heap.size W w) => trecorded_any v1 v2 xs ys n w (ht.to hb) (h1.to hb.size (same_below hb)) (h2.to hb.size (same_below hb)) hn)
 have HSU := Lib.hid (fun w => tsetup_any every keep w he hk)
 obtain ⟨p0, p1⟩ := pick_rng every 90 (by omega)
 obtain ⟨q0, q1⟩ := pick_rng keep 8 (by omega)
 have HSO : Hid (SetOk 200 (1 + pickZ every 90) (1 + pickZ keep 8) ∧ 16 * (1 + pickZ keep 8 + 2) ≤ 200) := Lib.hid ⟨⟨by omega, by omega, by omega, by omega, by omega, by omega⟩, by omega⟩
 generalize 1 + pickZ every 90 = se at *
 generalize 1 + pickZ keep 8 = sk at *
 have HA := Lib.hid ha
 have HB := Lib.hid hb
 clear ht h1 h2 hn he hk p0 p1 q0 q1 ha hb
 go_enter Tryd.func4, Tryd.ntmps4
 go_wp2_with fail
 refine HDT.out.mono ?_
 rintro e w0 ⟨rfl, hb0⟩
 have HB0 := Lib.hid hb0
 clear hb0 HDT
 go_wp2_with fail
 refine (HKR.out w0 HB0.out).mono ?_
 rintro e w1 ⟨img, is, vs, bs, ds, l, N, m, ai, ab, ar, am, ao, ci, cb, cr, cm, co, rfl, hk, hb1⟩
 go_upto_region 4 with fail
 have HBA := Lib.hid (below_alloc2 w1 (.cells #[.slice ai img.length ci, .slice ab l.length cb, .int .i64 N] 27 (0, 0)) (.cells #[.slice ar m.regs.length cr, .int .i64 m.pc, .int .i64 m.back, .bool m.ints, .bool m.wait, .int .i64 m.table, .int .i64 m.count, .int .i64 m.fin, .slice am m.mem.length cm, .slice ao m.out.length co, .int .i64 m.ready, .int .i64 m.want] 29 (0, 0)))
 obtain ⟨w2, hw2⟩ : ∃ W, W = ((w1.alloc (.cells #[.slice ai img.length ci, .slice ab l.length cb, .int .i64 N] 27 (0, 0))).alloc (.cells #[.slice ar m.regs.length cr, .int .i64 m.pc, .int .i64 m.back, .bool m.ints, .bool m.wait, .int .i64 m.table, .int .i64 m.count, .int .i64 m.fin, .slice am m.mem.length cm, .slice ao m.out.length co, .int .i64 m.ready, .int .i64 m.want] 29 (0, 0))) := ⟨_, rfl⟩
 have HX1 := Lib.hid (show w2.heap[w1.heap.size]? = some (.cells #[.slice ai img.length ci, .slice ab l.length cb, .int .i64 N] 27 (0, 0)) from by rw [hw2]; exact (alloc_lt (by simp)).trans (alloc_at rfl))
 have HX2 := Lib.hid (show w2.heap[w1.heap.size + 1]? = some (.cells #[.slice ar m.regs.length cr, .int .i64 m.pc, .int .i64 m.back, .bool m.ints, .bool m.wait, .int .i64 m.table, .int .i64 m.count, .int .i64 m.fin, .slice am m.mem.length cm, .slice ao m.out.length co, .int .i64 m.ready, .int .i64 m.want] 29 (0, 0)) from by rw [hw2]; exact alloc_at (by simp))
 rw [← hw2] at HBA ⊢
 obtain ⟨gt, hgt⟩ : ∃ g, g = w1.heap.size := ⟨_, rfl⟩
 obtain ⟨gg, hgg⟩ : ∃ g, g = w1.heap.size + 1 := ⟨_, rfl⟩
 rw [← hgg] at HX2 ⊢
 rw [← hgt] at HX1 ⊢
 clear hw2 hgt hgg
 have hb2 := hb1.trans (HBA.out.mono hb1.size)
 have HB2 := Lib.hid (HB0.out.trans (hb2.mono HB0.out.size))
 have HK := Lib.hid (hk.to HBA.out)
 have HM_m : Hid (m = (recI is vs bs ds (recS0 img) N).m) := Lib.hid hk.rc.mach
 have hN := hk.rc.tape.le
 clear HBA hb1 hk HKR hb2
 have t0 : w2.cell? ⟨gt, 0, none⟩ = some (.slice ai img.length ci) := cell_block HX1.out 0
 have t1 : w2.cell? ⟨gt, 1, none⟩ = some (.slice ab l.length cb) := cell_block HX1.out 1
 have t2 : w2.cell? ⟨gt, 2, none⟩ = some (.int .i64 N) := cell_block HX1.out 2
 have lt2 : gt < w2.heap.size := (Array.getElem?_eq_some_iff.1 HX1.out).1
 have lg2 : gg < w2.heap.size := (Array.getElem?_eq_some_iff.1 HX2.out).1
 obtain ⟨x0, x1⟩ := pick_rng a ((N : Int) + 1) (by omega)
 obtain ⟨y0, y1⟩ := pick_rng b ((N : Int) + 1) (by omega)
 have HPA := Lib.hid (fun w => ppicked_any a ((N : Int) + 1) w HA.out.1 HA.out.2 (by omega) (by omega))
 have HPB := Lib.hid (fun w => ppicked_any b ((N : Int) + 1) w HB.out.1 HB.out.2 (by omega) (by omega))
 generalize pickZ a ((N : Int) + 1) = x at *
 generalize pickZ b ((N : Int) + 1) = y at *
 obtain ⟨mx, hmx⟩ : ∃ mx, mx = (recI is vs bs ds (recS0 img) x.toNat).m := ⟨_, rfl⟩
 obtain ⟨my, hmy⟩ : ∃ my, my = (recI is vs bs ds (recS0 img) y.toNat).m := ⟨_, rfl⟩
 have HM_mx := Lib.hid hmx
 have HM_my := Lib.hid hmy
 have w1N : IntKind.i64.wrap ((N : Int) + 1) = (N : Int) + 1 := IntWalk.i64_in _ (by omega)
 clear hmx hmy HA HB
 have HS5 := Lib.hid (fun (U : World) (vz : Value) (hb : Below w2.heap.size w2 U) (hz : Ints U.heap.size U vz [x, y, x, (N : Int), y]) => (show Calls Tryd.prog 11 #[.agg #[.int .i64 200, .int .i64 se, .int .i64 sk], .agg #[.slice ai img.length ci, .slice ab l.length cb, .int .i64 N], vz] U (fun e w' => ∃ (B g0 ca : Nat) (xr0 : Option Addr) (yr0 : Nat) (xm0 : Option Addr) (ym0 : Nat) (xo0 : Option Addr) (yo0 : Nat) (xr1 : Option Addr) (yr1 : Nat) (xm1 : Option Addr) (ym1 : Nat) (xo1 : Option Addr) (yo1 : Nat) (xr2 : Option Addr) (yr2 : Nat) (xm2 : Option Addr) (ym2 : Nat) (xo2 : Option Addr) (yo2 : Nat) (xr3 : Option Addr) (yr3 : Nat) (xm3 : Option Addr) (ym3 : Nat) (xo3 : Option Addr) (yo3 : Nat) (xr4 : Option Addr) (yr4 : Nat) (xm4 : Option Addr) (ym4 : Nat) (xo4 : Option Addr) (yo4 : Nat), e = .returned (.tuple #[.slice (some ⟨g0, 0, none⟩) 5 ca, .int .i64 0]) ∧ Below U.heap.size U w' ∧ OutsR B w' (.slice (some ⟨g0, 0, none⟩) 5 ca) [⟨mx, xr0, yr0, xm0, ym0, xo0, yo0⟩, ⟨my, xr1, yr1, xm1, ym1, xo1, yo1⟩, ⟨mx, xr2, yr2, xm2, ym2, xo2, yo2⟩, ⟨m, xr3, yr3, xm3, ym3, xo3, yo3⟩, ⟨my, xr4, yr4, xm4, ym4, xo4, yo4⟩]) from by
  refine (kseek_any (HK.out.to hb) (HT.out.to (HB2.out.trans (hb.mono HB2.out.size))) HSO.out.1 HSO.out.2 hz (by simp) (fun z hz => by simp at hz; omega)).mono ?_
  rintro e w3 ⟨hb3, va, ca, ls, ho, hm, rfl⟩
  obtain ⟨q0, q1, q2, q3, q4, rfl⟩ : ∃ q0 q1 q2 q3 q4, ls = [q0, q1, q2, q3, q4] := len5_of (by have := congrArg List.length hm; simpa using this)
  obtain ⟨g, cap, hv, hg, hc⟩ := ho.get (i := 0) (by simp)
  injection hv with e1 e2 e3
  subst e1
  obtain ⟨k0, xr0, yr0, xm0, ym0, xo0, yo0⟩ := q0
  obtain ⟨k1, xr1, yr1, xm1, ym1, xo1, yo1⟩ := q1
  obtain ⟨k2, xr2, yr2, xm2, ym2, xo2, yo2⟩ := q2
  obtain ⟨k3, xr3, yr3, xm3, ym3, xo3, yo3⟩ := q3
  obtain ⟨k4, xr4, yr4, xm4, ym4, xo4, yo4⟩ := q4
  simp only [List.map_cons, List.map_nil, List.cons.injEq, and_true] at hm
  obtain ⟨hm0, hm1, hm2, hm3, hm4⟩ := hm
  have hk0 : k0 = mx := by rw [hm0, HM_mx.out]; try simp
  have hk1 : k1 = my := by rw [hm1, HM_my.out]; try simp
  have hk2 : k2 = mx := by rw [hm2, HM_mx.out]; try simp
  have hk3 : k3 = m := by rw [hm3, HM_m.out]; try simp
  have hk4 : k4 = my := by rw [hm4, HM_my.out]; try simp
  rw [hk0] at ho
  rw [hk1] at ho
  rw [hk2] at ho
  rw [hk3] at ho
  rw [hk4] at ho
  exact ⟨_, g, ca, xr0, yr0, xm0, ym0, xo0, yo0, xr1, yr1, xm1, ym1, xo1, yo1, xr2, yr2, xm2, ym2, xo2, yo2, xr3, yr3, xm3, ym3, xo3, yo3, xr4, yr4, xm4, ym4, xo4, yo4, rfl, hb3, ho⟩))
 have HS1 := Lib.hid (fun (U : World) (vz : Value) (hb : Below w2.heap.size w2 U) (hz : Ints U.heap.size U vz [y]) => (show Calls Tryd.prog 11 #[.agg #[.int .i64 200, .int .i64 se, .int .i64 sk], .agg #[.slice ai img.length ci, .slice ab l.length cb, .int .i64 N], vz] U (fun e w' => ∃ (B g0 ca : Nat) (xr5 : Option Addr) (yr5 : Nat) (xm5 : Option Addr) (ym5 : Nat) (xo5 : Option Addr) (yo5 : Nat), e = .returned (.tuple #[.slice (some ⟨g0, 0, none⟩) 1 ca, .int .i64 0]) ∧ Below U.heap.size U w' ∧ OutsR B w' (.slice (some ⟨g0, 0, none⟩) 1 ca) [⟨my, xr5, yr5, xm5, ym5, xo5, yo5⟩]) from by
  refine (kseek_any (HK.out.to hb) (HT.out.to (HB2.out.trans (hb.mono HB2.out.size))) HSO.out.1 HSO.out.2 hz (by simp) (fun z hz => by simp at hz; omega)).mono ?_
  rintro e w3 ⟨hb3, va, ca, ls, ho, hm, rfl⟩
  obtain ⟨q0, rfl⟩ : ∃ q0, ls = [q0] := len1_of (by have := congrArg List.length hm; simpa using this)
  obtain ⟨g, cap, hv, hg, hc⟩ := ho.get (i := 0) (by simp)
  injection hv with e1 e2 e3
  subst e1
  obtain ⟨k0, xr5, yr5, xm5, ym5, xo5, yo5⟩ := q0
  simp only [List.map_cons, List.map_nil, List.cons.injEq, and_true] at hm
  have hm0 := hm
  have hk0 : k0 = my := by rw [hm0, HM_my.out]; try simp
  rw [hk0] at ho
  exact ⟨_, g, ca, xr5, yr5, xm5, ym5, xo5, yo5, rfl, hb3, ho⟩))
 have HI5 := Lib.hid (fun (U : World) => ints_new U [x, y, x, (N : Int), y] (fun z hz => by simp at hz; unfold I64; omega) (by simp))
 have HI1 := Lib.hid (fun (U : World) => ints_new U [y] (fun z hz => by simp at hz; unfold I64; omega) (by simp))
 clear HSO x0 x1 y0 y1
 go_wp2_with fail
 refine (HPA.out _).mono ?_
 rintro e w' ⟨rfl, rfl⟩
 go_wp2_with fail
 refine (HPB.out _).mono ?_
 rintro e w' ⟨rfl, rfl⟩
 go_wp2_with fail
 refine (HSU.out _).mono ?_
 rintro e w5 ⟨rfl, hb5⟩
 clear HPA HPB HSU w1N
 go_upto_region 7 with fail
 have HBA := Lib.hid (below_alloc w5 (.cells #[.int .i64 200, .int .i64 se, .int .i64 sk] 37 (0, 0)))
 obtain ⟨w6, hw6⟩ : ∃ W, W = (w5.alloc (.cells #[.int .i64 200, .int .i64 se, .int .i64 sk] 37 (0, 0))) := ⟨_, rfl⟩
 have HXS := Lib.hid (show w6.heap[w5.heap.size]? = some (.cells #[.int .i64 200, .int .i64 se, .int .i64 sk] 37 (0, 0)) from by rw [hw6]; exact alloc_at rfl)
 rw [← hw6] at HBA ⊢
 obtain ⟨gs, hgs⟩ : ∃ g, g = w5.heap.size := ⟨_, rfl⟩
 rw [← hgs] at HXS ⊢
 clear hw6 hgs
 have hb6 := hb5.trans (HBA.out.mono hb5.size)
 have HB6 := Lib.hid hb6
 have HX16 := Lib.hid (block_below hb6 HX1.out (Array.getElem?_eq_some_iff.1 HX1.out).1)
 clear t0 t1 t2 lt2 lg2 hb5 hb6 HBA
 have t0 : w6.cell? ⟨gt, 0, none⟩ = some (.slice ai img.length ci) := cell_block HX16.out 0
 have t1 : w6.cell? ⟨gt, 1, none⟩ = some (.slice ab l.length cb) := cell_block HX16.out 1
 have t2 : w6.cell? ⟨gt, 2, none⟩ = some (.int .i64 N) := cell_block HX16.out 2
 have s0 : w6.cell? ⟨gs, 0, none⟩ = some (.int .i64 200) := cell_block HXS.out 0
 have s1 : w6.cell? ⟨gs, 1, none⟩ = some (.int .i64 se) := cell_block HXS.out 1
 have s2 : w6.cell? ⟨gs, 2, none⟩ = some (.int .i64 sk) := cell_block HXS.out 2
 have lt6 : gt < w6.heap.size := (Array.getElem?_eq_some_iff.1 HX16.out).1
 have ls6 : gs < w6.heap.size := (Array.getElem?_eq_some_iff.1 HXS.out).1
 have HSK := Lib.hid (HS5.out _ _ (HB6.out.alloc HB6.out.size _) (HI5.out w6))
 have HBN := Lib.hid (HB6.out.alloc HB6.out.size (.cells #[.int .i64 x, .int .i64 y, .int .i64 x, .int .i64 N, .int .i64 y] 3 (0, 0)))
 go_wp2_with fail
 refine HSK.out.mono ?_
 rintro e w7 ⟨B5, g5, ca5, xr0, yr0, xm0, ym0, xo0, yo0, xr1, yr1, xm1, ym1, xo1, yo1, xr2, yr2, xm2, ym2, xo2, yo2, xr3, yr3, xm3, ym3, xo3, yo3, xr4, yr4, xm4, ym4, xo4, yo4, rfl, hb7, ho5⟩
 have HB7 := Lib.hid (HBN.out.trans (hb7.mono HBN.out.size))
 have HO5 := Lib.hid ho5
 have hb67 : Below w6.heap.size w6 w7 := (below_alloc w6 _).trans (hb7.mono (by simp))
 clear HSK HBN ho5 t0 t1 t2 s0 s1 s2 lt6 ls6 hb7
 have HX17 := Lib.hid (block_below hb67 HX16.out (Array.getElem?_eq_some_iff.1 HX16.out).1)
 have HXS7 := Lib.hid (block_below hb67 HXS.out (Array.getElem?_eq_some_iff.1 HXS.out).1)
 clear HX16 HXS hb67
 have t0 : w7.cell? ⟨gt, 0, none⟩ = some (.slice ai img.length ci) := cell_block HX17.out 0
 have t1 : w7.cell? ⟨gt, 1, none⟩ = some (.slice ab l.length cb) := cell_block HX17.out 1
 have t2 : w7.cell? ⟨gt, 2, none⟩ = some (.int .i64 N) := cell_block HX17.out 2
 have s0 : w7.cell? ⟨gs, 0, none⟩ = some (.int .i64 200) := cell_block HXS7.out 0
 have s1 : w7.cell? ⟨gs, 1, none⟩ = some (.int .i64 se) := cell_block HXS7.out 1
 have s2 : w7.cell? ⟨gs, 2, none⟩ = some (.int .i64 sk) := cell_block HXS7.out 2
 have lt7 : gt < w7.heap.size := (Array.getElem?_eq_some_iff.1 HX17.out).1
 have ls7 : gs < w7.heap.size := (Array.getElem?_eq_some_iff.1 HXS7.out).1
 have HSK := Lib.hid (HS1.out _ _ (HB7.out.alloc HB7.out.size _) (HI1.out w7))
 have HBN := Lib.hid (HB7.out.alloc HB7.out.size (.cells #[.int .i64 y] 3 (0, 0)))
 go_wp2_with fail
 refine HSK.out.mono ?_
 rintro e w8 ⟨B1, g1, ca1, xr5, yr5, xm5, ym5, xo5, yo5, rfl, hb8, ho1⟩
 have HB8 := Lib.hid (HBN.out.trans (hb8.mono HBN.out.size))
 have HO1 := Lib.hid ho1
 have hb78 : Below w7.heap.size w7 w8 := (below_alloc w7 _).trans (hb8.mono (by simp))
 have HO58 := Lib.hid (HO5.out.below hb78)
 have HBF := Lib.hid (HB2.out.trans (HB8.out.mono HB2.out.size))
 clear HSK HBN ho1 t0 t1 t2 s0 s1 s2 lt7 ls7 hb8 hb78 HX17 HXS7 HO5 HS5 HS1 HI5 HI1 HX1 HX2 HK HB7 HB6
 obtain ⟨ggua, capua, hvua, hgua, hcua⟩ := HO58.out.get (i := 0) (by simp)
 injection hvua with e1 e2 e3
 injection e1 with e1
 injection e1 with e1
 subst e1
 have ua0 : w8.cell? ⟨g5, 0, none⟩ = some (.slice xr0 mx.regs.length yr0) := hcua 0 (by decide)
 have ua1 : w8.cell? ⟨g5, 1, none⟩ = some (.int .i64 mx.pc) := hcua 1 (by decide)
 have ua2 : w8.cell? ⟨g5, 2, none⟩ = some (.int .i64 mx.back) := hcua 2 (by decide)
 have ua3 : w8.cell? ⟨g5, 3, none⟩ = some (.bool mx.ints) := hcua 3 (by decide)
 have ua4 : w8.cell? ⟨g5, 4, none⟩ = some (.bool mx.wait) := hcua 4 (by decide)
 have ua5 : w8.cell? ⟨g5, 5, none⟩ = some (.int .i64 mx.table) := hcua 5 (by decide)
 have ua6 : w8.cell? ⟨g5, 6, none⟩ = some (.int .i64 mx.count) := hcua 6 (by decide)
 have ua7 : w8.cell? ⟨g5, 7, none⟩ = some (.int .i64 mx.fin) := hcua 7 (by decide)
 have ua8 : w8.cell? ⟨g5, 8, none⟩ = some (.slice xm0 mx.mem.length ym0) := hcua 8 (by decide)
 have ua9 : w8.cell? ⟨g5, 9, none⟩ = some (.slice xo0 mx.out.length yo0) := hcua 9 (by decide)
 have ua10 : w8.cell? ⟨g5, 10, none⟩ = some (.int .i64 mx.ready) := hcua 10 (by decide)
 have ua11 : w8.cell? ⟨g5, 11, none⟩ = some (.int .i64 mx.want) := hcua 11 (by decide)
 clear hcua e2 e3 hgua
 obtain ⟨ggub, capub, hvub, hgub, hcub⟩ := HO58.out.get (i := 1) (by simp)
 injection hvub with e1 e2 e3
 injection e1 with e1
 injection e1 with e1
 subst e1
 have ub0 : w8.cell? ⟨g5, 12, none⟩ = some (.slice xr1 my.regs.length yr1) := hcub 0 (by decide)
 have ub1 : w8.cell? ⟨g5, 13, none⟩ = some (.int .i64 my.pc) := hcub 1 (by decide)
 have ub2 : w8.cell? ⟨g5, 14, none⟩ = some (.int .i64 my.back) := hcub 2 (by decide)
 have ub3 : w8.cell? ⟨g5, 15, none⟩ = some (.bool my.ints) := hcub 3 (by decide)
 have ub4 : w8.cell? ⟨g5, 16, none⟩ = some (.bool my.wait) := hcub 4 (by decide)
 have ub5 : w8.cell? ⟨g5, 17, none⟩ = some (.int .i64 my.table) := hcub 5 (by decide)
 have ub6 : w8.cell? ⟨g5, 18, none⟩ = some (.int .i64 my.count) := hcub 6 (by decide)
 have ub7 : w8.cell? ⟨g5, 19, none⟩ = some (.int .i64 my.fin) := hcub 7 (by decide)
 have ub8 : w8.cell? ⟨g5, 20, none⟩ = some (.slice xm1 my.mem.length ym1) := hcub 8 (by decide)
 have ub9 : w8.cell? ⟨g5, 21, none⟩ = some (.slice xo1 my.out.length yo1) := hcub 9 (by decide)
 have ub10 : w8.cell? ⟨g5, 22, none⟩ = some (.int .i64 my.ready) := hcub 10 (by decide)
 have ub11 : w8.cell? ⟨g5, 23, none⟩ = some (.int .i64 my.want) := hcub 11 (by decide)
 clear hcub e2 e3 hgub
 obtain ⟨gguc, capuc, hvuc, hguc, hcuc⟩ := HO58.out.get (i := 2) (by simp)
 injection hvuc with e1 e2 e3
 injection e1 with e1
 injection e1 with e1
 subst e1
 have uc0 : w8.cell? ⟨g5, 24, none⟩ = some (.slice xr2 mx.regs.length yr2) := hcuc 0 (by decide)
 have uc1 : w8.cell? ⟨g5, 25, none⟩ = some (.int .i64 mx.pc) := hcuc 1 (by decide)
 have uc2 : w8.cell? ⟨g5, 26, none⟩ = some (.int .i64 mx.back) := hcuc 2 (by decide)
 have uc3 : w8.cell? ⟨g5, 27, none⟩ = some (.bool mx.ints) := hcuc 3 (by decide)
 have uc4 : w8.cell? ⟨g5, 28, none⟩ = some (.bool mx.wait) := hcuc 4 (by decide)
 have uc5 : w8.cell? ⟨g5, 29, none⟩ = some (.int .i64 mx.table) := hcuc 5 (by decide)
 have uc6 : w8.cell? ⟨g5, 30, none⟩ = some (.int .i64 mx.count) := hcuc 6 (by decide)
 have uc7 : w8.cell? ⟨g5, 31, none⟩ = some (.int .i64 mx.fin) := hcuc 7 (by decide)
 have uc8 : w8.cell? ⟨g5, 32, none⟩ = some (.slice xm2 mx.mem.length ym2) := hcuc 8 (by decide)
 have uc9 : w8.cell? ⟨g5, 33, none⟩ = some (.slice xo2 mx.out.length yo2) := hcuc 9 (by decide)
 have uc10 : w8.cell? ⟨g5, 34, none⟩ = some (.int .i64 mx.ready) := hcuc 10 (by decide)
 have uc11 : w8.cell? ⟨g5, 35, none⟩ = some (.int .i64 mx.want) := hcuc 11 (by decide)
 clear hcuc e2 e3 hguc
 obtain ⟨ggue, capue, hvue, hgue, hcue⟩ := HO58.out.get (i := 4) (by simp)
 injection hvue with e1 e2 e3
 injection e1 with e1
 injection e1 with e1
 subst e1
 have ue0 : w8.cell? ⟨g5, 48, none⟩ = some (.slice xr4 my.regs.length yr4) := hcue 0 (by decide)
 have ue1 : w8.cell? ⟨g5, 49, none⟩ = some (.int .i64 my.pc) := hcue 1 (by decide)
 have ue2 : w8.cell? ⟨g5, 50, none⟩ = some (.int .i64 my.back) := hcue 2 (by decide)
 have ue3 : w8.cell? ⟨g5, 51, none⟩ = some (.bool my.ints) := hcue 3 (by decide)
 have ue4 : w8.cell? ⟨g5, 52, none⟩ = some (.bool my.wait) := hcue 4 (by decide)
 have ue5 : w8.cell? ⟨g5, 53, none⟩ = some (.int .i64 my.table) := hcue 5 (by decide)
 have ue6 : w8.cell? ⟨g5, 54, none⟩ = some (.int .i64 my.count) := hcue 6 (by decide)
 have ue7 : w8.cell? ⟨g5, 55, none⟩ = some (.int .i64 my.fin) := hcue 7 (by decide)
 have ue8 : w8.cell? ⟨g5, 56, none⟩ = some (.slice xm4 my.mem.length ym4) := hcue 8 (by decide)
 have ue9 : w8.cell? ⟨g5, 57, none⟩ = some (.slice xo4 my.out.length yo4) := hcue 9 (by decide)
 have ue10 : w8.cell? ⟨g5, 58, none⟩ = some (.int .i64 my.ready) := hcue 10 (by decide)
 have ue11 : w8.cell? ⟨g5, 59, none⟩ = some (.int .i64 my.want) := hcue 11 (by decide)
 clear hcue e2 e3 hgue
 obtain ⟨gguf, capuf, hvuf, hguf, hcuf⟩ := HO1.out.get (i := 0) (by simp)
 injection hvuf with e1 e2 e3
 injection e1 with e1
 injection e1 with e1
 subst e1
 have uf0 : w8.cell? ⟨g1, 0, none⟩ = some (.slice xr5 my.regs.length yr5) := hcuf 0 (by decide)
 have uf1 : w8.cell? ⟨g1, 1, none⟩ = some (.int .i64 my.pc) := hcuf 1 (by decide)
 have uf2 : w8.cell? ⟨g1, 2, none⟩ = some (.int .i64 my.back) := hcuf 2 (by decide)
 have uf3 : w8.cell? ⟨g1, 3, none⟩ = some (.bool my.ints) := hcuf 3 (by decide)
 have uf4 : w8.cell? ⟨g1, 4, none⟩ = some (.bool my.wait) := hcuf 4 (by decide)
 have uf5 : w8.cell? ⟨g1, 5, none⟩ = some (.int .i64 my.table) := hcuf 5 (by decide)
 have uf6 : w8.cell? ⟨g1, 6, none⟩ = some (.int .i64 my.count) := hcuf 6 (by decide)
 have uf7 : w8.cell? ⟨g1, 7, none⟩ = some (.int .i64 my.fin) := hcuf 7 (by decide)
 have uf8 : w8.cell? ⟨g1, 8, none⟩ = some (.slice xm5 my.mem.length ym5) := hcuf 8 (by decide)
 have uf9 : w8.cell? ⟨g1, 9, none⟩ = some (.slice xo5 my.out.length yo5) := hcuf 9 (by decide)
 have uf10 : w8.cell? ⟨g1, 10, none⟩ = some (.int .i64 my.ready) := hcuf 10 (by decide)
 have uf11 : w8.cell? ⟨g1, 11, none⟩ = some (.int .i64 my.want) := hcuf 11 (by decide)
 clear hcuf e2 e3 hguf
 have l5 : g5 < w8.heap.size := (HO58.out.row.lt g5 rfl).2
 have l1 : g1 < w8.heap.size := (HO1.out.row.lt g1 rfl).2
 have HN0 := Lib.hid (MGR.ints (HO58.out.el ⟨mx, xr0, yr0, xm0, ym0, xo0, yo0⟩ (by simp)))
 have HN1 := Lib.hid (MGR.ints (HO58.out.el ⟨my, xr1, yr1, xm1, ym1, xo1, yo1⟩ (by simp)))
 have HN2 := Lib.hid (MGR.ints (HO58.out.el ⟨mx, xr2, yr2, xm2, ym2, xo2, yo2⟩ (by simp)))
 have HN4 := Lib.hid (MGR.ints (HO58.out.el ⟨my, xr4, yr4, xm4, ym4, xo4, yo4⟩ (by simp)))
 have HN5 := Lib.hid (MGR.ints (HO1.out.el ⟨my, xr5, yr5, xm5, ym5, xo5, yo5⟩ (by simp)))
 have HM1 := Lib.hid (fun (U : World) (hb : Below w8.heap.size w8 U) => (show Calls Tryd.prog 13 #[.agg #[.slice xr0 mx.regs.length yr0, .int .i64 mx.pc, .int .i64 mx.back, .bool mx.ints, .bool mx.wait, .int .i64 mx.table, .int .i64 mx.count, .int .i64 mx.fin, .slice xm0 mx.mem.length ym0, .slice xo0 mx.out.length yo0, .int .i64 mx.ready, .int .i64 mx.want], .agg #[.slice xr2 mx.regs.length yr2, .int .i64 mx.pc, .int .i64 mx.back, .bool mx.ints, .bool mx.wait, .int .i64 mx.table, .int .i64 mx.count, .int .i64 mx.fin, .slice xm2 mx.mem.length ym2, .slice xo2 mx.out.length yo2, .int .i64 mx.ready, .int .i64 mx.want]] U (fun e w' => e = .returned (.bool true) ∧ Below U.heap.size U w') from
  tsame_yes mx _ _ _ _ _ _ U (HN0.out.1.to hb.size (same_below hb)) (HN0.out.2.1.to hb.size (same_below hb)) (HN0.out.2.2.to hb.size (same_below hb)) (HN2.out.1.to hb.size (same_below hb)) (HN2.out.2.1.to hb.size (same_below hb)) (HN2.out.2.2.to hb.size (same_below hb))))
 have HM2 := Lib.hid (fun (U : World) (hb : Below w8.heap.size w8 U) => (show Calls Tryd.prog 13 #[.agg #[.slice xr1 my.regs.length yr1, .int .i64 my.pc, .int .i64 my.back, .bool my.ints, .bool my.wait, .int .i64 my.table, .int .i64 my.count, .int .i64 my.fin, .slice xm1 my.mem.length ym1, .slice xo1 my.out.length yo1, .int .i64 my.ready, .int .i64 my.want], .agg #[.slice xr4 my.regs.length yr4, .int .i64 my.pc, .int .i64 my.back, .bool my.ints, .bool my.wait, .int .i64 my.table, .int .i64 my.count, .int .i64 my.fin, .slice xm4 my.mem.length ym4, .slice xo4 my.out.length yo4, .int .i64 my.ready, .int .i64 my.want]] U (fun e w' => e = .returned (.bool true) ∧ Below U.heap.size U w') from
  tsame_yes my _ _ _ _ _ _ U (HN1.out.1.to hb.size (same_below hb)) (HN1.out.2.1.to hb.size (same_below hb)) (HN1.out.2.2.to hb.size (same_below hb)) (HN4.out.1.to hb.size (same_below hb)) (HN4.out.2.1.to hb.size (same_below hb)) (HN4.out.2.2.to hb.size (same_below hb))))
 have HM3 := Lib.hid (fun (U : World) (hb : Below w8.heap.size w8 U) => (show Calls Tryd.prog 13 #[.agg #[.slice xr1 my.regs.length yr1, .int .i64 my.pc, .int .i64 my.back, .bool my.ints, .bool my.wait, .int .i64 my.table, .int .i64 my.count, .int .i64 my.fin, .slice xm1 my.mem.length ym1, .slice xo1 my.out.length yo1, .int .i64 my.ready, .int .i64 my.want], .agg #[.slice xr5 my.regs.length yr5, .int .i64 my.pc, .int .i64 my.back, .bool my.ints, .bool my.wait, .int .i64 my.table, .int .i64 my.count, .int .i64 my.fin, .slice xm5 my.mem.length ym5, .slice xo5 my.out.length yo5, .int .i64 my.ready, .int .i64 my.want]] U (fun e w' => e = .returned (.bool true) ∧ Below U.heap.size U w') from
  tsame_yes my _ _ _ _ _ _ U (HN1.out.1.to hb.size (same_below hb)) (HN1.out.2.1.to hb.size (same_below hb)) (HN1.out.2.2.to hb.size (same_below hb)) (HN5.out.1.to hb.size (same_below hb)) (HN5.out.2.1.to hb.size (same_below hb)) (HN5.out.2.2.to hb.size (same_below hb))))
 have HBR := Lib.hid (Below.refl w8.heap.size w8)
 clear HN0 HN1 HN2 HN4 HN5 HO1 HO58 HM_m HM_mx HM_my HB8 HB2 HB0 HT
 obtain ⟨L, hL⟩ : ∃ L, L = w8.heap.size := ⟨_, rfl⟩
 rw [← hL] at l5 l1
 have HLL := Lib.hid hL
 clear hL
 go_upto_region 9 with fail
 go_region_held3 (fun w' => ∀ b o, b < L → w'.cell? ⟨b, o, none⟩ = w8.cell? ⟨b, o, none⟩) (first | assumption | exact fun _ _ _ => rfl) (first
  | (go_at_call 13; (with_reducible refine (HM1.out _ ?_).mono ?_); (first | exact HBR.out | exact below_drewN HBR.out _); rintro e u1 ⟨rfl, hq⟩; have HQ1 := Lib.hid ((below_drewN HBR.out 1).trans (hq.mono (by simp))); have hs1 : ∀ b o, b < L → u1.cell? ⟨b, o, none⟩ = w8.cell? ⟨b, o, none⟩ := (by rw [HLL.out]; exact same_below HQ1.out); clear hq)
  | (go_at_call 13; (with_reducible refine (HM2.out _ ?_).mono ?_); exact HQ1.out; rintro e u2 ⟨rfl, hq⟩; have HQ2 := Lib.hid (HQ1.out.trans (hq.mono HQ1.out.size)); have hs2 : ∀ b o, b < L → u2.cell? ⟨b, o, none⟩ = w8.cell? ⟨b, o, none⟩ := (by rw [HLL.out]; exact same_below HQ2.out); clear hq)
  | (go_at_call 13; (with_reducible refine (HM3.out _ ?_).mono ?_); exact HQ2.out; rintro e u3 ⟨rfl, hq⟩; have HQ3 := Lib.hid (HQ2.out.trans (hq.mono HQ2.out.size)); have hs3 : ∀ b o, b < L → u3.cell? ⟨b, o, none⟩ = w8.cell? ⟨b, o, none⟩ := (by rw [HLL.out]; exact same_below HQ3.out); clear hq))
 all_goals go_wp2
 all_goals go_ret
 all_goals exact ⟨ret_bool (by simp), HBF.out.trans (HQ3.out.mono HBF.out.size)⟩
theorem lifted (os : Os) (started : os.Started) (H : Type) (enc : TypeId × Value → H) :
  ReturnsInHanded {} Tryd.checked os 4 .any (fun w args => (Rows.topSeekSpec.pre enc Tryd.prog Tryd.f4 [] false w args ∧ laidMetH Tryd.prog laidW w) ∧ sizedMet enc Tryd.prog Tryd.f4 (OpenSpec.ofChange Rows.topSeekSpec) false w args) (Rows.topSeekSpec.post enc Tryd.prog Tryd.f4 false true false false) := by
 refine returnsInHanded_of_change_and (C := Tryd.checked) (X := fun w _ => laidMetH Tryd.prog laidW w) (fun _ _ _ hh h => h.of_heap hh) Facts.own started (by kernel_rfl) Tryd.func4
  (ChangeSpec.witness_shaped (enc := enc) (C := Tryd.checked) (os := os) (X := fun w _ => laidMetH Tryd.prog laidW w) false (World.doorLaid Tryd.prog 400 os) #[.slice none 0 0, .slice none 0 0, .int .i64 0, .int .i64 0, .int .i64 0, .int .i64 0, .int .i64 0] 8 rfl (World.shaped_of_RefB (by kernel_rfl) (by kernel_rfl)) (by kernel_rfl) (by kernel_rfl) (by kernel_rfl) (door_met os _)) ?_
 intro W base args ds gs before hval0 hW hcnd hsz0 hL _
 have hsz : (DataW.weightsEach Tryd.prog (Tryd.f4.params.toList ++ Rows.topSeekSpec.plain.varTypes Tryd.prog) (ds ++ gs)).all (· ≤ reachBytes) = true := hsz0
 have hval : ∀ (j : Nat) t v, Tryd.f4.params[j]? = some t → args[j]? = some v → Value.okWide Tryd.prog W .any base t v := hval0
 have hW' := hW
 obtain ⟨p, q, hA0, hV, rfl, hfz, hnd⟩ := hW
 have hA : DataW.TrodAll enc Tryd.prog W 0 (fun _ => true) true Tryd.f4.params.toList args.toList ds p := hA0
 rw [Tryd.params4] at hA hval hsz
 obtain ⟨v0, vs0, d0, ds0, p0, q0, hargs, rfl, rfl, h0, r0⟩ := trodAll_cons hA
 obtain ⟨v1, vs1, d1, ds1, p1, q1, rfl, rfl, rfl, h1, r1⟩ := trodAll_cons r0
 obtain ⟨v2, vs2, d2, ds2, p2, q2, rfl, rfl, rfl, h2, r2⟩ := trodAll_cons r1
 obtain ⟨v3, vs3, d3, ds3, p3, q3, rfl, rfl, rfl, h3, r3⟩ := trodAll_cons r2
 obtain ⟨v4, vs4, d4, ds4, p4, q4, rfl, rfl, rfl, h4, r4⟩ := trodAll_cons r3
 obtain ⟨v5, vs5, d5, ds5, p5, q5, rfl, rfl, rfl, h5, r5⟩ := trodAll_cons r4
 obtain ⟨v6, vs6, d6, ds6, p6, q6, rfl, rfl, rfl, h6, r6⟩ := trodAll_cons r5
 obtain ⟨rfl, rfl, rfl⟩ := trodAll_nil r6
 obtain rfl : args = #[v0, v1, v2, v3, v4, v5, v6] := by cases args; simp_all
 obtain ⟨rfl, rfl⟩ := trodVars_none hV
 have k0 := h0
 have lt0 : ∀ x ∈ p0, x.block < W.heap.size := by obtain ⟨m, hm⟩ := k0; exact DataW.trod_lt m _ _ _ hm
 obtain ⟨x0_0, w0⟩ := open_rawsR (hval 0 22 v0 rfl rfl) h0 (fits_at hsz (j := 0) rfl rfl)
 have k1 := h1
 have lt1 : ∀ x ∈ p1, x.block < W.heap.size := by obtain ⟨m, hm⟩ := k1; exact DataW.trod_lt m _ _ _ hm
 obtain ⟨x1_0, w1⟩ := open_rawsR (hval 1 22 v1 rfl rfl) h1 (fits_at hsz (j := 1) rfl rfl)
 have k2 := h2
 have lt2 : ∀ x ∈ p2, x.block < W.heap.size := by obtain ⟨m, hm⟩ := k2; exact DataW.trod_lt m _ _ _ hm
 obtain ⟨a2, rfl, rfl, rfl, w2⟩ := open_int Tryd.underlying3 (hval 2 3 v2 rfl rfl) h2
 have k3 := h3
 have lt3 : ∀ x ∈ p3, x.block < W.heap.size := by obtain ⟨m, hm⟩ := k3; exact DataW.trod_lt m _ _ _ hm
 obtain ⟨a3, rfl, rfl, rfl, w3⟩ := open_int Tryd.underlying3 (hval 3 3 v3 rfl rfl) h3
 have k4 := h4
 have lt4 : ∀ x ∈ p4, x.block < W.heap.size := by obtain ⟨m, hm⟩ := k4; exact DataW.trod_lt m _ _ _ hm
 obtain ⟨a4, rfl, rfl, rfl, w4⟩ := open_int Tryd.underlying3 (hval 4 3 v4 rfl rfl) h4
 have k5 := h5
 have lt5 : ∀ x ∈ p5, x.block < W.heap.size := by obtain ⟨m, hm⟩ := k5; exact DataW.trod_lt m _ _ _ hm
 obtain ⟨a5, rfl, rfl, rfl, w5⟩ := open_int Tryd.underlying3 (hval 5 3 v5 rfl rfl) h5
 have k6 := h6
 have lt6 : ∀ x ∈ p6, x.block < W.heap.size := by obtain ⟨m, hm⟩ := k6; exact DataW.trod_lt m _ _ _ hm
 obtain ⟨a6, rfl, rfl, rfl, w6⟩ := open_int Tryd.underlying3 (hval 6 3 v6 rfl rfl) h6
 clear hA0 hval0
 refine (walk W (tab_of_laid hL) v0 x0_0 w0 v1 x1_0 w1 a2 (Go.bounds_i64 w2) a3 (Go.bounds_i64 w3) a4 (Go.bounds_i64 w4) a5 (Go.bounds_i64 w5) a6 (Go.bounds_i64 w6)).mono fun e W' ⟨he, bel⟩ => ?_
 subst he
 exact ⟨_, rfl, _, _, _, [], _, [], hW', trodAll_mk1 (shut_bool Tryd.underlying4 _), (trodAll_cons_mk (Below.trod Facts.laidOut (by kernel_rfl) (of_decide_eq_true (by kernel_rfl)) k0 bel lt0) (trodAll_cons_mk (Below.trod Facts.laidOut (by kernel_rfl) (of_decide_eq_true (by kernel_rfl)) k1 bel lt1) (trodAll_cons_mk (Below.trod Facts.laidOut (by kernel_rfl) (of_decide_eq_true (by kernel_rfl)) k2 bel lt2) (trodAll_cons_mk (Below.trod Facts.laidOut (by kernel_rfl) (of_decide_eq_true (by kernel_rfl)) k3 bel lt3) (trodAll_cons_mk (Below.trod Facts.laidOut (by kernel_rfl) (of_decide_eq_true (by kernel_rfl)) k4 bel lt4) (trodAll_cons_mk (Below.trod Facts.laidOut (by kernel_rfl) (of_decide_eq_true (by kernel_rfl)) k5 bel lt5) (trodAll_cons_mk (Below.trod Facts.laidOut (by kernel_rfl) (of_decide_eq_true (by kernel_rfl)) k6 bel lt6) trodAll_mk0))))))), rfl, bel.frame _, fun h => by cases h⟩
theorem closed : joinedFacts Tryd.prog 4 Tryd.f4 Rows.topSeekSpec Rows.topSeekRow = true := by
 unfold joinedFacts
 rw [Facts.enters, Facts.lifts, Facts.made]
 kernel_rfl
theorem over : Rows.topSeekRow.holds Tryd.pinned (OpenSpec.ofChange Rows.topSeekSpec) :=
 OpenClaim.holds_of_wide 4 Tryd.f4 rfl rfl rfl rfl rfl rfl rfl ⟨rfl, rfl, rfl, rfl, rfl⟩ rfl rfl rfl rfl rfl (by kernel_rfl) Tryd.func4 closed
  (of_decide_eq_true (by kernel_rfl)) (by unfold Func.isWrapper; first | (rw [if_pos (by decide +kernel)]; kernel_rfl) | (rw [if_neg (by decide +kernel)]; exact ⟨rfl, rfl⟩))
  (fun os started H enc _ => lifted os started H enc)
theorem proved : Rows.TopSeekCardSaid :=
 Claim7.holds_tied_plain_at .later [] [.data] true (true, "850d05a04a8e8d5f98819d9d0a54a36c2c86ac0283d882885c8e6c491e21e498") false over (fun _ h => by cases h) (by kernel_rfl) (fun _ h => by cases h) topSeek_row_tie rfl ⟨rfl, rfl⟩ (by kernel_rfl) rfl
  (fun f fn hf hfn => by
   obtain rfl : f = 4 := Option.some.inj ((show Tryd.prog.funcNamed "hourglass/hourglasstop.TopSeek" = some 4 by kernel_rfl).symm.trans hf) |>.symm
   obtain rfl : fn = Tryd.f4 := (Option.some.inj (Tryd.func4.symm.trans hfn)).symm
   exact ⟨by kernel_rfl, fun j t ht => by
    rw [Tryd.params4] at ht
    have hm : t ∈ [22, 22, 3, 3, 3, 3, 3] := by simpa using Array.mem_of_getElem? ht
    have hall : ([22, 22, 3, 3, 3, 3, 3].all fun u => !Tryd.prog.wantsStandIn u) = true := by kernel_rfl
    exact (show Tryd.prog.wantsStandIn t = false by simpa using List.all_eq_true.1 hall t hm)⟩)
  (by kernel_rfl)
#print axioms proved
end Go.Proofs.YtpdbcdfgonnnnaaDoor.lTopSeek
