/- The law hourglasstop.TopReplay returns true at all raw things and all numbers, the table laid as the program's text lays it. No further condition. -/
import Derived.Test.YtpdbcdfgonnnnaaDoorRows
import Derived.Test.YtpdbcdfgonnnnaaDoorYMem
import Derived.Test.YtpdbcdfgonnnnaaDoorYFacts
import Derived.WalkKit
import Derived.ProofKit
import Derived.OpenShut
import Derived.ShutString
import Derived.ChangeOld
import Derived.Below
import Derived.Test.YtpdbcdfgonnnnaaDoorYVp
import Derived.Test.YtpdbcdfgonnnnaaDoorYKv
import Derived.Test.YtpdbcdfgonnnnaaDoorYEu
import Derived.Test.YtpdbcdfgonnnnaaDoorYPk
import Derived.Test.YtpdbcdfgonnnnaaDoorYKr
import Derived.Test.YtpdbcdfgonnnnaaDoorYWa
import Derived.Test.YtpdbcdfgonnnnaaDoorTie
import Derived.Test.YtpdbcdfgonnnnaaDoorCards
import Derived.SevenTiedAt
import Derived.Deep.RegionHeld3
import Derived.Deep.RegionLaw
import Derived.Deep.CutBlock
import Derived.Deep.CutRange
import Derived.Deep.LoopGhost
namespace Go.Proofs.YtpdbcdfgonnnnaaDoor.lTopReplay
open Go Go.RowKit Go.ChangeShapes Go.WideShapes Go.ChangeAt Go.Deep
set_option maxHeartbeats 8000000
set_option maxRecDepth 100000
open Go.ChangeMaps (open_string shut_string)
set_option linter.unusedVariables false
attribute [local go_sem ↓] Go.wp_at_zero Go.wp_at_succ
theorem walk (W : World) (ht : Tab W) (v1 : Value) (xs : List Rw) (h1 : RawsR W.heap.size W v1 xs) (v2 : Value) (ys : List Rw) (h2 : RawsR W.heap.size W v2 ys) (n : Int) (hn : I64 n) (every : Int) (he : I64 every) (keep : Int) (hk : I64 keep) : Calls Tryd.prog 3 #[v1, v2, .int .i64 n, .int .i64 every, .int .i64 keep] W fun e W' => e = .returned (.bool true) ∧ Below W.heap.size W W' := by
 have HT := Lib.hid ht
 have HDT := Lib.hid (decktells_any W ht)
 have HKR := Lib.hid (fun (w : World) (hb : Below W.heap.size W w) => trecorded_any v1 v2 xs ys n w (ht.to hb) (h1.to hb.size (same_below hb)) (h2.to hb.size (same_below hb)) hn)
 have HSU := Lib.hid (fun w => tsetup_any every keep w he hk)
 obtain ⟨p0, p1⟩ := pick_rng every 90 (by omega)
 obtain ⟨q0, q1⟩ := pick_rng keep 8 (by omega)
 have HSO : Hid (SetOk 200 (1 + pickZ every 90) (1 + pickZ keep 8) ∧ 16 * (1 + pickZ keep 8 + 2) ≤ 200) := Lib.hid ⟨⟨by omega, by omega, by omega, by omega, by omega, by omega⟩, by omega⟩
 generalize 1 + pickZ every 90 = se at *
 generalize 1 + pickZ keep 8 = sk at *
 clear ht h1 h2 hn he hk p0 p1 q0 q1
 go_enter Tryd.func3, Tryd.ntmps3
 go_wp2_with fail
 refine HDT.out.mono ?_
 rintro e w0 ⟨rfl, hb0⟩
 have HB0 := Lib.hid hb0
 clear hb0 HDT
 go_wp2_with fail
 refine (HKR.out w0 HB0.out).mono ?_
 rintro e w1 ⟨img, is, vs, bs, ds, l, N, m, ai, ab, ar, am, ao, ci, cb, cr, cm, co, rfl, hk, hb1⟩
 go_upto_region 4 with fail
 have HBA := Lib.hid (below_alloc2 w1 (.cells #[.slice ai img.length ci, .slice ab l.length cb, .int .i64 N] 27 (0, 0)) (.cells #[.slice ar m.regs.length cr, .int .i64 m.pc, .int .i64 m.back, .bool m.ints, .bool m.wait, .int .i64 m.table, .int .i64 m.count, .int .i64 m.fin, .slice am m.mem.length cm, .slice ao m.out.length co, .int .i64 m.ready, .int .i64 m.want] 29 (0, 0)))
 obtain ⟨w2, hw2⟩ : ∃ W, W = ((w1.alloc (.cells #[.slice ai img.length ci, .slice ab l.length cb, .int .i64 N] 27 (0, 0))).alloc (.cells #[.slice ar m.regs.length cr, .int .i64 m.pc, .int .i64 m.back, .bool m.ints, .bool m.wait, .int .i64 m.table, .int .i64 m.count, .int .i64 m.fin, .slice am m.mem.length cm, .slice ao m.out.length co, .int .i64 m.ready, .int .i64 m.want] 29 (0, 0))) := ⟨_, rfl⟩
 have HX1 := Lib.hid (show w2.heap[w1.heap.size]? = some (.cells #[.slice ai img.length ci, .slice ab l.length cb, .int .i64 N] 27 (0, 0)) from by rw [hw2]; exact (alloc_lt (by simp)).trans (alloc_at rfl))
 have HX2 := Lib.hid (show w2.heap[w1.heap.size + 1]? = some (.cells #[.slice ar m.regs.length cr, .int .i64 m.pc, .int .i64 m.back, .bool m.ints, .bool m.wait, .int .i64 m.table, .int .i64 m.count, .int .i64 m.fin, .slice am m.mem.length cm, .slice ao m.out.length co, .int .i64 m.ready, .int .i64 m.want] 29 (0, 0)) from by rw [hw2]; exact alloc_at (by simp))
 rw [← hw2] at HBA ⊢
 obtain ⟨gt, hgt⟩ : ∃ g, g = w1.heap.size := ⟨_, rfl⟩
 obtain ⟨gg, hgg⟩ : ∃ g, g = w1.heap.size + 1 := ⟨_, rfl⟩
 rw [← hgg] at HX2 ⊢
 rw [← hgt] at HX1 ⊢
 clear hw2 hgt hgg
 have hb2 := hb1.trans (HBA.out.mono hb1.size)
 have HB2 := Lib.hid (HB0.out.trans (hb2.mono HB0.out.size))
 have HK := Lib.hid (hk.to HBA.out)
 have HM : Hid (m = (recI is vs bs ds (recS0 img) N).m) := Lib.hid hk.rc.mach
 have hN := hk.rc.tape.le
 clear HBA hb1 hk HKR hb2
 have t0 : w2.cell? ⟨gt, 0, none⟩ = some (.slice ai img.length ci) := cell_block HX1.out 0
 have t1 : w2.cell? ⟨gt, 1, none⟩ = some (.slice ab l.length cb) := cell_block HX1.out 1
 have t2 : w2.cell? ⟨gt, 2, none⟩ = some (.int .i64 N) := cell_block HX1.out 2
 have lt2 : gt < w2.heap.size := (Array.getElem?_eq_some_iff.1 HX1.out).1
 have lg2 : gg < w2.heap.size := (Array.getElem?_eq_some_iff.1 HX2.out).1
 have HSK := Lib.hid (fun (U : World) (vz : Value) (hb : Below w2.heap.size w2 U) (hz : Ints U.heap.size U vz [(N : Int)]) => (show Calls Tryd.prog 11 #[.agg #[.int .i64 200, .int .i64 se, .int .i64 sk], .agg #[.slice ai img.length ci, .slice ab l.length cb, .int .i64 N], vz] U (fun e w' => ∃ B g0 ca xr yr xm ym xo yo, e = .returned (.tuple #[.slice (some ⟨g0, 0, none⟩) 1 ca, .int .i64 0]) ∧ Below w2.heap.size w2 w' ∧ OutsR B w' (.slice (some ⟨g0, 0, none⟩) 1 ca) [⟨m, xr, yr, xm, ym, xo, yo⟩]) from by
  refine (kseek_any (HK.out.to hb) (HT.out.to (HB2.out.trans (hb.mono HB2.out.size))) HSO.out.1 HSO.out.2 hz (by simp) (fun z hz => by rw [List.mem_singleton.1 hz]; omega)).mono ?_
  rintro e w3 ⟨hb3, va, ca, ls, ho, hm, rfl⟩
  obtain ⟨x, rfl⟩ : ∃ x, ls = [x] := List.length_eq_one_iff.1 (by have := congrArg List.length hm; simpa using this)
  obtain ⟨g, cap, hv, hg, hc⟩ := ho.get (i := 0) (by simp)
  injection hv with e1 e2 e3
  subst e1
  obtain ⟨xm0, xr, yr, xm, ym, xo, yo⟩ := x
  have hxm : xm0 = m := by
   have : [xm0] = [(recI is vs bs ds (recS0 img) (N : Int).toNat).m] := hm
   rw [HM.out, (List.cons.inj this).1, Int.toNat_natCast]
  subst hxm
  exact ⟨_, g, ca, xr, yr, xm, ym, xo, yo, rfl, hb.trans (hb3.mono hb.size), ho⟩))
 have HBD := Lib.hid (show Below w2.heap.size w2 w2.drew from below_drewN (Below.refl _ _) 1)
 have HIN := Lib.hid (fun (U : World) => ints_new U [(N : Int)] (fun z hz => by rw [List.mem_singleton.1 hz]; unfold I64; omega) (by simp))
 clear HSO
 go_upto_region 4 with fail
 go_cut [14, 15] from 26 to 49 (fun s14 s15 wx => ∃ (B g0 ca : Nat) (xr : Option Addr) (yr : Nat) (xm : Option Addr) (ym : Nat) (xo : Option Addr) (yo : Nat), s14 = .slice (some ⟨g0, 0, none⟩) 1 ca ∧ s15 = .int .i64 0 ∧ Hid (Below w2.heap.size w2 wx) ∧ Hid (OutsR B wx (.slice (some ⟨g0, 0, none⟩) 1 ca) [⟨m, xr, yr, xm, ym, xo, yo⟩]))
 case first =>
  go_region_held3 (fun w' => w'.cell? ⟨gt, 0, none⟩ = some (.slice ai img.length ci) ∧ w'.cell? ⟨gt, 1, none⟩ = some (.slice ab l.length cb) ∧ w'.cell? ⟨gt, 2, none⟩ = some (.int .i64 N)) (first | ((try dsimp only); (repeat' apply And.intro) <;> (first | assumption | go_keep))) (first
   | (go_at_call 12; (with_reducible refine (HSU.out _).mono ?_); rintro e wS ⟨rfl, hbS⟩; have HBR := Lib.hid hbS; have HBS : Hid (Below w2.heap.size w2 wS) := Lib.hid (by first | exact HBD.out.trans hbS | exact (HBD.out.alloc (Nat.le_refl _) _).trans (hbS.mono (by simp))); have HXS := Lib.hid (block_below HBS.out HX1.out (Array.getElem?_eq_some_iff.1 HX1.out).1); have s0 := cell_block HXS.out 0; have s1 := cell_block HXS.out 1; have s2 := cell_block HXS.out 2; simp only [List.getElem?_toArray, List.getElem?_cons_zero, List.getElem?_cons_succ] at s0 s1 s2; have ltS : gt < wS.heap.size := (Array.getElem?_eq_some_iff.1 HXS.out).1; clear hbS)
   | (go_at_call 11; (with_reducible refine (HSK.out _ _ ?_ ?_).mono ?_); (first | exact HBS.out.alloc HBS.out.size _ | exact HBS.out); (first | exact HIN.out _ | exact (HIN.out _).to HBR.out.size (same_below HBR.out)); rintro e w3 ⟨B, g0, ca, xr, yr, xm, ym, xo, yo, rfl, hb3, ho3⟩; have HB3 := Lib.hid hb3; have HO3 := Lib.hid ho3; have HXT := Lib.hid (block_below hb3 HX1.out (Array.getElem?_eq_some_iff.1 HX1.out).1); have u0 := cell_block HXT.out 0; have u1 := cell_block HXT.out 1; have u2 := cell_block HXT.out 2; simp only [List.getElem?_toArray, List.getElem?_cons_zero, List.getElem?_cons_succ] at u0 u1 u2; have ltT : gt < w3.heap.size := (Array.getElem?_eq_some_iff.1 HXT.out).1; clear hb3 ho3))
  all_goals (go_wp2_with fail; go_meet)
  all_goals (case rel => exact ⟨B, g0, ca, xr, yr, xm, ym, xo, yo, rfl, rfl, HB3, HO3⟩)
 case rest =>
  obtain ⟨B, g0, ca, xr, yr, xm, ym, xo, yo, rfl, rfl, HB3, HO3⟩ := hcut
  obtain ⟨w3, hw3⟩ : ∃ w3, w3 = wc := ⟨_, rfl⟩
  subst hw3
  have HX23 := Lib.hid (block_below HB3.out HX2.out (Array.getElem?_eq_some_iff.1 HX2.out).1)
  have HK3 := Lib.hid (HK.out.to HB3.out)
  have HXI := Lib.hid (MGR.ints (HO3.out.el _ (List.mem_singleton.2 rfl)))
  obtain ⟨g9, cap9, hv9, hg9, hc9⟩ := HO3.out.get (i := 0) (by simp)
  injection hv9 with e1 e2 e3
  injection e1 with e1
  injection e1 with e1
  subst e1
  have c0 : w3.cell? ⟨g0, 0, none⟩ = some (.slice xr m.regs.length yr) := hc9 0 (by decide)
  have c1 : w3.cell? ⟨g0, 1, none⟩ = some (.int .i64 m.pc) := hc9 1 (by decide)
  have c2 : w3.cell? ⟨g0, 2, none⟩ = some (.int .i64 m.back) := hc9 2 (by decide)
  have c3 : w3.cell? ⟨g0, 3, none⟩ = some (.bool m.ints) := hc9 3 (by decide)
  have c4 : w3.cell? ⟨g0, 4, none⟩ = some (.bool m.wait) := hc9 4 (by decide)
  have c5 : w3.cell? ⟨g0, 5, none⟩ = some (.int .i64 m.table) := hc9 5 (by decide)
  have c6 : w3.cell? ⟨g0, 6, none⟩ = some (.int .i64 m.count) := hc9 6 (by decide)
  have c7 : w3.cell? ⟨g0, 7, none⟩ = some (.int .i64 m.fin) := hc9 7 (by decide)
  have c8 : w3.cell? ⟨g0, 8, none⟩ = some (.slice xm m.mem.length ym) := hc9 8 (by decide)
  have c9 : w3.cell? ⟨g0, 9, none⟩ = some (.slice xo m.out.length yo) := hc9 9 (by decide)
  have c10 : w3.cell? ⟨g0, 10, none⟩ = some (.int .i64 m.ready) := hc9 10 (by decide)
  have c11 : w3.cell? ⟨g0, 11, none⟩ = some (.int .i64 m.want) := hc9 11 (by decide)
  first | (obtain ⟨d0, d1, d2, d3, d4, d5, d6, d7, d8, d9, d10, d11⟩ := cells12 HX23.out) | (obtain ⟨d0, d1, d2, d3, d4, d5, d6, d7, d8, d9, d10, d11⟩ := cells13 HX23.out)
  have lg3 : gg < w3.heap.size := (Array.getElem?_eq_some_iff.1 HX23.out).1
  have HSM := Lib.hid (fun (U : World) (hb : Below w3.heap.size w3 U) => (show Calls Tryd.prog 13 #[.agg #[.slice xr m.regs.length yr, .int .i64 m.pc, .int .i64 m.back, .bool m.ints, .bool m.wait, .int .i64 m.table, .int .i64 m.count, .int .i64 m.fin, .slice xm m.mem.length ym, .slice xo m.out.length yo, .int .i64 m.ready, .int .i64 m.want], .agg #[.slice ar m.regs.length cr, .int .i64 m.pc, .int .i64 m.back, .bool m.ints, .bool m.wait, .int .i64 m.table, .int .i64 m.count, .int .i64 m.fin, .slice am m.mem.length cm, .slice ao m.out.length co, .int .i64 m.ready, .int .i64 m.want]] U (fun e w' => e = .returned (.bool true) ∧ Below U.heap.size U w') from
   tsame_yes m _ _ _ _ _ _ U (HXI.out.1.to hb.size (same_below hb)) (HXI.out.2.1.to hb.size (same_below hb)) (HXI.out.2.2.to hb.size (same_below hb)) ((machr_ints HK3.out.g).1.to hb.size (same_below hb)) ((machr_ints HK3.out.g).2.1.to hb.size (same_below hb)) ((machr_ints HK3.out.g).2.2.to hb.size (same_below hb))))
  have HBR := Lib.hid (Below.refl w3.heap.size w3)
  have HB5 := Lib.hid (HB2.out.trans (HB3.out.mono HB2.out.size))
  clear HSK HSU HB3 HX23 HK3 HXI HO3 hc9 e2 e3 t0 t1 t2 lt2 lg2 HX1 HX2 HK HM HBD HIN
  go_upto_region 5 with fail
  go_still_tail 10, (by kernel_rfl)
  change wpList _ _ _ _ _ w3.drew
  have HSD := Lib.hid (HSM.out w3.drew (below_drewN HBR.out 1))
  have HBD := Lib.hid (below_drewN HBR.out 1)
  go_wp2_with fail
  refine HSD.out.mono ?_
  rintro e w4 ⟨rfl, hb4⟩
  have HB4 := Lib.hid hb4
  clear hb4
  go_wp2
  go_ret
  exact ⟨ret_bool (by simp), HB5.out.trans ((HBD.out.trans (HB4.out.mono (by simp))).mono HB5.out.size)⟩
theorem lifted (os : Os) (started : os.Started) (H : Type) (enc : TypeId × Value → H) :
  ReturnsInHanded {} Tryd.checked os 3 .any (fun w args => (Rows.topReplaySpec.pre enc Tryd.prog Tryd.f3 [] false w args ∧ laidMetH Tryd.prog laidW w) ∧ sizedMet enc Tryd.prog Tryd.f3 (OpenSpec.ofChange Rows.topReplaySpec) false w args) (Rows.topReplaySpec.post enc Tryd.prog Tryd.f3 false true false false) := by
 refine returnsInHanded_of_change_and (C := Tryd.checked) (X := fun w _ => laidMetH Tryd.prog laidW w) (fun _ _ _ hh h => h.of_heap hh) Facts.own started (by kernel_rfl) Tryd.func3
  (ChangeSpec.witness_shaped (enc := enc) (C := Tryd.checked) (os := os) (X := fun w _ => laidMetH Tryd.prog laidW w) false (World.doorLaid Tryd.prog 400 os) #[.slice none 0 0, .slice none 0 0, .int .i64 0, .int .i64 0, .int .i64 0] 8 rfl (World.shaped_of_RefB (by kernel_rfl) (by kernel_rfl)) (by kernel_rfl) (by kernel_rfl) (by kernel_rfl) (door_met os _)) ?_
 intro W base args ds gs before hval0 hW hcnd hsz0 hL _
 have hsz : (DataW.weightsEach Tryd.prog (Tryd.f3.params.toList ++ Rows.topReplaySpec.plain.varTypes Tryd.prog) (ds ++ gs)).all (· ≤ reachBytes) = true := hsz0
 have hval : ∀ (j : Nat) t v, Tryd.f3.params[j]? = some t → args[j]? = some v → Value.okWide Tryd.prog W .any base t v := hval0
 have hW' := hW
 obtain ⟨p, q, hA0, hV, rfl, hfz, hnd⟩ := hW
 have hA : DataW.TrodAll enc Tryd.prog W 0 (fun _ => true) true Tryd.f3.params.toList args.toList ds p := hA0
 rw [Tryd.params3] at hA hval hsz
 obtain ⟨v0, vs0, d0, ds0, p0, q0, hargs, rfl, rfl, h0, r0⟩ := trodAll_cons hA
 obtain ⟨v1, vs1, d1, ds1, p1, q1, rfl, rfl, rfl, h1, r1⟩ := trodAll_cons r0
 obtain ⟨v2, vs2, d2, ds2, p2, q2, rfl, rfl, rfl, h2, r2⟩ := trodAll_cons r1
 obtain ⟨v3, vs3, d3, ds3, p3, q3, rfl, rfl, rfl, h3, r3⟩ := trodAll_cons r2
 obtain ⟨v4, vs4, d4, ds4, p4, q4, rfl, rfl, rfl, h4, r4⟩ := trodAll_cons r3
 obtain ⟨rfl, rfl, rfl⟩ := trodAll_nil r4
 obtain rfl : args = #[v0, v1, v2, v3, v4] := by cases args; simp_all
 obtain ⟨rfl, rfl⟩ := trodVars_none hV
 have k0 := h0
 have lt0 : ∀ x ∈ p0, x.block < W.heap.size := by obtain ⟨m, hm⟩ := k0; exact DataW.trod_lt m _ _ _ hm
 obtain ⟨x0_0, w0⟩ := open_rawsR (hval 0 22 v0 rfl rfl) h0 (fits_at hsz (j := 0) rfl rfl)
 have k1 := h1
 have lt1 : ∀ x ∈ p1, x.block < W.heap.size := by obtain ⟨m, hm⟩ := k1; exact DataW.trod_lt m _ _ _ hm
 obtain ⟨x1_0, w1⟩ := open_rawsR (hval 1 22 v1 rfl rfl) h1 (fits_at hsz (j := 1) rfl rfl)
 have k2 := h2
 have lt2 : ∀ x ∈ p2, x.block < W.heap.size := by obtain ⟨m, hm⟩ := k2; exact DataW.trod_lt m _ _ _ hm
 obtain ⟨a2, rfl, rfl, rfl, w2⟩ := open_int Tryd.underlying3 (hval 2 3 v2 rfl rfl) h2
 have k3 := h3
 have lt3 : ∀ x ∈ p3, x.block < W.heap.size := by obtain ⟨m, hm⟩ := k3; exact DataW.trod_lt m _ _ _ hm
 obtain ⟨a3, rfl, rfl, rfl, w3⟩ := open_int Tryd.underlying3 (hval 3 3 v3 rfl rfl) h3
 have k4 := h4
 have lt4 : ∀ x ∈ p4, x.block < W.heap.size := by obtain ⟨m, hm⟩ := k4; exact DataW.trod_lt m _ _ _ hm
 obtain ⟨a4, rfl, rfl, rfl, w4⟩ := open_int Tryd.underlying3 (hval 4 3 v4 rfl rfl) h4
 clear hA0 hval0
 refine (walk W (tab_of_laid hL) v0 x0_0 w0 v1 x1_0 w1 a2 (Go.bounds_i64 w2) a3 (Go.bounds_i64 w3) a4 (Go.bounds_i64 w4)).mono fun e W' ⟨he, bel⟩ => ?_
 subst he
 exact ⟨_, rfl, _, _, _, [], _, [], hW', trodAll_mk1 (shut_bool Tryd.underlying4 _), (trodAll_cons_mk (Below.trod Facts.laidOut (by kernel_rfl) (of_decide_eq_true (by kernel_rfl)) k0 bel lt0) (trodAll_cons_mk (Below.trod Facts.laidOut (by kernel_rfl) (of_decide_eq_true (by kernel_rfl)) k1 bel lt1) (trodAll_cons_mk (Below.trod Facts.laidOut (by kernel_rfl) (of_decide_eq_true (by kernel_rfl)) k2 bel lt2) (trodAll_cons_mk (Below.trod Facts.laidOut (by kernel_rfl) (of_decide_eq_true (by kernel_rfl)) k3 bel lt3) (trodAll_cons_mk (Below.trod Facts.laidOut (by kernel_rfl) (of_decide_eq_true (by kernel_rfl)) k4 bel lt4) trodAll_mk0))))), rfl, bel.frame _, fun h => by cases h⟩
theorem closed : joinedFacts Tryd.prog 3 Tryd.f3 Rows.topReplaySpec Rows.topReplayRow = true := by
 unfold joinedFacts
 rw [Facts.enters, Facts.lifts, Facts.made]
 kernel_rfl
theorem over : Rows.topReplayRow.holds Tryd.pinned (OpenSpec.ofChange Rows.topReplaySpec) :=
 OpenClaim.holds_of_wide 3 Tryd.f3 rfl rfl rfl rfl rfl rfl rfl ⟨rfl, rfl, rfl, rfl, rfl⟩ rfl rfl rfl rfl rfl (by kernel_rfl) Tryd.func3 closed
  (of_decide_eq_true (by kernel_rfl)) (by unfold Func.isWrapper; first | (rw [if_pos (by decide +kernel)]; kernel_rfl) | (rw [if_neg (by decide +kernel)]; exact ⟨rfl, rfl⟩))
  (fun os started H enc _ => lifted os started H enc)
theorem proved : Rows.TopReplayCardSaid :=
 Claim7.holds_tied_plain_at .later [] [.data] true (true, "850d05a04a8e8d5f98819d9d0a54a36c2c86ac0283d882885c8e6c491e21e498") false over (fun _ h => by cases h) (by kernel_rfl) (fun _ h => by cases h) topReplay_row_tie rfl ⟨rfl, rfl⟩ (by kernel_rfl) rfl
  (fun f fn hf hfn => by
   obtain rfl : f = 3 := Option.some.inj ((show Tryd.prog.funcNamed "hourglass/hourglasstop.TopReplay" = some 3 by kernel_rfl).symm.trans hf) |>.symm
   obtain rfl : fn = Tryd.f3 := (Option.some.inj (Tryd.func3.symm.trans hfn)).symm
   exact ⟨by kernel_rfl, fun j t ht => by
    rw [Tryd.params3] at ht
    have hm : t ∈ [22, 22, 3, 3, 3] := by simpa using Array.mem_of_getElem? ht
    have hall : ([22, 22, 3, 3, 3].all fun u => !Tryd.prog.wantsStandIn u) = true := by kernel_rfl
    exact (show Tryd.prog.wantsStandIn t = false by simpa using List.all_eq_true.1 hall t hm)⟩)
  (by kernel_rfl)
#print axioms proved
end Go.Proofs.YtpdbcdfgonnnnaaDoor.lTopReplay
