/- The law hourglasslaw.RunRecords returns true at every image, world and number, the table laid as the program's text lays it. No further condition. -/
import Derived.Test.YtenicnneppgfmaaDoorRows
import Derived.Test.YtenicnneppgfmaaDoorYMem
import Derived.Test.YtenicnneppgfmaaDoorYFacts
import Derived.WalkKit
import Derived.ProofKit
import Derived.OpenShut
import Derived.ShutString
import Derived.ChangeOld
import Derived.Below
import Derived.Test.YtenicnneppgfmaaDoorYSt
import Derived.Test.YtenicnneppgfmaaDoorYDl
import Derived.Test.YtenicnneppgfmaaDoorTie
import Derived.Test.YtenicnneppgfmaaDoorCards
import Derived.SevenTiedAt
import Derived.Deep.AppendLies
import Derived.Deep.RegionLaw
namespace Go.Proofs.YtenicnneppgfmaaDoor.lRunRecords
open Go Go.RowKit Go.ChangeShapes Go.WideShapes Go.ChangeAt Go.Deep
open Go.ChangeMaps (open_string shut_string)
set_option linter.unusedVariables false

set_option maxHeartbeats 8000000 in
set_option maxRecDepth 100000 in
theorem walk1 (W : World) (ht : Tab W) (ai : Option Addr) (ci : Nat) (a0 a1 a2 a3 : Option Addr) (c0 c1 c2 c3 : Nat) (img is vs : List Int) (bs : List (List Int)) (ds : List Int) (n : Int) (hi : Ints W.heap.size W (.slice ai img.length ci) img) (h0 : Ints W.heap.size W (.slice a0 is.length c0) is) (h1 : Ints W.heap.size W (.slice a1 vs.length c1) vs) (h2 : RowsR W.heap.size W (.slice a2 bs.length c2) bs) (h3 : Ints W.heap.size W (.slice a3 ds.length c3) ds) (hn : I64 n) : Calls Tryd.prog 3 #[.slice ai img.length ci, .agg #[.slice a0 is.length c0, .slice a1 vs.length c1, .slice a2 bs.length c2, .slice a3 ds.length c3], .int .i64 n] W fun e W' => e = .returned (.bool true) ∧ Below W.heap.size W W' := by
  have HI := Lib.hid hi
  have H0 := Lib.hid h0
  have H1 := Lib.hid h1
  have H2 := Lib.hid h2
  have H3 := Lib.hid h3
  have HT := Lib.hid ht
  have HN := Lib.hid hn
  have hlen := hi.len
  clear hi h0 h1 h2 h3 ht hn
  go_enter Tryd.func3, Tryd.ntmps3
  go_upto_region 1 with fail
  have HBW := Lib.hid (below_alloc W (.cells #[.slice a0 is.length c0, .slice a1 vs.length c1, .slice a2 bs.length c2, .slice a3 ds.length c3] 25 (0, 0)))
  have HX4 := Lib.hid (show (W.alloc (.cells #[.slice a0 is.length c0, .slice a1 vs.length c1, .slice a2 bs.length c2, .slice a3 ds.length c3] 25 (0, 0))).heap[W.heap.size]? = some (.cells #[.slice a0 is.length c0, .slice a1 vs.length c1, .slice a2 bs.length c2, .slice a3 ds.length c3] 25 (0, 0)) from alloc_at rfl)
  generalize World.alloc W _ = W2 at *
  have l4 := (Array.getElem?_eq_some_iff.1 HX4.out).1
  have u0 : W2.cell? ⟨W.heap.size, 0, none⟩ = some (.slice a0 is.length c0) := cell_block HX4.out 0
  have u1 : W2.cell? ⟨W.heap.size, 1, none⟩ = some (.slice a1 vs.length c1) := cell_block HX4.out 1
  have u2 : W2.cell? ⟨W.heap.size, 2, none⟩ = some (.slice a2 bs.length c2) := cell_block HX4.out 2
  have u3 : W2.cell? ⟨W.heap.size, 3, none⟩ = some (.slice a3 ds.length c3) := cell_block HX4.out 3
  have HREC : Hid (∀ (Y : World) (a : Option Addr) (c : Nat), Below W2.heap.size W2 Y → Ints Y.heap.size Y (.slice a img.length c) img → Calls Tryd.prog 12 #[.slice a img.length c, .agg #[.slice a0 is.length c0, .slice a1 vs.length c1, .slice a2 bs.length c2, .slice a3 ds.length c3], .int .i64 n] Y (RecPost img is vs bs ds n Y)) := Lib.hid (fun Y a c hb hi => record_any a c a0 a1 a2 a3 c0 c1 c2 c3 img is vs bs ds n Y (HT.out.to (HBW.out.trans (hb.mono HBW.out.size))) hi (H0.out.to (HBW.out.trans (hb.mono HBW.out.size)).size (same_below (HBW.out.trans (hb.mono HBW.out.size)))) (H1.out.to (HBW.out.trans (hb.mono HBW.out.size)).size (same_below (HBW.out.trans (hb.mono HBW.out.size)))) (H2.out.to (HBW.out.trans (hb.mono HBW.out.size)).size (same_below (HBW.out.trans (hb.mono HBW.out.size)))) (H3.out.to (HBW.out.trans (hb.mono HBW.out.size)).size (same_below (HBW.out.trans (hb.mono HBW.out.size)))) HN.out)
  have HBVD : Hid (∀ w', Below W2.heap.size W2 w' → SlV 17592186043904 W2.heap.size w' (.slice ai img.length ci) (img.map (Value.int .i64))) := Lib.hid (fun w' hw => (HI.out.to (B' := W2.heap.size) HBW.out.size (same_below (HBW.out.trans (hw.mono HBW.out.size)))).vals)
  generalize hg4 : W.heap.size = g4 at *
  have HG4 := Lib.hid hg4
  clear hg4
  refine rrec_first HREC HBVD HX4 (Lib.hid HI.out.i64) hlen ?_
  intros
  rename_i s7 s8 s9 wc hcut
  unfold RRel at hcut
  obtain ⟨gT, gM, c, l, cnt, i2, m, aI, aB, ar, am, ao, cI, cB, cr, cm, co, hrec, rfl, rfl, rfl, HT1, HM1, HOI, HOB, HBD, HOW, HBC⟩ := hcut
  have HRC := Lib.hid hrec
  clear hrec u0 u1 u2 u3 HREC HBVD
  have hszc := HBC.out.size
  have HBT := Lib.hid (HBW.out.trans (HBC.out.mono (Nat.le_of_lt l4)))
  have hgc : g4 ≤ wc.heap.size := by omega
  have x4 := block_below HBC.out HX4.out l4
  have l4c := (Array.getElem?_eq_some_iff.1 x4).1
  have u0 : wc.cell? ⟨g4, 0, none⟩ = some (.slice a0 is.length c0) := cell_block x4 0
  have u1 : wc.cell? ⟨g4, 1, none⟩ = some (.slice a1 vs.length c1) := cell_block x4 1
  have u2 : wc.cell? ⟨g4, 2, none⟩ = some (.slice a2 bs.length c2) := cell_block x4 2
  have u3 : wc.cell? ⟨g4, 3, none⟩ = some (.slice a3 ds.length c3) := cell_block x4 3
  have HRD := Lib.hid (recorded_any ai ci a0 a1 a2 a3 c0 c1 c2 c3 img is vs bs ds n wc (HI.out.to hgc (same_below HBT.out)) (H0.out.to hgc (same_below HBT.out)) (H1.out.to hgc (same_below HBT.out)) (H2.out.to hgc (same_below HBT.out)) (H3.out.to hgc (same_below HBT.out)) HN.out)
  clear x4 hszc
  go_wp2_with fail
  refine HRD.out.mono ?_
  rintro e w5 ⟨c2, l2, cnt2, i3, m2, vi, vb, br, dr, bm, dm, bo, d0, hrec2, he, hoi, hob, hbd2, hown2, hb5⟩
  obtain ⟨bI, dI, rfl⟩ := own_shape hoi
  obtain ⟨bB, dB, rfl⟩ := own_shape hob
  obtain ⟨rfl, rfl, rfl, rfl, rfl⟩ := HRC.out.det hrec2
  rw [Mach.agg] at he
  subst he
  have hi6 := rec_i64 HRC.out
  have hrd1 := (mown_below HOW.out hb5).reads hi6.1 hi6.2.1 hi6.2.2.1 (by have := hi6.2.2.2.1; omega) (by have := hi6.2.2.2.2.1; omega) (by have := hi6.2.2.2.2.2; omega)
  have hrd2 := hown2.reads hi6.1 hi6.2.1 hi6.2.2.1 (by have := hi6.2.2.2.1; omega) (by have := hi6.2.2.2.2.1; omega) (by have := hi6.2.2.2.2.2; omega)
  rw [Mach.agg] at hrd1 hrd2
  have HR1 := Lib.hid hrd1
  have HR2 := Lib.hid hrd2
  have HI1 := Lib.hid (ints_of_owns (own_below HOI.out hb5 (Nat.le_refl _)) HBD.out.2.1 HBD.out.1)
  have HI2 := Lib.hid (ints_of_owns hoi HBD.out.2.1 HBD.out.1)
  have HY1 := Lib.hid (bytes_of_own (own_below HOB.out hb5 (Nat.le_refl _)) HBD.out.2.2)
  have HY2 := Lib.hid (bytes_of_own hob HBD.out.2.2)
  have HT5 := Lib.hid (block_below hb5 HT1.out (Array.getElem?_eq_some_iff.1 HT1.out).1)
  have HM5 := Lib.hid (block_below hb5 HM1.out (Array.getElem?_eq_some_iff.1 HM1.out).1)
  have HB5 := Lib.hid (HBT.out.trans (hb5.mono hgc))
  have hg5 : g4 ≤ w5.heap.size := Nat.le_trans hgc hb5.size
  clear hrec2 hoi hob hbd2 hown2 hb5 hi6 hrd1 hrd2 u0 u1 u2 u3 HRD hgc l4c
  go_upto_region 3 with fail
  obtain ⟨W6, hW6⟩ : ∃ W6, W6 = (w5.alloc (.cells #[.slice bI i2.length dI, .slice bB l.length dB, .int .i64 cnt] 28 (0, 0))).alloc (.cells #[.slice br m.regs.length dr, .int .i64 m.pc, .int .i64 m.back, .bool m.ints, .bool m.wait, .int .i64 m.table, .int .i64 m.count, .int .i64 m.fin, .slice bm m.mem.length dm, .slice bo m.out.length d0, .int .i64 m.ready, .int .i64 m.want] 30 (0, 0)) := ⟨_, rfl⟩
  rw [← hW6]
  have HB6 := Lib.hid (show Below w5.heap.size w5 W6 from by rw [hW6]; exact below_alloc2 _ _ _)
  have HT6 := Lib.hid (show W6.heap[gT]? = some (.cells #[.slice aI i2.length cI, .slice aB l.length cB, .int .i64 cnt] 28 (0, 0)) from block_below HB6.out HT5.out (Array.getElem?_eq_some_iff.1 HT5.out).1)
  have HM6 := Lib.hid (show W6.heap[gM]? = some (.cells #[.slice ar m.regs.length cr, .int .i64 m.pc, .int .i64 m.back, .bool m.ints, .bool m.wait, .int .i64 m.table, .int .i64 m.count, .int .i64 m.fin, .slice am m.mem.length cm, .slice ao m.out.length co, .int .i64 m.ready, .int .i64 m.want] 30 (0, 0)) from block_below HB6.out HM5.out (Array.getElem?_eq_some_iff.1 HM5.out).1)
  have HT7 := Lib.hid (show W6.heap[w5.heap.size]? = some (.cells #[.slice bI i2.length dI, .slice bB l.length dB, .int .i64 cnt] 28 (0, 0)) from by rw [hW6]; exact (alloc_lt (by simp only [World.size_alloc]; omega)).trans (alloc_at rfl))
  have HM7 := Lib.hid (show W6.heap[w5.heap.size + 1]? = some (.cells #[.slice br m.regs.length dr, .int .i64 m.pc, .int .i64 m.back, .bool m.ints, .bool m.wait, .int .i64 m.table, .int .i64 m.count, .int .i64 m.fin, .slice bm m.mem.length dm, .slice bo m.out.length d0, .int .i64 m.ready, .int .i64 m.want] 30 (0, 0)) from by rw [hW6]; exact alloc_at (by simp only [World.size_alloc]))
  have l61 := (Array.getElem?_eq_some_iff.1 HT6.out).1
  have l62 := (Array.getElem?_eq_some_iff.1 HM6.out).1
  have l63 := (Array.getElem?_eq_some_iff.1 HT7.out).1
  have l64 := (Array.getElem?_eq_some_iff.1 HM7.out).1
  clear hW6
  have p0 : W6.cell? ⟨gT, 0, none⟩ = some (.slice aI i2.length cI) := cell_block HT6.out 0
  have p1 : W6.cell? ⟨gT, 1, none⟩ = some (.slice aB l.length cB) := cell_block HT6.out 1
  have p2 : W6.cell? ⟨gT, 2, none⟩ = some (.int .i64 cnt) := cell_block HT6.out 2
  have q0 : W6.cell? ⟨w5.heap.size, 0, none⟩ = some (.slice bI i2.length dI) := cell_block HT7.out 0
  have q1 : W6.cell? ⟨w5.heap.size, 1, none⟩ = some (.slice bB l.length dB) := cell_block HT7.out 1
  have q2 : W6.cell? ⟨w5.heap.size, 2, none⟩ = some (.int .i64 cnt) := cell_block HT7.out 2
  have hcc : (c == c) = true := by rw [beq_iff_eq]
  go_wp2_with fail
  refine (sameTape_yes _ _ _ _ i2 l cnt _ (HI1.out.to HB6.out.size (same_below HB6.out)) (HY1.out.to HB6.out.size (same_below HB6.out)) (HI2.out.to HB6.out.size (same_below HB6.out)) (HY2.out.to HB6.out.size (same_below HB6.out))).mono ?_
  rintro e w7 ⟨rfl, hb7⟩
  have HB7 := Lib.hid (HB6.out.trans (hb7.mono HB6.out.size))
  have x1 := block_below hb7 HM6.out l62
  have x2 := block_below hb7 HM7.out l64
  have l71 := (Array.getElem?_eq_some_iff.1 x1).1
  have l72 := (Array.getElem?_eq_some_iff.1 x2).1
  have m0 : w7.cell? ⟨gM, 0, none⟩ = some (.slice ar m.regs.length cr) := cell_block x1 0
  have m1 : w7.cell? ⟨gM, 1, none⟩ = some (.int .i64 m.pc) := cell_block x1 1
  have m2 : w7.cell? ⟨gM, 2, none⟩ = some (.int .i64 m.back) := cell_block x1 2
  have m3 : w7.cell? ⟨gM, 3, none⟩ = some (.bool m.ints) := cell_block x1 3
  have m4 : w7.cell? ⟨gM, 4, none⟩ = some (.bool m.wait) := cell_block x1 4
  have m5 : w7.cell? ⟨gM, 5, none⟩ = some (.int .i64 m.table) := cell_block x1 5
  have m6 : w7.cell? ⟨gM, 6, none⟩ = some (.int .i64 m.count) := cell_block x1 6
  have m7 : w7.cell? ⟨gM, 7, none⟩ = some (.int .i64 m.fin) := cell_block x1 7
  have m8 : w7.cell? ⟨gM, 8, none⟩ = some (.slice am m.mem.length cm) := cell_block x1 8
  have m9 : w7.cell? ⟨gM, 9, none⟩ = some (.slice ao m.out.length co) := cell_block x1 9
  have m10 : w7.cell? ⟨gM, 10, none⟩ = some (.int .i64 m.ready) := cell_block x1 10
  have m11 : w7.cell? ⟨gM, 11, none⟩ = some (.int .i64 m.want) := cell_block x1 11
  have n0 : w7.cell? ⟨w5.heap.size + 1, 0, none⟩ = some (.slice br m.regs.length dr) := cell_block x2 0
  have n1 : w7.cell? ⟨w5.heap.size + 1, 1, none⟩ = some (.int .i64 m.pc) := cell_block x2 1
  have n2 : w7.cell? ⟨w5.heap.size + 1, 2, none⟩ = some (.int .i64 m.back) := cell_block x2 2
  have n3 : w7.cell? ⟨w5.heap.size + 1, 3, none⟩ = some (.bool m.ints) := cell_block x2 3
  have n4 : w7.cell? ⟨w5.heap.size + 1, 4, none⟩ = some (.bool m.wait) := cell_block x2 4
  have n5 : w7.cell? ⟨w5.heap.size + 1, 5, none⟩ = some (.int .i64 m.table) := cell_block x2 5
  have n6 : w7.cell? ⟨w5.heap.size + 1, 6, none⟩ = some (.int .i64 m.count) := cell_block x2 6
  have n7 : w7.cell? ⟨w5.heap.size + 1, 7, none⟩ = some (.int .i64 m.fin) := cell_block x2 7
  have n8 : w7.cell? ⟨w5.heap.size + 1, 8, none⟩ = some (.slice bm m.mem.length dm) := cell_block x2 8
  have n9 : w7.cell? ⟨w5.heap.size + 1, 9, none⟩ = some (.slice bo m.out.length d0) := cell_block x2 9
  have n10 : w7.cell? ⟨w5.heap.size + 1, 10, none⟩ = some (.int .i64 m.ready) := cell_block x2 10
  have n11 : w7.cell? ⟨w5.heap.size + 1, 11, none⟩ = some (.int .i64 m.want) := cell_block x2 11
  clear hb7 x1 x2 p0 p1 p2 q0 q1 q2 l61 l62 l63 l64
  go_wp2_with fail
  refine (sameMachine_yes _ _ m _ (HR1.out.to HB7.out.size (same_below HB7.out)) (HR2.out.to HB7.out.size (same_below HB7.out))).mono ?_
  rintro e w8 ⟨rfl, hb8⟩
  have HB8 := Lib.hid (HB5.out.trans ((HB7.out.trans (hb8.mono HB7.out.size)).mono hg5))
  go_wp2
  go_ret
  exact ⟨ret_bool (by simp), by rw [HG4.out]; exact HB8.out⟩

theorem walk (W : World) (ht : Tab W) (v : Value) (img : List Int) (hv : Ints W.heap.size W v img) (v2 : Value) (is vs : List Int) (bs : List (List Int)) (ds : List Int) (hw : WorldR W.heap.size W v2 is vs bs ds) (n : Int) (hn : I64 n) : Calls Tryd.prog 3 #[v, v2, .int .i64 n] W fun e W' => e = .returned (.bool true) ∧ Below W.heap.size W W' := by
  obtain ⟨ai, ci, rfl, _⟩ := id hv
  obtain ⟨u0, u1, u2, u3, rfl, h0, h1, h2, h3⟩ := hw
  obtain ⟨a0, c0, rfl, _⟩ := id h0
  obtain ⟨a1, c1, rfl, _⟩ := id h1
  obtain ⟨a2, c2, rfl, _⟩ := id h2
  obtain ⟨a3, c3, rfl, _⟩ := id h3
  exact walk1 W ht ai ci a0 a1 a2 a3 c0 c1 c2 c3 img is vs bs ds n hv h0 h1 h2 h3 hn

set_option maxRecDepth 100000 in
theorem lifted (os : Os) (started : os.Started) (H : Type) (enc : TypeId × Value → H) :
    ReturnsInHanded {} Tryd.checked os 3 .any (fun w args => (Rows.runRecordsSpec.pre enc Tryd.prog Tryd.f3 [] false w args ∧ laidMetH Tryd.prog laidW w) ∧ sizedMet enc Tryd.prog Tryd.f3 (OpenSpec.ofChange Rows.runRecordsSpec) false w args) (Rows.runRecordsSpec.post enc Tryd.prog Tryd.f3 false true false false) := by
  refine returnsInHanded_of_change_and (C := Tryd.checked) (X := fun w _ => laidMetH Tryd.prog laidW w) (fun _ _ _ hh h => h.of_heap hh) Facts.own started (by kernel_rfl) Tryd.func3
    (ChangeSpec.witness_shaped (enc := enc) (C := Tryd.checked) (os := os) (X := fun w _ => laidMetH Tryd.prog laidW w) false (World.doorLaid Tryd.prog 400 os) #[.slice none 0 0, .agg #[.slice none 0 0, .slice none 0 0, .slice none 0 0, .slice none 0 0], .int .i64 0] 8 rfl (World.shaped_of_RefB (by kernel_rfl) (by kernel_rfl)) (by kernel_rfl) (by kernel_rfl) (by kernel_rfl) (door_met os _)) ?_
  intro W base args ds gs before hval0 hW hcnd hsz0 hL _
  have hsz : (DataW.weightsEach Tryd.prog (Tryd.f3.params.toList ++ Rows.runRecordsSpec.plain.varTypes Tryd.prog) (ds ++ gs)).all (· ≤ reachBytes) = true := hsz0
  have hval : ∀ (j : Nat) t v, Tryd.f3.params[j]? = some t → args[j]? = some v → Value.okWide Tryd.prog W .any base t v := hval0
  have hW' := hW
  obtain ⟨p, q, hA0, hV, rfl, hfz, hnd⟩ := hW
  have hA : DataW.TrodAll enc Tryd.prog W 0 (fun _ => true) true Tryd.f3.params.toList args.toList ds p := hA0
  rw [Tryd.params3] at hA hval hsz
  obtain ⟨v0, vs0, d0, ds0, p0, q0, hargs, rfl, rfl, h0, r0⟩ := trodAll_cons hA
  obtain ⟨v1, vs1, d1, ds1, p1, q1, rfl, rfl, rfl, h1, r1⟩ := trodAll_cons r0
  obtain ⟨v2, vs2, d2, ds2, p2, q2, rfl, rfl, rfl, h2, r2⟩ := trodAll_cons r1
  obtain ⟨rfl, rfl, rfl⟩ := trodAll_nil r2
  obtain rfl : args = #[v0, v1, v2] := by cases args; simp_all
  obtain ⟨rfl, rfl⟩ := trodVars_none hV
  have k0 := h0
  have lt0 : ∀ x ∈ p0, x.block < W.heap.size := by obtain ⟨m, hm⟩ := k0; exact DataW.trod_lt m _ _ _ hm
  obtain ⟨x0_0, w0⟩ := open_intsA (hval 0 22 v0 rfl rfl) h0 (fits_at hsz (j := 0) rfl rfl)
  have k1 := h1
  have lt1 : ∀ x ∈ p1, x.block < W.heap.size := by obtain ⟨m, hm⟩ := k1; exact DataW.trod_lt m _ _ _ hm
  obtain ⟨x1_0, x1_1, x1_2, x1_3, w1⟩ := open_worldR (hval 1 25 v1 rfl rfl) h1 (fits_at hsz (j := 1) rfl rfl)
  have k2 := h2
  have lt2 : ∀ x ∈ p2, x.block < W.heap.size := by obtain ⟨m, hm⟩ := k2; exact DataW.trod_lt m _ _ _ hm
  obtain ⟨a2, rfl, rfl, rfl, w2⟩ := open_int Tryd.underlying3 (hval 2 3 v2 rfl rfl) h2
  clear hA0 hval0
  refine (walk W (tab_of_laid hL) v0 x0_0 w0 v1 x1_0 x1_1 x1_2 x1_3 w1 a2 (Go.bounds_i64 w2)).mono fun e W' ⟨he, bel⟩ => ?_
  subst he
  exact ⟨_, rfl, _, _, _, [], _, [], hW', trodAll_mk1 (shut_bool Tryd.underlying4 _), (trodAll_cons_mk (Below.trod Facts.laidOut (by kernel_rfl) (of_decide_eq_true (by kernel_rfl)) k0 bel lt0) (trodAll_cons_mk (Below.trod Facts.laidOut (by kernel_rfl) (of_decide_eq_true (by kernel_rfl)) k1 bel lt1) (trodAll_cons_mk (Below.trod Facts.laidOut (by kernel_rfl) (of_decide_eq_true (by kernel_rfl)) k2 bel lt2) trodAll_mk0))), rfl, bel.frame _, fun h => by cases h⟩

theorem closed : joinedFacts Tryd.prog 3 Tryd.f3 Rows.runRecordsSpec Rows.runRecordsRow = true := by
  unfold joinedFacts
  rw [Facts.enters, Facts.lifts, Facts.made]
  kernel_rfl

theorem over : Rows.runRecordsRow.holds Tryd.pinned (OpenSpec.ofChange Rows.runRecordsSpec) :=
  OpenClaim.holds_of_wide 3 Tryd.f3 rfl rfl rfl rfl rfl rfl rfl ⟨rfl, rfl, rfl, rfl, rfl⟩ rfl rfl rfl rfl rfl (by kernel_rfl) Tryd.func3 closed
    (of_decide_eq_true (by kernel_rfl)) (by unfold Func.isWrapper; first | (rw [if_pos (by decide +kernel)]; kernel_rfl) | (rw [if_neg (by decide +kernel)]; exact ⟨rfl, rfl⟩))
    (fun os started H enc _ => lifted os started H enc)

theorem proved : Rows.RunRecordsCardSaid :=
  Claim7.holds_tied_plain_at .later [] [.data] true (true, "6f00faaf7f1fae27a221c1153480fefa34d985cfc50f68d3d8357d8357b22f4c") false over (fun _ h => by cases h) (by kernel_rfl) (fun _ h => by cases h) runRecords_row_tie rfl ⟨rfl, rfl⟩ (by kernel_rfl) rfl
    (fun f fn hf hfn => by
      obtain rfl : f = 3 := Option.some.inj ((show Tryd.prog.funcNamed "hourglass/hourglasslaw.RunRecords" = some 3 by kernel_rfl).symm.trans hf) |>.symm
      obtain rfl : fn = Tryd.f3 := (Option.some.inj (Tryd.func3.symm.trans hfn)).symm
      exact ⟨by kernel_rfl, fun j t ht => by
        rw [Tryd.params3] at ht
        have hm : t ∈ [22, 25, 3] := by simpa using Array.mem_of_getElem? ht
        have hall : ([22, 25, 3].all fun u => !Tryd.prog.wantsStandIn u) = true := by kernel_rfl
        exact (show Tryd.prog.wantsStandIn t = false by simpa using List.all_eq_true.1 hall t hm)⟩)
    (by kernel_rfl)
#print axioms proved
end Go.Proofs.YtenicnneppgfmaaDoor.lRunRecords
