/- The law hourglasskeep.SeeksFew returns true at all raw things and all numbers, the table laid as the program's text lays it. No further condition. -/
import Derived.Test.YtpdbcdfgonnnnaaDoorRows
import Derived.Test.YtpdbcdfgonnnnaaDoorYMem
import Derived.Test.YtpdbcdfgonnnnaaDoorYFacts
import Derived.WalkKit
import Derived.ProofKit
import Derived.OpenShut
import Derived.ShutString
import Derived.ChangeOld
import Derived.Below
import Derived.Test.YtpdbcdfgonnnnaaDoorYVp
import Derived.Test.YtpdbcdfgonnnnaaDoorYEu
import Derived.Test.YtpdbcdfgonnnnaaDoorYPk
import Derived.Test.YtpdbcdfgonnnnaaDoorYKr
import Derived.Test.YtpdbcdfgonnnnaaDoorYWa
import Derived.Test.YtpdbcdfgonnnnaaDoorTie
import Derived.Test.YtpdbcdfgonnnnaaDoorCards
import Derived.SevenTiedAt
import Derived.Deep.RegionHeld3
import Derived.Deep.RegionLaw
import Derived.Deep.CutBlock
import Derived.Deep.CutRange
import Derived.Deep.LoopGhost
namespace Go.Proofs.YtpdbcdfgonnnnaaDoor.lSeeksFew
open Go Go.RowKit Go.ChangeShapes Go.WideShapes Go.ChangeAt Go.Deep
set_option maxHeartbeats 8000000
set_option maxRecDepth 100000
open Go.ChangeMaps (open_string shut_string)
set_option linter.unusedVariables false
attribute [local go_sem ↓] Go.wp_at_zero Go.wp_at_succ
theorem machsSame_any {b1 b2 : Nat} {w : World} {v1 v2 : Value} {l1 l2 : List MG} (h1 : OutsR b1 w v1 l1) (h2 : OutsR b2 w v2 l2) (hm : l1.map (·.m) = l2.map (·.m)) (hl : l1.length ≤ 1000) : Calls Tryd.prog 26 #[v1, v2, .func (.func 22) #[] #[]] w fun e w' => e = .returned (.bool true) ∧ Below w.heap.size w w' := by
 have hle : l2.length = l1.length := by have := congrArg List.length hm; simpa using this.symm
 obtain ⟨a, c, rfl⟩ := own_shape h1.row
 obtain ⟨a', c', rfl⟩ := own_shape h2.row
 have H1 := Lib.hid h1
 have H2 := Lib.hid h2
 have HM := Lib.hid hm
 have HLE := Lib.hid hle
 rw [hle]
 have eg := enters_of (P := Tryd.prog) Tryd.func22 (by kernel_rfl) rfl
 clear h1 h2 hm hle
 go_enter Tryd.func26, Tryd.ntmps26
 go_wp2_with fail
 go_loopg [7, 8, 9, 17] l1.length (fun gh s7 s8 s9 s17 wr => ∃ k : Nat, k ≤ l1.length ∧ gh = l1.length - k ∧ s17 = .int .i64 k ∧ Hid (Below w.heap.size w wr))
 case atStart => exact ⟨0, Nat.zero_le _, by omega, rfl, Lib.hid (Below.refl _ _)⟩
 case round =>
  obtain ⟨k, hk, rfl, rfl, HB⟩ := hrel
  by_cases hlt : k < l1.length
  ·
   have hlt2 : k < l2.length := by have := HLE.out; omega
   obtain ⟨g, cap, hv, hbl, r0, r1, r2, r3, r4, r5, r6, r7, r8, r9, r10, r11⟩ := H1.out.get12 hlt HB.out
   obtain ⟨g', cap', hv', hbl', q0, q1, q2, q3, q4, q5, q6, q7, q8, q9, q10, q11⟩ := H2.out.get12 hlt2 HB.out
   have HE1 := Lib.hid (H1.out.el _ (List.getElem_mem hlt))
   have HE2 := Lib.hid (H2.out.el _ (List.getElem_mem hlt2))
   have hme : l1[k].m = l2[k].m := by
    have := congrArg (fun l => l[k]?) HM.out
    simpa [hlt, hlt2] using this
   injection hv with e1 e2 e3
   injection hv' with e4 e5 e6
   subst e1 e4
   generalize l1[k] = x at *
   generalize l2[k] = y at *
   obtain ⟨m, xr, yr, xm, ym, xo, yo⟩ := x
   obtain ⟨m2, pr, qr, pm, qm, po, qo⟩ := y
   obtain rfl : m = m2 := hme
   have hs := HB.out.size
   simp only at r0 r1 r2 r3 r4 r5 r6 r7 r8 r9 r10 r11 q0 q1 q2 q3 q4 q5 q6 q7 q8 q9 q10 q11
   have HEV := Lib.hid (fun (U : World) (hb : Below w.heap.size w U) => (show Calls Tryd.prog 22 #[.agg #[.slice xr m.regs.length yr, .int .i64 m.pc, .int .i64 m.back, .bool m.ints, .bool m.wait, .int .i64 m.table, .int .i64 m.count, .int .i64 m.fin, .slice xm m.mem.length ym, .slice xo m.out.length yo, .int .i64 m.ready, .int .i64 m.want], .agg #[.slice pr m.regs.length qr, .int .i64 m.pc, .int .i64 m.back, .bool m.ints, .bool m.wait, .int .i64 m.table, .int .i64 m.count, .int .i64 m.fin, .slice pm m.mem.length qm, .slice po m.out.length qo, .int .i64 m.ready, .int .i64 m.want]] U (fun e w' => e = .returned (.bool true) ∧ Below U.heap.size U w') from
    ksame_yes m _ _ _ _ _ _ U ((MGR.ints HE1.out).1.to hb.size (same_below hb)) ((MGR.ints HE1.out).2.1.to hb.size (same_below hb)) ((MGR.ints HE1.out).2.2.to hb.size (same_below hb)) ((MGR.ints HE2.out).1.to hb.size (same_below hb)) ((MGR.ints HE2.out).2.1.to hb.size (same_below hb)) ((MGR.ints HE2.out).2.2.to hb.size (same_below hb))))
   have HB2 := Lib.hid ((HB.out.alloc hs (.cells #[.slice xr m.regs.length yr, .int .i64 m.pc, .int .i64 m.back, .bool m.ints, .bool m.wait, .int .i64 m.table, .int .i64 m.count, .int .i64 m.fin, .slice xm m.mem.length ym, .slice xo m.out.length yo, .int .i64 m.ready, .int .i64 m.want] 29 (0, 0))).alloc (by simp; omega) (.cells #[.slice pr m.regs.length qr, .int .i64 m.pc, .int .i64 m.back, .bool m.ints, .bool m.wait, .int .i64 m.table, .int .i64 m.count, .int .i64 m.fin, .slice pm m.mem.length qm, .slice po m.out.length qo, .int .i64 m.ready, .int .i64 m.want] 29 (0, 0)))
   have hll2 : (k : Int) < (l1.length : Int) := by omega
   clear HE1 HE2 e2 e3 e5 e6
   go_wp2_with fail
   refine (HEV.out _ HB2.out).mono ?_
   rintro e w3 ⟨rfl, hb3⟩
   have HB3 := Lib.hid (HB2.out.trans (hb3.mono HB2.out.size))
   have hwr : IntKind.i64.wrap ((k : Int) + 1) = ((k + 1 : Nat) : Int) := by rw [IntWalk.i64_in _ (by omega)]; rfl
   clear hb3 r0 r1 r2 r3 r4 r5 r6 r7 r8 r9 r10 r11 q0 q1 q2 q3 q4 q5 q6 q7 q8 q9 q10 q11
   go_wp2_with fail
   go_roundg (l1.length - (k + 1))
   case measure => omega
   case rel => exact ⟨k + 1, by omega, rfl, by go_num, HB3⟩
  ·
   have hll2 : ¬ (k : Int) < (l1.length : Int) := by omega
   go_wp2
   go_ret
   exact ⟨rfl, HB.out⟩
theorem walk (W : World) (ht : Tab W) (v1 : Value) (xs : List Rw) (h1 : RawsR W.heap.size W v1 xs) (v2 : Value) (ys : List Rw) (h2 : RawsR W.heap.size W v2 ys) (n : Int) (hn : I64 n) (v3 : Value) (ks : List Int) (h3 : Ints W.heap.size W v3 ks) (few : Int) (hf : I64 few) : Calls Tryd.prog 7 #[v1, v2, .int .i64 n, v3, .int .i64 few] W fun e W' => e = .returned (.bool true) ∧ Below W.heap.size W W' := by
 have HT := Lib.hid ht
 have HDT := Lib.hid (decktells_any W ht)
 have HKR := Lib.hid (fun (w : World) (hb : Below W.heap.size W w) => krecorded_any v1 v2 xs ys n w (ht.to hb) (h1.to hb.size (same_below hb)) (h2.to hb.size (same_below hb)) hn)
 have HPF := Lib.hid (fun w => picked_any few 40 w hf.1 hf.2 (by omega) (by omega))
 obtain ⟨p0, p1⟩ := pick_rng few 40 (by omega)
 generalize pickZ few 40 = pf at *
 have HKI := Lib.hid h3
 obtain ⟨ak, ck, rfl, hkl, _⟩ := id h3
 clear ht h1 h2 hn hf h3
 go_enter Tryd.func7, Tryd.ntmps7
 go_wp2_with fail
 refine HDT.out.mono ?_
 rintro e w0 ⟨rfl, hb0⟩
 have HB0 := Lib.hid hb0
 clear hb0 HDT
 go_wp2_with fail
 refine (HKR.out w0 HB0.out).mono ?_
 rintro e w1 ⟨img, is, vs, bs, ds, l, N, m, ai, ab, ar, am, ao, ci, cb, cr, cm, co, rfl, hk, hb1⟩
 go_upto_region 4 with fail
 have HBA := Lib.hid (below_alloc2 w1 (.cells #[.slice ai img.length ci, .slice ab l.length cb, .int .i64 N] 27 (0, 0)) (.cells #[.slice ar m.regs.length cr, .int .i64 m.pc, .int .i64 m.back, .bool m.ints, .bool m.wait, .int .i64 m.table, .int .i64 m.count, .int .i64 m.fin, .slice am m.mem.length cm, .slice ao m.out.length co, .int .i64 m.ready, .int .i64 m.want] 29 (0, 0)))
 obtain ⟨w2, hw2⟩ : ∃ W, W = ((w1.alloc (.cells #[.slice ai img.length ci, .slice ab l.length cb, .int .i64 N] 27 (0, 0))).alloc (.cells #[.slice ar m.regs.length cr, .int .i64 m.pc, .int .i64 m.back, .bool m.ints, .bool m.wait, .int .i64 m.table, .int .i64 m.count, .int .i64 m.fin, .slice am m.mem.length cm, .slice ao m.out.length co, .int .i64 m.ready, .int .i64 m.want] 29 (0, 0))) := ⟨_, rfl⟩
 have HX1 := Lib.hid (show w2.heap[w1.heap.size]? = some (.cells #[.slice ai img.length ci, .slice ab l.length cb, .int .i64 N] 27 (0, 0)) from by rw [hw2]; exact (alloc_lt (by simp)).trans (alloc_at rfl))
 have HX2 := Lib.hid (show w2.heap[w1.heap.size + 1]? = some (.cells #[.slice ar m.regs.length cr, .int .i64 m.pc, .int .i64 m.back, .bool m.ints, .bool m.wait, .int .i64 m.table, .int .i64 m.count, .int .i64 m.fin, .slice am m.mem.length cm, .slice ao m.out.length co, .int .i64 m.ready, .int .i64 m.want] 29 (0, 0)) from by rw [hw2]; exact alloc_at (by simp))
 rw [← hw2] at HBA ⊢
 obtain ⟨gt, hgt⟩ : ∃ g, g = w1.heap.size := ⟨_, rfl⟩
 obtain ⟨gg, hgg⟩ : ∃ g, g = w1.heap.size + 1 := ⟨_, rfl⟩
 rw [← hgg] at HX2 ⊢
 rw [← hgt] at HX1 ⊢
 clear hw2 hgt hgg
 have hb2 := hb1.trans (HBA.out.mono hb1.size)
 have HB2 := Lib.hid (HB0.out.trans (hb2.mono HB0.out.size))
 have HK := Lib.hid (hk.to HBA.out)
 have HM : Hid (m = (recI is vs bs ds (recS0 img) N).m) := Lib.hid hk.rc.mach
 have hN := hk.rc.tape.le
 clear HBA hb1 hk HKR hb2
 have t0 : w2.cell? ⟨gt, 0, none⟩ = some (.slice ai img.length ci) := cell_block HX1.out 0
 have t1 : w2.cell? ⟨gt, 1, none⟩ = some (.slice ab l.length cb) := cell_block HX1.out 1
 have t2 : w2.cell? ⟨gt, 2, none⟩ = some (.int .i64 N) := cell_block HX1.out 2
 have lt2 : gt < w2.heap.size := (Array.getElem?_eq_some_iff.1 HX1.out).1
 have lg2 : gg < w2.heap.size := (Array.getElem?_eq_some_iff.1 HX2.out).1
 clear t0 t1 t2 lt2 lg2 HX2 HM
 have HKS := Lib.hid (HKI.out.to HB2.out.size (same_below HB2.out))
 have HBS := Lib.hid (Below.refl w2.heap.size w2)
 clear HKI
 go_upto_block 0 with fail
 go_cut [14, 15] from 30 to 93 (fun s14 s15 wx => ∃ (va : Option Addr) (ca : Nat) (zs : List Int), zs.length ≤ 5 ∧ s14 = .slice va zs.length ca ∧ Hid (∀ z ∈ zs, 0 ≤ z ∧ z ≤ (N : Int)) ∧ Hid (wx.ownsRow w2.heap.size 3 1 (.slice va zs.length ca) zs.length (zs.map (Value.int .i64))) ∧ Hid (Below w2.heap.size w2 wx))
 case first =>
  go_wp2_with fail
  go_loopg [14, 15] 6 (fun gh s14 s15 wr => ∃ (va : Option Addr) (ca : Nat) (zs : List Int), zs.length ≤ 5 ∧ zs.length ≤ ks.length ∧ gh = 6 - zs.length ∧ s15 = .int .i64 zs.length ∧ s14 = .slice va zs.length ca ∧ Hid (∀ z ∈ zs, 0 ≤ z ∧ z ≤ (N : Int)) ∧ Hid (wr.ownsRow w2.heap.size 3 1 (.slice va zs.length ca) zs.length (zs.map (Value.int .i64))) ∧ Hid (Below w2.heap.size w2 wr))
  case atStart => exact ⟨none, 0, [], by simp, Nat.zero_le _, rfl, rfl, rfl, Lib.hid (fun z hz => (by cases hz)), Lib.hid (World.ownsRow_nil _ _ _ _), HBS⟩
  case round =>
   obtain ⟨va, ca, zs, hi, hik, rfl, rfl, rfl, HZR, HZO, HBR⟩ := hrel
   obtain ⟨i, hiz⟩ : ∃ i, i = zs.length := ⟨_, rfl⟩
   have HIZ := Lib.hid hiz
   rw [← hiz] at hi hik HZO ⊢
   clear hiz
   by_cases hgo : i < ks.length ∧ i < 5
   ·
    obtain ⟨hil, hi8⟩ := hgo
    obtain ⟨_, _, hv, _, _, hcl⟩ := HKS.out
    injection hv with q1 q2 q3
    subst q1 q3
    obtain ⟨bk, ok, vk, rfl, hbk, hck, rfl, hk64⟩ := hcl i hil
    have hbw := HBR.out.size
    rw [← same_below HBR.out _ _ hbk] at hck
    have hbl : bk < wr.heap.size := by omega
    clear hcl
    generalize ks[i] = kz at *
    have HX1r := Lib.hid (block_below HBR.out HX1.out (Array.getElem?_eq_some_iff.1 HX1.out).1)
    have t2 : wr.cell? ⟨gt, 2, none⟩ = some (.int .i64 N) := cell_block HX1r.out 2
    have ltr : gt < wr.heap.size := (Array.getElem?_eq_some_iff.1 HX1r.out).1
    obtain ⟨pk0, pk1⟩ := pick_rng kz ((N : Int) + 1) (by omega)
    have HPK := Lib.hid (fun w => picked_any kz ((N : Int) + 1) w hk64.1 hk64.2 (by omega) (by omega))
    generalize pickZ kz ((N : Int) + 1) = q at *
    have w1N : IntKind.i64.wrap ((N : Int) + 1) = (N : Int) + 1 := IntWalk.i64_in _ (by omega)
    have hd1 : decide ((i : Int) < (ks.length : Int)) = true := decide_eq_true (by omega)
    have hd2 : decide ((i : Int) < 5) = true := decide_eq_true (by omega)
    clear hk64
    go_upto_region 8 with fail
    go_region_law ((first | (go_simp; go_at_call 20; refine (HPK.out _).mono ?_; rintro en wq ⟨rfl, rfl⟩; skip) | (go_loud (refine step_push_at wr.drew rfl (.tmp 40) (.tmp 49) 24 rfl w2.heap.size 3 (.int .i64 0) 1 8 Tryd.underlying24 info_int rfl (by decide) [.int .i64 q] rfl (by simp [Value.oneCell']) _ _ _ (by rfl) HZO.out (by rfl) (by simp) (by omega) (by omega) (by simp; omega) ?_); intro g5 cp5 w5 hown5 hgrow5 hn5; have HO5 := Lib.hid hown5; have HG5 := Lib.hid hgrow5; clear hown5 hgrow5 hn5)))
    all_goals (
     have HB5 := Lib.hid (below_grown (w := wr.drew) (below_drewN HBR.out 1) HZO.out HG5.out hbw (Nat.le_refl _))
     have HLL := Lib.hid (show (zs ++ [q]).length = i + 1 from by rw [List.length_append, ← HIZ.out]; rfl)
     have HNR := Lib.hid (show ∀ z ∈ zs ++ [q], 0 ≤ z ∧ z ≤ (N : Int) from fun z hz => by
      rcases List.mem_append.1 hz with h | h
      · exact HZR.out z h
      · rw [List.mem_singleton.1 h]; omega)
     go_wp2_with fail
     go_roundg (6 - (i + 1))
     case measure => rw [← HIZ.out]; omega
     case rel => exact ⟨some ⟨g5, 0, none⟩, cp5, zs ++ [q], by rw [HLL.out]; omega, by rw [HLL.out]; omega, by rw [HLL.out], by rw [HLL.out]; go_num, by rw [HLL.out], HNR, Lib.hid (by rw [HLL.out, List.map_append]; exact HO5.out), HB5⟩)
   ·
    have HEND := Lib.hid (show ¬ (i < ks.length ∧ i < 5) from hgo)
    by_cases hil : i < ks.length
    ·
     have hd1 : decide ((i : Int) < (ks.length : Int)) = true := decide_eq_true (by omega)
     have hd2 : decide ((i : Int) < 5) = false := decide_eq_false (by omega)
     clear hgo
     go_wp2_with fail
     go_meet
     exact ⟨va, ca, zs, by rw [← HIZ.out]; omega, by rw [← HIZ.out], HZR, Lib.hid (by rw [← HIZ.out]; exact HZO.out), HBR⟩
    ·
     have hd1 : decide ((i : Int) < (ks.length : Int)) = false := decide_eq_false (by omega)
     clear hgo
     go_wp2_with fail
     go_meet
     exact ⟨va, ca, zs, by rw [← HIZ.out]; omega, by rw [← HIZ.out], HZR, Lib.hid (by rw [← HIZ.out]; exact HZO.out), HBR⟩
 case rest =>
  obtain ⟨va, ca, zs, hzl, rfl, HZR, HZO, HBZ⟩ := hcut
  obtain ⟨w4, hw4⟩ : ∃ w4, w4 = wc := ⟨_, rfl⟩
  subst hw4
  have HB4 := Lib.hid (HB2.out.trans (HBZ.out.mono HB2.out.size))
  have HK4 := Lib.hid (HK.out.to HBZ.out)
  have HZI := Lib.hid (ints_of_owns HZO.out (by omega) (fun z hz => by have := HZR.out z hz; unfold I64; omega))
  have HX14 := Lib.hid (block_below HBZ.out HX1.out (Array.getElem?_eq_some_iff.1 HX1.out).1)
  clear HK HX1 HZO HBS HKS HBZ
  have t0 : w4.cell? ⟨gt, 0, none⟩ = some (.slice ai img.length ci) := cell_block HX14.out 0
  have t1 : w4.cell? ⟨gt, 1, none⟩ = some (.slice ab l.length cb) := cell_block HX14.out 1
  have t2 : w4.cell? ⟨gt, 2, none⟩ = some (.int .i64 N) := cell_block HX14.out 2
  have lt4 : gt < w4.heap.size := (Array.getElem?_eq_some_iff.1 HX14.out).1
  have HBD := Lib.hid (below_drewN (Below.refl w4.heap.size w4) 1)
  have HSK := Lib.hid (show Calls Tryd.prog 11 #[.agg #[.int .i64 pf, .int .i64 7, .int .i64 3], .agg #[.slice ai img.length ci, .slice ab l.length cb, .int .i64 N], .slice va zs.length ca] w4.drew (fun e w' => ∃ (c : Int) (ve : Option Addr) (ne ce : Nat), e = .returned (.tuple #[.slice ve ne ce, .int .i64 c]) ∧ Below w4.heap.size w4 w' ∧ Hid ((c = 7 ∧ ve = none ∧ ne = 0 ∧ ce = 0) ∨ (c = 0 ∧ ne = zs.length ∧ ∃ B ls, OutsR B w' (.slice ve ne ce) ls ∧ ls.map (·.m) = zs.map (fun z => (recI is vs bs ds (recS0 img) z.toNat).m)))) from by
   refine (kseek_gen (HK4.out.to HBD.out) (HT.out.to (HB4.out.trans (HBD.out.mono HB4.out.size))) (show SetOk pf 7 3 from ⟨by omega, by omega, by omega, by omega, by omega, by omega⟩) (HZI.out.to HBD.out.size (same_below HBD.out)) (by omega)).mono ?_
   rintro e w5 ⟨hb5, ⟨c, he, ⟨_, z, hz, hc⟩ | ⟨rfl, _⟩⟩ | ⟨_, va5, ca5, ls, ho, hm, he⟩⟩
   · have := HZR.out z hz; omega
   · exact ⟨7, none, 0, 0, he, HBD.out.trans hb5, Lib.hid (Or.inl ⟨rfl, rfl, rfl, rfl⟩)⟩
   · exact ⟨0, va5, zs.length, ca5, he, HBD.out.trans hb5, Lib.hid (Or.inr ⟨rfl, rfl, _, ls, ho, hm⟩)⟩)
  go_upto_region 9 with fail
  go_region_held3 (fun w' => w'.cell? ⟨gt, 0, none⟩ = some (.slice ai img.length ci) ∧ w'.cell? ⟨gt, 1, none⟩ = some (.slice ab l.length cb) ∧ w'.cell? ⟨gt, 2, none⟩ = some (.int .i64 N)) (first | ((try dsimp only); (repeat' apply And.intro) <;> (first | assumption | go_keep))) (first
   | (go_at_call 20; (with_reducible refine (HPF.out _).mono ?_); rintro e w' ⟨rfl, rfl⟩)
   | (go_at_call 11; (with_reducible refine HSK.out.mono ?_); rintro e w5 ⟨c, ve, ne, ce, rfl, hb5, HC⟩; have HB45 := Lib.hid hb5; have HXT := Lib.hid (block_below hb5 HX14.out (Array.getElem?_eq_some_iff.1 HX14.out).1); have u0 := cell_block HXT.out 0; have u1 := cell_block HXT.out 1; have u2 := cell_block HXT.out 2; simp only [List.getElem?_toArray, List.getElem?_cons_zero, List.getElem?_cons_succ] at u0 u1 u2; have ltT : gt < w5.heap.size := (Array.getElem?_eq_some_iff.1 HXT.out).1; clear hb5))
  have HB5 := Lib.hid (HB4.out.trans (HB45.out.mono HB4.out.size))
  have HK5 := Lib.hid (HK4.out.to HB45.out)
  have HZ5 := Lib.hid (HZI.out.to HB45.out.size (same_below HB45.out))
  clear t0 t1 t2 lt4 HSK HX14 HK4 HZI HB4
  have HS2 := Lib.hid (kseek_any HK5.out (HT.out.to HB5.out) (show SetOk 200 50 1 from ⟨by omega, by omega, by omega, by omega, by omega, by omega⟩) (by omega) HZ5.out (by omega) HZR.out)
  go_wp2_with fail
  refine HS2.out.mono ?_
  rintro e w6 ⟨hb6, vb, cb6, ls2, ho2, hm2, rfl⟩
  have HB6 := Lib.hid (HB5.out.trans (hb6.mono HB5.out.size))
  have HO2 := Lib.hid ho2
  have HM2 := Lib.hid hm2
  have HB56 := Lib.hid hb6
  clear hb6 ho2 hm2 HS2 u0 u1 u2 ltT HXT HB45
  rcases HC.out with ⟨rfl, rfl, rfl, rfl⟩ | ⟨rfl, rfl, B, ls, ho, hm⟩
  ·
   go_wp2
   go_ret
   exact ⟨ret_bool (by simp), HB6.out⟩
  ·
   have HEQ := Lib.hid (machsSame_any (ho.below HB56.out) HO2.out (hm.trans HM2.out.symm) (by have := congrArg List.length hm; simp at this; omega))
   clear ho hm
   go_wp2_with fail
   refine HEQ.out.mono ?_
   rintro e w7 ⟨rfl, hb7⟩
   have HB7 := Lib.hid (HB6.out.trans (hb7.mono HB6.out.size))
   clear hb7
   go_wp2
   go_ret
   exact ⟨ret_bool (by simp), HB7.out⟩
theorem lifted (os : Os) (started : os.Started) (H : Type) (enc : TypeId × Value → H) :
  ReturnsInHanded {} Tryd.checked os 7 .any (fun w args => (Rows.seeksFewSpec.pre enc Tryd.prog Tryd.f7 [] false w args ∧ laidMetH Tryd.prog laidW w) ∧ sizedMet enc Tryd.prog Tryd.f7 (OpenSpec.ofChange Rows.seeksFewSpec) false w args) (Rows.seeksFewSpec.post enc Tryd.prog Tryd.f7 false true false false) := by
 refine returnsInHanded_of_change_and (C := Tryd.checked) (X := fun w _ => laidMetH Tryd.prog laidW w) (fun _ _ _ hh h => h.of_heap hh) Facts.own started (by kernel_rfl) Tryd.func7
  (ChangeSpec.witness_shaped (enc := enc) (C := Tryd.checked) (os := os) (X := fun w _ => laidMetH Tryd.prog laidW w) false (World.doorLaid Tryd.prog 400 os) #[.slice none 0 0, .slice none 0 0, .int .i64 0, .slice none 0 0, .int .i64 0] 8 rfl (World.shaped_of_RefB (by kernel_rfl) (by kernel_rfl)) (by kernel_rfl) (by kernel_rfl) (by kernel_rfl) (door_met os _)) ?_
 intro W base args ds gs before hval0 hW hcnd hsz0 hL _
 have hsz : (DataW.weightsEach Tryd.prog (Tryd.f7.params.toList ++ Rows.seeksFewSpec.plain.varTypes Tryd.prog) (ds ++ gs)).all (· ≤ reachBytes) = true := hsz0
 have hval : ∀ (j : Nat) t v, Tryd.f7.params[j]? = some t → args[j]? = some v → Value.okWide Tryd.prog W .any base t v := hval0
 have hW' := hW
 obtain ⟨p, q, hA0, hV, rfl, hfz, hnd⟩ := hW
 have hA : DataW.TrodAll enc Tryd.prog W 0 (fun _ => true) true Tryd.f7.params.toList args.toList ds p := hA0
 rw [Tryd.params7] at hA hval hsz
 obtain ⟨v0, vs0, d0, ds0, p0, q0, hargs, rfl, rfl, h0, r0⟩ := trodAll_cons hA
 obtain ⟨v1, vs1, d1, ds1, p1, q1, rfl, rfl, rfl, h1, r1⟩ := trodAll_cons r0
 obtain ⟨v2, vs2, d2, ds2, p2, q2, rfl, rfl, rfl, h2, r2⟩ := trodAll_cons r1
 obtain ⟨v3, vs3, d3, ds3, p3, q3, rfl, rfl, rfl, h3, r3⟩ := trodAll_cons r2
 obtain ⟨v4, vs4, d4, ds4, p4, q4, rfl, rfl, rfl, h4, r4⟩ := trodAll_cons r3
 obtain ⟨rfl, rfl, rfl⟩ := trodAll_nil r4
 obtain rfl : args = #[v0, v1, v2, v3, v4] := by cases args; simp_all
 obtain ⟨rfl, rfl⟩ := trodVars_none hV
 have k0 := h0
 have lt0 : ∀ x ∈ p0, x.block < W.heap.size := by obtain ⟨m, hm⟩ := k0; exact DataW.trod_lt m _ _ _ hm
 obtain ⟨x0_0, w0⟩ := open_rawsR (hval 0 22 v0 rfl rfl) h0 (fits_at hsz (j := 0) rfl rfl)
 have k1 := h1
 have lt1 : ∀ x ∈ p1, x.block < W.heap.size := by obtain ⟨m, hm⟩ := k1; exact DataW.trod_lt m _ _ _ hm
 obtain ⟨x1_0, w1⟩ := open_rawsR (hval 1 22 v1 rfl rfl) h1 (fits_at hsz (j := 1) rfl rfl)
 have k2 := h2
 have lt2 : ∀ x ∈ p2, x.block < W.heap.size := by obtain ⟨m, hm⟩ := k2; exact DataW.trod_lt m _ _ _ hm
 obtain ⟨a2, rfl, rfl, rfl, w2⟩ := open_int Tryd.underlying3 (hval 2 3 v2 rfl rfl) h2
 have k3 := h3
 have lt3 : ∀ x ∈ p3, x.block < W.heap.size := by obtain ⟨m, hm⟩ := k3; exact DataW.trod_lt m _ _ _ hm
 obtain ⟨x3_0, w3⟩ := open_intsA (hval 3 24 v3 rfl rfl) h3 (fits_at hsz (j := 3) rfl rfl)
 have k4 := h4
 have lt4 : ∀ x ∈ p4, x.block < W.heap.size := by obtain ⟨m, hm⟩ := k4; exact DataW.trod_lt m _ _ _ hm
 obtain ⟨a4, rfl, rfl, rfl, w4⟩ := open_int Tryd.underlying3 (hval 4 3 v4 rfl rfl) h4
 clear hA0 hval0
 refine (walk W (tab_of_laid hL) v0 x0_0 w0 v1 x1_0 w1 a2 (Go.bounds_i64 w2) v3 x3_0 w3 a4 (Go.bounds_i64 w4)).mono fun e W' ⟨he, bel⟩ => ?_
 subst he
 exact ⟨_, rfl, _, _, _, [], _, [], hW', trodAll_mk1 (shut_bool Tryd.underlying4 _), (trodAll_cons_mk (Below.trod Facts.laidOut (by kernel_rfl) (of_decide_eq_true (by kernel_rfl)) k0 bel lt0) (trodAll_cons_mk (Below.trod Facts.laidOut (by kernel_rfl) (of_decide_eq_true (by kernel_rfl)) k1 bel lt1) (trodAll_cons_mk (Below.trod Facts.laidOut (by kernel_rfl) (of_decide_eq_true (by kernel_rfl)) k2 bel lt2) (trodAll_cons_mk (Below.trod Facts.laidOut (by kernel_rfl) (of_decide_eq_true (by kernel_rfl)) k3 bel lt3) (trodAll_cons_mk (Below.trod Facts.laidOut (by kernel_rfl) (of_decide_eq_true (by kernel_rfl)) k4 bel lt4) trodAll_mk0))))), rfl, bel.frame _, fun h => by cases h⟩
theorem closed : joinedFacts Tryd.prog 7 Tryd.f7 Rows.seeksFewSpec Rows.seeksFewRow = true := by
 unfold joinedFacts
 rw [Facts.enters, Facts.lifts, Facts.made]
 kernel_rfl
theorem over : Rows.seeksFewRow.holds Tryd.pinned (OpenSpec.ofChange Rows.seeksFewSpec) :=
 OpenClaim.holds_of_wide 7 Tryd.f7 rfl rfl rfl rfl rfl rfl rfl ⟨rfl, rfl, rfl, rfl, rfl⟩ rfl rfl rfl rfl rfl (by kernel_rfl) Tryd.func7 closed
  (of_decide_eq_true (by kernel_rfl)) (by unfold Func.isWrapper; first | (rw [if_pos (by decide +kernel)]; kernel_rfl) | (rw [if_neg (by decide +kernel)]; exact ⟨rfl, rfl⟩))
  (fun os started H enc _ => lifted os started H enc)
theorem proved : Rows.SeeksFewCardSaid :=
 Claim7.holds_tied_plain_at .later [] [.data] true (true, "850d05a04a8e8d5f98819d9d0a54a36c2c86ac0283d882885c8e6c491e21e498") false over (fun _ h => by cases h) (by kernel_rfl) (fun _ h => by cases h) seeksFew_row_tie rfl ⟨rfl, rfl⟩ (by kernel_rfl) rfl
  (fun f fn hf hfn => by
   obtain rfl : f = 7 := Option.some.inj ((show Tryd.prog.funcNamed "hourglass/hourglasskeep.SeeksFew" = some 7 by kernel_rfl).symm.trans hf) |>.symm
   obtain rfl : fn = Tryd.f7 := (Option.some.inj (Tryd.func7.symm.trans hfn)).symm
   exact ⟨by kernel_rfl, fun j t ht => by
    rw [Tryd.params7] at ht
    have hm : t ∈ [22, 22, 3, 24, 3] := by simpa using Array.mem_of_getElem? ht
    have hall : ([22, 22, 3, 24, 3].all fun u => !Tryd.prog.wantsStandIn u) = true := by kernel_rfl
    exact (show Tryd.prog.wantsStandIn t = false by simpa using List.all_eq_true.1 hall t hm)⟩)
  (by kernel_rfl)
#print axioms proved
end Go.Proofs.YtpdbcdfgonnnnaaDoor.lSeeksFew
