/- The law hourglasskeep.SeeksTell returns true at all raw things and all numbers, the table laid as the program's text lays it. No further condition. -/
import Derived.Test.YtpdbcdfgonnnnaaDoorRows
import Derived.Test.YtpdbcdfgonnnnaaDoorYMem
import Derived.Test.YtpdbcdfgonnnnaaDoorYFacts
import Derived.WalkKit
import Derived.ProofKit
import Derived.OpenShut
import Derived.ShutString
import Derived.ChangeOld
import Derived.Below
import Derived.Test.YtpdbcdfgonnnnaaDoorYVp
import Derived.Test.YtpdbcdfgonnnnaaDoorYEu
import Derived.Test.YtpdbcdfgonnnnaaDoorYPk
import Derived.Test.YtpdbcdfgonnnnaaDoorYKr
import Derived.Test.YtpdbcdfgonnnnaaDoorYWa
import Derived.Test.YtpdbcdfgonnnnaaDoorTie
import Derived.Test.YtpdbcdfgonnnnaaDoorCards
import Derived.SevenTiedAt
import Derived.Deep.RegionLaw
import Derived.Deep.CutBlock
import Derived.Deep.CutRange
import Derived.Deep.LoopGhost
namespace Go.Proofs.YtpdbcdfgonnnnaaDoor.lSeeksTell
open Go Go.RowKit Go.ChangeShapes Go.WideShapes Go.ChangeAt Go.Deep
set_option maxHeartbeats 8000000
set_option maxRecDepth 100000
open Go.ChangeMaps (open_string shut_string)
set_option linter.unusedVariables false
attribute [local go_sem ↓] Go.wp_at_zero Go.wp_at_succ
section
variable {w : World} {n : Int} {ai ab : Option Addr} {ci cb : Nat} {vg : Value} {img is vs : List Int} {bs : List (List Int)} {ds : List Int} {l : List UInt8} {N : Nat} {m : Mach}
theorem kseek_far (h : KT w n (.slice ai img.length ci) (.slice ab l.length cb) vg img is vs bs ds l N m) (ht : Tab w) {a ev kp : Int} (hs : SetOk a ev kp) (ha : 16 * (kp + 2) ≤ a) {vz : Value} {z : Int} (hz : Ints w.heap.size w vz [z]) (hN : (N : Int) < z) : Calls Tryd.prog 11 #[.agg #[.int .i64 a, .int .i64 ev, .int .i64 kp], .agg #[.slice ai img.length ci, .slice ab l.length cb, .int .i64 N], vz] w (fun e w' => e = .returned (.tuple #[.slice none 0 0, .int .i64 2]) ∧ Below w.heap.size w w') := by
 refine (kseek_gen h ht hs hz (by simp)).mono ?_
 rintro e w1 ⟨hb, ⟨c, he, ⟨rfl, _⟩ | ⟨_, hc⟩⟩ | ⟨hr, _⟩⟩
 · exact ⟨he, hb⟩
 · omega
 · have := hr z (List.mem_singleton.2 rfl); omega
end
theorem walk (W : World) (ht : Tab W) (v1 : Value) (xs : List Rw) (h1 : RawsR W.heap.size W v1 xs) (v2 : Value) (ys : List Rw) (h2 : RawsR W.heap.size W v2 ys) (n : Int) (hn : I64 n) (v3 : Value) (ks : List Int) (h3 : Ints W.heap.size W v3 ks) (every : Int) (he : I64 every) (keep : Int) (hk : I64 keep) : Calls Tryd.prog 8 #[v1, v2, .int .i64 n, v3, .int .i64 every, .int .i64 keep] W fun e W' => e = .returned (.bool true) ∧ Below W.heap.size W W' := by
 have HT := Lib.hid ht
 have HKR := Lib.hid (krecorded_any v1 v2 xs ys n W ht h1 h2 hn)
 have HP1 := Lib.hid (fun w => picked_any every 60 w he.1 he.2 (by omega) (by omega))
 have HP2 := Lib.hid (fun w => picked_any keep 8 w hk.1 hk.2 (by omega) (by omega))
 obtain ⟨p0, p1⟩ := pick_rng every 60 (by omega)
 obtain ⟨q0, q1⟩ := pick_rng keep 8 (by omega)
 have HSO : Hid (SetOk 200 (1 + pickZ every 60) (1 + pickZ keep 8) ∧ 16 * (1 + pickZ keep 8 + 2) ≤ 200) := Lib.hid ⟨⟨by omega, by omega, by omega, by omega, by omega, by omega⟩, by omega⟩
 generalize pickZ every 60 = pe at *
 generalize pickZ keep 8 = pk at *
 have HKI := Lib.hid h3
 obtain ⟨ak, ck, rfl, hkl, _⟩ := id h3
 clear ht h1 h2 hn he hk h3
 go_enter Tryd.func8, Tryd.ntmps8
 go_wp2_with fail
 refine HKR.out.mono ?_
 rintro e w1 ⟨img, is, vs, bs, ds, l, N, m, ai, ab, ar, am, ao, ci, cb, cr, cm, co, rfl, hk, hb1⟩
 go_upto_region 2 with fail
 have HBA := Lib.hid (below_alloc2 w1 (.cells #[.slice ai img.length ci, .slice ab l.length cb, .int .i64 N] 27 (0, 0)) (.cells #[.slice ar m.regs.length cr, .int .i64 m.pc, .int .i64 m.back, .bool m.ints, .bool m.wait, .int .i64 m.table, .int .i64 m.count, .int .i64 m.fin, .slice am m.mem.length cm, .slice ao m.out.length co, .int .i64 m.ready, .int .i64 m.want] 29 (0, 0)))
 obtain ⟨w2, hw2⟩ : ∃ W, W = ((w1.alloc (.cells #[.slice ai img.length ci, .slice ab l.length cb, .int .i64 N] 27 (0, 0))).alloc (.cells #[.slice ar m.regs.length cr, .int .i64 m.pc, .int .i64 m.back, .bool m.ints, .bool m.wait, .int .i64 m.table, .int .i64 m.count, .int .i64 m.fin, .slice am m.mem.length cm, .slice ao m.out.length co, .int .i64 m.ready, .int .i64 m.want] 29 (0, 0))) := ⟨_, rfl⟩
 have HX1 := Lib.hid (show w2.heap[w1.heap.size]? = some (.cells #[.slice ai img.length ci, .slice ab l.length cb, .int .i64 N] 27 (0, 0)) from by rw [hw2]; exact (alloc_lt (by simp)).trans (alloc_at rfl))
 have HX2 := Lib.hid (show w2.heap[w1.heap.size + 1]? = some (.cells #[.slice ar m.regs.length cr, .int .i64 m.pc, .int .i64 m.back, .bool m.ints, .bool m.wait, .int .i64 m.table, .int .i64 m.count, .int .i64 m.fin, .slice am m.mem.length cm, .slice ao m.out.length co, .int .i64 m.ready, .int .i64 m.want] 29 (0, 0)) from by rw [hw2]; exact alloc_at (by simp))
 rw [← hw2] at HBA ⊢
 obtain ⟨gt, hgt⟩ : ∃ g, g = w1.heap.size := ⟨_, rfl⟩
 obtain ⟨gg, hgg⟩ : ∃ g, g = w1.heap.size + 1 := ⟨_, rfl⟩
 rw [← hgg] at HX2 ⊢
 rw [← hgt] at HX1 ⊢
 clear hw2 hgt hgg
 have hb2 := hb1.trans (HBA.out.mono hb1.size)
 have HB2 := Lib.hid (hb2)
 have HK := Lib.hid (hk.to HBA.out)
 have HM : Hid (m = (recI is vs bs ds (recS0 img) N).m) := Lib.hid hk.rc.mach
 have hN := hk.rc.tape.le
 clear HBA hb1 hk HKR hb2
 have t0 : w2.cell? ⟨gt, 0, none⟩ = some (.slice ai img.length ci) := cell_block HX1.out 0
 have t1 : w2.cell? ⟨gt, 1, none⟩ = some (.slice ab l.length cb) := cell_block HX1.out 1
 have t2 : w2.cell? ⟨gt, 2, none⟩ = some (.int .i64 N) := cell_block HX1.out 2
 have lt2 : gt < w2.heap.size := (Array.getElem?_eq_some_iff.1 HX1.out).1
 have lg2 : gg < w2.heap.size := (Array.getElem?_eq_some_iff.1 HX2.out).1
 clear t0 t1 t2 lt2 lg2 HX2 HM
 have HKS := Lib.hid (HKI.out.to HB2.out.size (same_below HB2.out))
 go_wp2_with fail
 refine (HP1.out _).mono ?_
 rintro e w' ⟨rfl, rfl⟩
 go_wp2_with fail
 refine (HP2.out _).mono ?_
 rintro e w' ⟨rfl, rfl⟩
 clear HP1 HP2 HKI
 go_upto_region 3 with fail
 obtain ⟨w3, hw3⟩ : ∃ W, W = (w2.alloc (.cells #[.int .i64 200, .int .i64 (1 + pe), .int .i64 (1 + pk)] 37 (0, 0))) := ⟨_, rfl⟩
 have HXS := Lib.hid (show w3.heap[w2.heap.size]? = some (.cells #[.int .i64 200, .int .i64 (1 + pe), .int .i64 (1 + pk)] 37 (0, 0)) from by rw [hw3]; exact alloc_at rfl)
 have HBA := Lib.hid (show Below w2.heap.size w2 w3 from by rw [hw3]; exact below_alloc _ _)
 rw [← hw3]
 obtain ⟨gs, hgs⟩ : ∃ g, g = w2.heap.size := ⟨_, rfl⟩
 rw [← hgs] at HXS ⊢
 clear hw3 hgs
 have HB3 := Lib.hid (HB2.out.trans (HBA.out.mono HB2.out.size))
 have HK3 := Lib.hid (HK.out.to HBA.out)
 have HKS3 := Lib.hid (HKS.out.to HBA.out.size (same_below HBA.out))
 have HX13 := Lib.hid (block_below HBA.out HX1.out (Array.getElem?_eq_some_iff.1 HX1.out).1)
 clear p0 p1 q0 q1 HK HX1 HKS HBA
 have HKS := Lib.hid HKS3.out
 clear HKS3
 have HBS := Lib.hid (Below.refl w3.heap.size w3)
 go_upto_block 0 with fail
 go_cut [17, 18] from 42 to 121 (fun s17 s18 wx => ∃ (va : Option Addr) (ca : Nat) (zs : List Int), zs.length ≤ 8 ∧ s17 = .slice va zs.length ca ∧ Hid (∀ z ∈ zs, 0 ≤ z ∧ z ≤ (N : Int)) ∧ Hid (wx.ownsRow w3.heap.size 3 1 (.slice va zs.length ca) zs.length (zs.map (Value.int .i64))) ∧ Hid (Below w3.heap.size w3 wx))
 case first =>
  go_wp2_with fail
  go_loopg [17, 18] 9 (fun gh s17 s18 wr => ∃ (va : Option Addr) (ca : Nat) (zs : List Int), zs.length ≤ 8 ∧ zs.length ≤ ks.length ∧ gh = 9 - zs.length ∧ s18 = .int .i64 zs.length ∧ s17 = .slice va zs.length ca ∧ Hid (∀ z ∈ zs, 0 ≤ z ∧ z ≤ (N : Int)) ∧ Hid (wr.ownsRow w3.heap.size 3 1 (.slice va zs.length ca) zs.length (zs.map (Value.int .i64))) ∧ Hid (Below w3.heap.size w3 wr))
  case atStart => exact ⟨none, 0, [], by simp, Nat.zero_le _, rfl, rfl, rfl, Lib.hid (fun z hz => (by cases hz)), Lib.hid (World.ownsRow_nil _ _ _ _), HBS⟩
  case round =>
   obtain ⟨va, ca, zs, hi, hik, rfl, rfl, rfl, HZR, HZO, HBR⟩ := hrel
   obtain ⟨i, hiz⟩ : ∃ i, i = zs.length := ⟨_, rfl⟩
   have HIZ := Lib.hid hiz
   rw [← hiz] at hi hik HZO ⊢
   clear hiz
   by_cases hgo : i < ks.length ∧ i < 8
   ·
    obtain ⟨hil, hi8⟩ := hgo
    obtain ⟨_, _, hv, _, _, hcl⟩ := HKS.out
    injection hv with q1 q2 q3
    subst q1 q3
    obtain ⟨bk, ok, vk, rfl, hbk, hck, rfl, hk64⟩ := hcl i hil
    have hbw := HBR.out.size
    rw [← same_below HBR.out _ _ hbk] at hck
    have hbl : bk < wr.heap.size := by omega
    clear hcl
    generalize ks[i] = kz at *
    have HX1r := Lib.hid (block_below HBR.out HX13.out (Array.getElem?_eq_some_iff.1 HX13.out).1)
    have t2 : wr.cell? ⟨gt, 2, none⟩ = some (.int .i64 N) := cell_block HX1r.out 2
    have ltr : gt < wr.heap.size := (Array.getElem?_eq_some_iff.1 HX1r.out).1
    obtain ⟨pk0, pk1⟩ := pick_rng kz ((N : Int) + 1) (by omega)
    have HPK := Lib.hid (fun w => picked_any kz ((N : Int) + 1) w hk64.1 hk64.2 (by omega) (by omega))
    generalize pickZ kz ((N : Int) + 1) = q at *
    have w1N : IntKind.i64.wrap ((N : Int) + 1) = (N : Int) + 1 := IntWalk.i64_in _ (by omega)
    have hd1 : decide ((i : Int) < (ks.length : Int)) = true := decide_eq_true (by omega)
    have hd2 : decide ((i : Int) < 8) = true := decide_eq_true (by omega)
    clear hk64
    go_upto_region 7 with fail
    go_region_law ((first | (go_simp; go_at_call 20; refine (HPK.out _).mono ?_; rintro en wq ⟨rfl, rfl⟩; skip) | (go_loud (refine step_push_at wr.drew rfl (.tmp 52) (.tmp 61) 24 rfl w3.heap.size 3 (.int .i64 0) 1 8 Tryd.underlying24 info_int rfl (by decide) [.int .i64 q] rfl (by simp [Value.oneCell']) _ _ _ (by rfl) HZO.out (by rfl) (by simp) (by omega) (by omega) (by simp; omega) ?_); intro g5 cp5 w5 hown5 hgrow5 hn5; have HO5 := Lib.hid hown5; have HG5 := Lib.hid hgrow5; clear hown5 hgrow5 hn5)))
    all_goals (
     have HB5 := Lib.hid (below_grown (w := wr.drew) (below_drewN HBR.out 1) HZO.out HG5.out hbw (Nat.le_refl _))
     have HLL := Lib.hid (show (zs ++ [q]).length = i + 1 from by rw [List.length_append, ← HIZ.out]; rfl)
     have HNR := Lib.hid (show ∀ z ∈ zs ++ [q], 0 ≤ z ∧ z ≤ (N : Int) from fun z hz => by
      rcases List.mem_append.1 hz with h | h
      · exact HZR.out z h
      · rw [List.mem_singleton.1 h]; omega)
     go_wp2_with fail
     go_roundg (9 - (i + 1))
     case measure => rw [← HIZ.out]; omega
     case rel => exact ⟨some ⟨g5, 0, none⟩, cp5, zs ++ [q], by rw [HLL.out]; omega, by rw [HLL.out]; omega, by rw [HLL.out], by rw [HLL.out]; go_num, by rw [HLL.out], HNR, Lib.hid (by rw [HLL.out, List.map_append]; exact HO5.out), HB5⟩)
   ·
    have HEND := Lib.hid (show ¬ (i < ks.length ∧ i < 8) from hgo)
    by_cases hil : i < ks.length
    ·
     have hd1 : decide ((i : Int) < (ks.length : Int)) = true := decide_eq_true (by omega)
     have hd2 : decide ((i : Int) < 8) = false := decide_eq_false (by omega)
     clear hgo
     go_wp2_with fail
     go_meet
     exact ⟨va, ca, zs, by rw [← HIZ.out]; omega, by rw [← HIZ.out], HZR, Lib.hid (by rw [← HIZ.out]; exact HZO.out), HBR⟩
    ·
     have hd1 : decide ((i : Int) < (ks.length : Int)) = false := decide_eq_false (by omega)
     clear hgo
     go_wp2_with fail
     go_meet
     exact ⟨va, ca, zs, by rw [← HIZ.out]; omega, by rw [← HIZ.out], HZR, Lib.hid (by rw [← HIZ.out]; exact HZO.out), HBR⟩
 case rest =>
  obtain ⟨va, ca, zs, hzl, rfl, HZR, HZO, HBZ⟩ := hcut
  obtain ⟨w4, hw4⟩ : ∃ w4, w4 = wc := ⟨_, rfl⟩
  subst hw4
  have HB4 := Lib.hid (HB3.out.trans (HBZ.out.mono HB3.out.size))
  have HK4 := Lib.hid (HK3.out.to HBZ.out)
  have HZI := Lib.hid (ints_of_owns HZO.out (by omega) (fun z hz => by have := HZR.out z hz; unfold I64; omega))
  have HX14 := Lib.hid (block_below HBZ.out HX13.out (Array.getElem?_eq_some_iff.1 HX13.out).1)
  have HXS4 := Lib.hid (block_below HBZ.out HXS.out (Array.getElem?_eq_some_iff.1 HXS.out).1)
  clear HK3 HX13 HXS HB3 HZO HBS HKS
  have t0 : w4.cell? ⟨gt, 0, none⟩ = some (.slice ai img.length ci) := cell_block HX14.out 0
  have t1 : w4.cell? ⟨gt, 1, none⟩ = some (.slice ab l.length cb) := cell_block HX14.out 1
  have t2 : w4.cell? ⟨gt, 2, none⟩ = some (.int .i64 N) := cell_block HX14.out 2
  have s0 : w4.cell? ⟨gs, 0, none⟩ = some (.int .i64 200) := cell_block HXS4.out 0
  have s1 : w4.cell? ⟨gs, 1, none⟩ = some (.int .i64 (1 + pe)) := cell_block HXS4.out 1
  have s2 : w4.cell? ⟨gs, 2, none⟩ = some (.int .i64 (1 + pk)) := cell_block HXS4.out 2
  have lt4 : gt < w4.heap.size := (Array.getElem?_eq_some_iff.1 HX14.out).1
  have ls4 : gs < w4.heap.size := (Array.getElem?_eq_some_iff.1 HXS4.out).1
  have HSK := Lib.hid (kseek_any HK4.out (HT.out.to HB4.out) HSO.out.1 HSO.out.2 HZI.out (by omega) HZR.out)
  go_wp2_with fail
  refine HSK.out.mono ?_
  rintro e w5 ⟨hb5, va5, ca5, ls, ho, hm, rfl⟩
  have HB5 := Lib.hid (HB4.out.trans (hb5.mono HB4.out.size))
  have HK5 := Lib.hid (HK4.out.to hb5)
  have HO5 := Lib.hid ho
  have HMS := Lib.hid hm
  have HZ5 := Lib.hid (HZI.out.to hb5.size (same_below hb5))
  have HX15 := Lib.hid (block_below hb5 HX14.out (Array.getElem?_eq_some_iff.1 HX14.out).1)
  have HXS5 := Lib.hid (block_below hb5 HXS4.out (Array.getElem?_eq_some_iff.1 HXS4.out).1)
  clear t0 t1 t2 s0 s1 s2 lt4 ls4 HSK HX14 HXS4 HK4 HZI HBZ ho hm hb5 HB4
  have t0 : w5.cell? ⟨gt, 0, none⟩ = some (.slice ai img.length ci) := cell_block HX15.out 0
  have t1 : w5.cell? ⟨gt, 1, none⟩ = some (.slice ab l.length cb) := cell_block HX15.out 1
  have t2 : w5.cell? ⟨gt, 2, none⟩ = some (.int .i64 N) := cell_block HX15.out 2
  have s0 : w5.cell? ⟨gs, 0, none⟩ = some (.int .i64 200) := cell_block HXS5.out 0
  have s1 : w5.cell? ⟨gs, 1, none⟩ = some (.int .i64 (1 + pe)) := cell_block HXS5.out 1
  have s2 : w5.cell? ⟨gs, 2, none⟩ = some (.int .i64 (1 + pk)) := cell_block HXS5.out 2
  have lt5 : gt < w5.heap.size := (Array.getElem?_eq_some_iff.1 HX15.out).1
  have ls5 : gs < w5.heap.size := (Array.getElem?_eq_some_iff.1 HXS5.out).1
  have HBN := Lib.hid (below_alloc w5 (.cells #[.int .i64 ((N : Int) + 1)] 3 (0, 0)))
  have w1N : IntKind.i64.wrap ((N : Int) + 1) = (N : Int) + 1 := IntWalk.i64_in _ (by omega)
  have HSF := Lib.hid (kseek_far (HK5.out.to HBN.out) (HT.out.to (HB5.out.trans (HBN.out.mono HB5.out.size))) HSO.out.1 HSO.out.2 (ints_new w5 [(N : Int) + 1] (fun z hz => by rw [List.mem_singleton.1 hz]; unfold I64; omega) (by simp)) (by omega))
  go_wp2_with fail
  refine HSF.out.mono ?_
  rintro e w6 ⟨rfl, hb6⟩
  have hb56 : Below w5.heap.size w5 w6 := HBN.out.trans (hb6.mono HBN.out.size)
  have HB6 := Lib.hid (HB5.out.trans (hb56.mono HB5.out.size))
  have HK6 := Lib.hid (HK5.out.to hb56)
  have HO6 := Lib.hid (HO5.out.below hb56)
  have HZ6 := Lib.hid (HZ5.out.to hb56.size (same_below hb56))
  have HX16 := Lib.hid (block_below hb56 HX15.out (Array.getElem?_eq_some_iff.1 HX15.out).1)
  clear t0 t1 t2 s0 s1 s2 lt5 ls5 HSF HX15 HXS5 HK5 HO5 HZ5 HBN hb6 hb56 HB5 w1N HSO
  have HBR := Lib.hid (Below.refl w6.heap.size w6)
  have hzz : zs.length ≤ 9223372036854775807 := by omega
  go_upto_block 2 with fail
  go_wp2_with fail
  go_loopg [23, 24, 25, 26, 99] zs.length (fun gh s23 s24 s25 s26 s99 wr => ∃ j : Nat, j ≤ zs.length ∧ gh = zs.length - j ∧ s99 = .int .i64 j ∧ Hid (Below w6.heap.size w6 wr))
  case atStart => exact ⟨0, Nat.zero_le _, by omega, rfl, HBR⟩
  case round =>
   obtain ⟨j, hj, rfl, rfl, HBW⟩ := hrel
   by_cases hlt : j < zs.length
   ·
    obtain ⟨_, _, hv, _, _, hcl⟩ := HZ6.out
    injection hv with q1 q2 q3
    subst q1 q3
    obtain ⟨bz, oz, vz, rfl, hbz, hcz, rfl, hz64⟩ := hcl j hlt
    rw [← same_below HBW.out _ _ hbz] at hcz
    have hbl : bz < wr.heap.size := Nat.lt_of_lt_of_le hbz HBW.out.size
    have hll : ls.length = zs.length := by have := congrArg List.length HMS.out; simpa using this
    have hlj : j < ls.length := by omega
    have HME := Lib.hid (show ls[j].m = (recI is vs bs ds (recS0 img) (zs[j]).toNat).m from by
     have := congrArg (fun l => l[j]?) HMS.out
     simpa [hlj, hlt] using this)
    have HRJ := Lib.hid (HZR.out _ (List.getElem_mem hlt))
    have HG12 := Lib.hid (fun (U : World) (hb : Below w6.heap.size w6 U) => HO6.out.get12 hlj hb)
    have HEL := Lib.hid (HO6.out.el _ (List.getElem_mem hlj))
    generalize ls[j] = x at *
    generalize zs[j] = z at *
    obtain ⟨mz, xr, yr, xm, ym, xo, yo⟩ := x
    have HMZ := Lib.hid (show mz = (recI is vs bs ds (recS0 img) z.toNat).m from HME.out)
    have HKr := Lib.hid (HK6.out.to HBW.out)
    have HBWr := Lib.hid (HB6.out.trans (HBW.out.mono HB6.out.size))
    have HX1r := Lib.hid (block_below HBW.out HX16.out (Array.getElem?_eq_some_iff.1 HX16.out).1)
    have t0 : wr.cell? ⟨gt, 0, none⟩ = some (.slice ai img.length ci) := cell_block HX1r.out 0
    have t1 : wr.cell? ⟨gt, 1, none⟩ = some (.slice ab l.length cb) := cell_block HX1r.out 1
    have t2 : wr.cell? ⟨gt, 2, none⟩ = some (.int .i64 N) := cell_block HX1r.out 2
    have ltr : gt < wr.heap.size := (Array.getElem?_eq_some_iff.1 HX1r.out).1
    have hll2 : (j : Int) < (zs.length : Int) := by omega
    have HRP := Lib.hid (krep_any HKr.out (HT.out.to HBWr.out) (k := z) (j := z.toNat) (by have := HRJ.out; omega) (by have := HRJ.out; omega) HMZ.out)
    clear hcl hz64 HME
    go_wp2_with fail
    refine HRP.out.mono ?_
    rintro e w7 ⟨br, dr, bm, dm, bo, dq, rfl, hg7, hb7⟩
    go_upto_region 16 with fail
    obtain ⟨w8, hw8⟩ : ∃ W, W = (w7.alloc (.cells #[.slice br mz.regs.length dr, .int .i64 mz.pc, .int .i64 mz.back, .bool mz.ints, .bool mz.wait, .int .i64 mz.table, .int .i64 mz.count, .int .i64 mz.fin, .slice bm mz.mem.length dm, .slice bo mz.out.length dq, .int .i64 mz.ready, .int .i64 mz.want] 29 (0, 0))) := ⟨_, rfl⟩
    have HXB := Lib.hid (show w8.heap[w7.heap.size]? = some (.cells #[.slice br mz.regs.length dr, .int .i64 mz.pc, .int .i64 mz.back, .bool mz.ints, .bool mz.wait, .int .i64 mz.table, .int .i64 mz.count, .int .i64 mz.fin, .slice bm mz.mem.length dm, .slice bo mz.out.length dq, .int .i64 mz.ready, .int .i64 mz.want] 29 (0, 0)) from by rw [hw8]; exact alloc_at rfl)
    have HBA := Lib.hid (show Below w7.heap.size w7 w8 from by rw [hw8]; exact below_alloc _ _)
    rw [← hw8]
    obtain ⟨gb, hgb⟩ : ∃ g, g = w7.heap.size := ⟨_, rfl⟩
    rw [← hgb] at HXB ⊢
    clear hw8 hgb
    have hb8 := hb7.trans (HBA.out.mono hb7.size)
    have HB8 := Lib.hid (HBW.out.trans (hb8.mono HBW.out.size))
    have HG8 := Lib.hid (hg7.to HBA.out.size (same_below HBA.out))
    have HXI := Lib.hid (MGR.ints (HEL.out.stay (fun g hg => (HB8.out.block g (HEL.out.lt hg).2))))
    obtain ⟨g0, cap0, hv0, lg8, d0, d1, d2, d3, d4, d5, d6, d7, d8, d9, d10, d11⟩ := HG12.out w8 HB8.out
    try simp only at d0 d1 d2 d3 d4 d5 d6 d7 d8 d9 d10 d11
    injection hv0 with e1 e2 e3
    subst e1
    clear e2 e3
    first | (obtain ⟨b0, b1, b2, b3, b4, b5, b6, b7, b8, b9, b10, b11⟩ := cells12 HXB.out) | (obtain ⟨b0, b1, b2, b3, b4, b5, b6, b7, b8, b9, b10, b11⟩ := cells13 HXB.out)
    have lb8 : gb < w8.heap.size := (Array.getElem?_eq_some_iff.1 HXB.out).1
    have HBD := Lib.hid (below_drewN (Below.refl w8.heap.size w8) 1)
    have HSM := Lib.hid (show Calls Tryd.prog 22 #[.agg #[.slice xr mz.regs.length yr, .int .i64 mz.pc, .int .i64 mz.back, .bool mz.ints, .bool mz.wait, .int .i64 mz.table, .int .i64 mz.count, .int .i64 mz.fin, .slice xm mz.mem.length ym, .slice xo mz.out.length yo, .int .i64 mz.ready, .int .i64 mz.want], .agg #[.slice br mz.regs.length dr, .int .i64 mz.pc, .int .i64 mz.back, .bool mz.ints, .bool mz.wait, .int .i64 mz.table, .int .i64 mz.count, .int .i64 mz.fin, .slice bm mz.mem.length dm, .slice bo mz.out.length dq, .int .i64 mz.ready, .int .i64 mz.want]] w8.drew (fun e w' => e = .returned (.bool true) ∧ Below w8.heap.size w8 w') from
     (ksame_yes mz _ _ _ _ _ _ w8.drew (HXI.out.1.to HBD.out.size (same_below HBD.out)) (HXI.out.2.1.to HBD.out.size (same_below HBD.out)) (HXI.out.2.2.to HBD.out.size (same_below HBD.out)) ((machr_ints HG8.out).1.to HBD.out.size (same_below HBD.out)) ((machr_ints HG8.out).2.1.to HBD.out.size (same_below HBD.out)) ((machr_ints HG8.out).2.2.to HBD.out.size (same_below HBD.out))).mono (fun e w' ⟨h1, h2⟩ => ⟨h1, HBD.out.trans (h2.mono HBD.out.size)⟩))
    clear t0 t1 t2 ltr hb7 hg7 hb8 HBA hcz hbl HRP HKr HX1r HXI HEL
    go_upto_region 16 with fail
    go_still_tail 8, (by kernel_rfl)
    change wpList _ _ _ _ _ w8.drew
    go_wp2_with fail
    refine HSM.out.mono ?_
    rintro e w9 ⟨rfl, hb9⟩
    have HB9 := Lib.hid (HB8.out.trans (hb9.mono HB8.out.size))
    have hwr : IntKind.i64.wrap ((j : Int) + 1) = ((j + 1 : Nat) : Int) := by rw [IntWalk.i64_in _ (by omega)]; rfl
    clear d0 d1 d2 d3 d4 d5 d6 d7 d8 d9 d10 d11 b0 b1 b2 b3 b4 b5 b6 b7 b8 b9 b10 b11 lg8 lb8 hb9 HSM HBD HB8 HG8 HXB
    go_wp2_with fail
    go_roundg (zs.length - (j + 1))
    case measure => omega
    case rel => exact ⟨j + 1, by omega, rfl, by go_num, HB9⟩
   ·
    have hll2 : ¬ (j : Int) < (zs.length : Int) := by omega
    have HFIN := Lib.hid (HB6.out.trans (HBW.out.mono HB6.out.size))
    go_wp2
    go_ret
    exact ⟨ret_bool (by simp), HFIN.out⟩
theorem lifted (os : Os) (started : os.Started) (H : Type) (enc : TypeId × Value → H) :
  ReturnsInHanded {} Tryd.checked os 8 .any (fun w args => (Rows.seeksTellSpec.pre enc Tryd.prog Tryd.f8 [] false w args ∧ laidMetH Tryd.prog laidW w) ∧ sizedMet enc Tryd.prog Tryd.f8 (OpenSpec.ofChange Rows.seeksTellSpec) false w args) (Rows.seeksTellSpec.post enc Tryd.prog Tryd.f8 false true false false) := by
 refine returnsInHanded_of_change_and (C := Tryd.checked) (X := fun w _ => laidMetH Tryd.prog laidW w) (fun _ _ _ hh h => h.of_heap hh) Facts.own started (by kernel_rfl) Tryd.func8
  (ChangeSpec.witness_shaped (enc := enc) (C := Tryd.checked) (os := os) (X := fun w _ => laidMetH Tryd.prog laidW w) false (World.doorLaid Tryd.prog 400 os) #[.slice none 0 0, .slice none 0 0, .int .i64 0, .slice none 0 0, .int .i64 0, .int .i64 0] 8 rfl (World.shaped_of_RefB (by kernel_rfl) (by kernel_rfl)) (by kernel_rfl) (by kernel_rfl) (by kernel_rfl) (door_met os _)) ?_
 intro W base args ds gs before hval0 hW hcnd hsz0 hL _
 have hsz : (DataW.weightsEach Tryd.prog (Tryd.f8.params.toList ++ Rows.seeksTellSpec.plain.varTypes Tryd.prog) (ds ++ gs)).all (· ≤ reachBytes) = true := hsz0
 have hval : ∀ (j : Nat) t v, Tryd.f8.params[j]? = some t → args[j]? = some v → Value.okWide Tryd.prog W .any base t v := hval0
 have hW' := hW
 obtain ⟨p, q, hA0, hV, rfl, hfz, hnd⟩ := hW
 have hA : DataW.TrodAll enc Tryd.prog W 0 (fun _ => true) true Tryd.f8.params.toList args.toList ds p := hA0
 rw [Tryd.params8] at hA hval hsz
 obtain ⟨v0, vs0, d0, ds0, p0, q0, hargs, rfl, rfl, h0, r0⟩ := trodAll_cons hA
 obtain ⟨v1, vs1, d1, ds1, p1, q1, rfl, rfl, rfl, h1, r1⟩ := trodAll_cons r0
 obtain ⟨v2, vs2, d2, ds2, p2, q2, rfl, rfl, rfl, h2, r2⟩ := trodAll_cons r1
 obtain ⟨v3, vs3, d3, ds3, p3, q3, rfl, rfl, rfl, h3, r3⟩ := trodAll_cons r2
 obtain ⟨v4, vs4, d4, ds4, p4, q4, rfl, rfl, rfl, h4, r4⟩ := trodAll_cons r3
 obtain ⟨v5, vs5, d5, ds5, p5, q5, rfl, rfl, rfl, h5, r5⟩ := trodAll_cons r4
 obtain ⟨rfl, rfl, rfl⟩ := trodAll_nil r5
 obtain rfl : args = #[v0, v1, v2, v3, v4, v5] := by cases args; simp_all
 obtain ⟨rfl, rfl⟩ := trodVars_none hV
 have k0 := h0
 have lt0 : ∀ x ∈ p0, x.block < W.heap.size := by obtain ⟨m, hm⟩ := k0; exact DataW.trod_lt m _ _ _ hm
 obtain ⟨x0_0, w0⟩ := open_rawsR (hval 0 22 v0 rfl rfl) h0 (fits_at hsz (j := 0) rfl rfl)
 have k1 := h1
 have lt1 : ∀ x ∈ p1, x.block < W.heap.size := by obtain ⟨m, hm⟩ := k1; exact DataW.trod_lt m _ _ _ hm
 obtain ⟨x1_0, w1⟩ := open_rawsR (hval 1 22 v1 rfl rfl) h1 (fits_at hsz (j := 1) rfl rfl)
 have k2 := h2
 have lt2 : ∀ x ∈ p2, x.block < W.heap.size := by obtain ⟨m, hm⟩ := k2; exact DataW.trod_lt m _ _ _ hm
 obtain ⟨a2, rfl, rfl, rfl, w2⟩ := open_int Tryd.underlying3 (hval 2 3 v2 rfl rfl) h2
 have k3 := h3
 have lt3 : ∀ x ∈ p3, x.block < W.heap.size := by obtain ⟨m, hm⟩ := k3; exact DataW.trod_lt m _ _ _ hm
 obtain ⟨x3_0, w3⟩ := open_intsA (hval 3 24 v3 rfl rfl) h3 (fits_at hsz (j := 3) rfl rfl)
 have k4 := h4
 have lt4 : ∀ x ∈ p4, x.block < W.heap.size := by obtain ⟨m, hm⟩ := k4; exact DataW.trod_lt m _ _ _ hm
 obtain ⟨a4, rfl, rfl, rfl, w4⟩ := open_int Tryd.underlying3 (hval 4 3 v4 rfl rfl) h4
 have k5 := h5
 have lt5 : ∀ x ∈ p5, x.block < W.heap.size := by obtain ⟨m, hm⟩ := k5; exact DataW.trod_lt m _ _ _ hm
 obtain ⟨a5, rfl, rfl, rfl, w5⟩ := open_int Tryd.underlying3 (hval 5 3 v5 rfl rfl) h5
 clear hA0 hval0
 refine (walk W (tab_of_laid hL) v0 x0_0 w0 v1 x1_0 w1 a2 (Go.bounds_i64 w2) v3 x3_0 w3 a4 (Go.bounds_i64 w4) a5 (Go.bounds_i64 w5)).mono fun e W' ⟨he, bel⟩ => ?_
 subst he
 exact ⟨_, rfl, _, _, _, [], _, [], hW', trodAll_mk1 (shut_bool Tryd.underlying4 _), (trodAll_cons_mk (Below.trod Facts.laidOut (by kernel_rfl) (of_decide_eq_true (by kernel_rfl)) k0 bel lt0) (trodAll_cons_mk (Below.trod Facts.laidOut (by kernel_rfl) (of_decide_eq_true (by kernel_rfl)) k1 bel lt1) (trodAll_cons_mk (Below.trod Facts.laidOut (by kernel_rfl) (of_decide_eq_true (by kernel_rfl)) k2 bel lt2) (trodAll_cons_mk (Below.trod Facts.laidOut (by kernel_rfl) (of_decide_eq_true (by kernel_rfl)) k3 bel lt3) (trodAll_cons_mk (Below.trod Facts.laidOut (by kernel_rfl) (of_decide_eq_true (by kernel_rfl)) k4 bel lt4) (trodAll_cons_mk (Below.trod Facts.laidOut (by kernel_rfl) (of_decide_eq_true (by kernel_rfl)) k5 bel lt5) trodAll_mk0)))))), rfl, bel.frame _, fun h => by cases h⟩
theorem closed : joinedFacts Tryd.prog 8 Tryd.f8 Rows.seeksTellSpec Rows.seeksTellRow = true := by
 unfold joinedFacts
 rw [Facts.enters, Facts.lifts, Facts.made]
 kernel_rfl
theorem over : Rows.seeksTellRow.holds Tryd.pinned (OpenSpec.ofChange Rows.seeksTellSpec) :=
 OpenClaim.holds_of_wide 8 Tryd.f8 rfl rfl rfl rfl rfl rfl rfl ⟨rfl, rfl, rfl, rfl, rfl⟩ rfl rfl rfl rfl rfl (by kernel_rfl) Tryd.func8 closed
  (of_decide_eq_true (by kernel_rfl)) (by unfold Func.isWrapper; first | (rw [if_pos (by decide +kernel)]; kernel_rfl) | (rw [if_neg (by decide +kernel)]; exact ⟨rfl, rfl⟩))
  (fun os started H enc _ => lifted os started H enc)
theorem proved : Rows.SeeksTellCardSaid :=
 Claim7.holds_tied_plain_at .later [] [.data] true (true, "850d05a04a8e8d5f98819d9d0a54a36c2c86ac0283d882885c8e6c491e21e498") false over (fun _ h => by cases h) (by kernel_rfl) (fun _ h => by cases h) seeksTell_row_tie rfl ⟨rfl, rfl⟩ (by kernel_rfl) rfl
  (fun f fn hf hfn => by
   obtain rfl : f = 8 := Option.some.inj ((show Tryd.prog.funcNamed "hourglass/hourglasskeep.SeeksTell" = some 8 by kernel_rfl).symm.trans hf) |>.symm
   obtain rfl : fn = Tryd.f8 := (Option.some.inj (Tryd.func8.symm.trans hfn)).symm
   exact ⟨by kernel_rfl, fun j t ht => by
    rw [Tryd.params8] at ht
    have hm : t ∈ [22, 22, 3, 24, 3, 3] := by simpa using Array.mem_of_getElem? ht
    have hall : ([22, 22, 3, 24, 3, 3].all fun u => !Tryd.prog.wantsStandIn u) = true := by kernel_rfl
    exact (show Tryd.prog.wantsStandIn t = false by simpa using List.all_eq_true.1 hall t hm)⟩)
  (by kernel_rfl)
#print axioms proved
end Go.Proofs.YtpdbcdfgonnnnaaDoor.lSeeksTell
