/- Several texts joined, each with its own heading in the notes: Equal events are found equal: slices. The keep's same: equal machines are found equal. The keep's runTells. No condition beyond those of each row. -/
import Derived.Test.YtpdbcdfgonnnnaaDoorYPs
import Derived.Test.YtpdbcdfgonnnnaaDoorYDe
import Derived.Test.YtpdbcdfgonnnnaaDoorYCl
import Derived.Handy
import Derived.StillTailTactics
import Derived.Deep.RegionWith
import Derived.Deep.RegionLaw
import Derived.Deep.CutBlock
import Derived.Test.YtpdbcdfgonnnnaaDoorYKr
namespace Go.Proofs.YtpdbcdfgonnnnaaDoor
open Go Go.RowKit Go.ChangeShapes Go.WideShapes Go.Deep
set_option maxHeartbeats 2000000
set_option linter.unusedVariables false
theorem equalI_any (v v' : Value) (zs : List Int) (w : World) (h : Ints w.heap.size w v zs) (h' : Ints w.heap.size w v' zs) : Calls Tryd.prog 30 #[v, v'] w fun e w' => e = .returned (.bool true) ∧ ∃ n, w' = w.drewN n := by
 obtain ⟨a, c, rfl, hl, _, hc⟩ := h
 obtain ⟨a', c', rfl, _, _, hc'⟩ := h'
 have Hc := Lib.hid hc
 have Hc' := Lib.hid hc'
 clear hc hc'
 go_enter Tryd.func30, Tryd.ntmps30
 go_wp2_with fail
 go_loopg [13] zs.length (fun gh s13 wr => ∃ k q : Nat, k ≤ zs.length ∧ gh = zs.length - k ∧ s13 = .int .i64 k ∧ wr = w.drewN q)
 case atStart => exact ⟨0, 0, Nat.zero_le _, by omega, rfl, rfl⟩
 case round =>
  obtain ⟨k, q, hk, rfl, rfl, rfl⟩ := hrel
  by_cases hlt : k < zs.length
  ·
   obtain ⟨b, off, vi, ha, hb, hcell, hvi, _⟩ := Hc.out k hlt
   obtain ⟨b', off', vi', ha', hb', hcell', hvi', _⟩ := Hc'.out k hlt
   subst ha ha' hvi hvi'
   have hkk : (k : Int) < (zs.length : Int) := by omega
   have hk0 : (0 : Int) ≤ (k : Int) := by omega
   have hz : (zs[k] != zs[k]) = false := by simp
   generalize zs[k] = z at *
   go_wp2_with fail
   go_quiet (fail)
   go_wp2
   go_roundg (zs.length - (k + 1))
   case measure => omega
   case rel => exact ⟨k + 1, _, by omega, rfl, by go_num, rfl⟩
  ·
   go_wp2
   go_ret
   exact ⟨rfl, q, rfl⟩
end Go.Proofs.YtpdbcdfgonnnnaaDoor
namespace Go.Proofs.YtpdbcdfgonnnnaaDoor
open Go Go.RowKit Go.ChangeShapes Go.WideShapes Go.Deep
set_option maxHeartbeats 8000000
set_option maxRecDepth 100000
set_option linter.unusedVariables false
attribute [local go_sem ↓] Go.wp_at_zero Go.wp_at_succ
theorem kequalB {B : Nat} (v v' : Value) (zs : List Int) (w : World) (hB : B ≤ w.heap.size) (h : Ints B w v zs) (h' : Ints B w v' zs) : Calls Tryd.prog 30 #[v, v'] w fun e w' => e = .returned (.bool true) ∧ ∃ n, w' = w.drewN n :=
 equalI_any v v' zs w (h.to hB (fun _ _ _ => rfl)) (h'.to hB (fun _ _ _ => rfl))
theorem ksame_yes (m : Mach) (vr vm vo ur um uo : Value) (w : World) (h1 : Ints w.heap.size w vr m.regs) (h2 : Ints w.heap.size w vm m.mem) (h3 : Ints w.heap.size w vo m.out) (k1 : Ints w.heap.size w ur m.regs) (k2 : Ints w.heap.size w um m.mem) (k3 : Ints w.heap.size w uo m.out) :
  Calls Tryd.prog 22 #[m.agg vr vm vo, m.agg ur um uo] w fun e w' => e = .returned (.bool true) ∧ Below w.heap.size w w' := by
 have H1 := Lib.hid h1
 have H2 := Lib.hid h2
 have H3 := Lib.hid h3
 have K1 := Lib.hid k1
 have K2 := Lib.hid k2
 have K3 := Lib.hid k3
 obtain ⟨a1, c1, rfl, _⟩ := id h1
 obtain ⟨a2, c2, rfl, _⟩ := id h2
 obtain ⟨a3, c3, rfl, _⟩ := id h3
 obtain ⟨d1, e1, rfl, _⟩ := id k1
 obtain ⟨d2, e2, rfl, _⟩ := id k2
 obtain ⟨d3, e3, rfl, _⟩ := id k3
 clear h1 h2 h3 k1 k2 k3
 unfold Mach.agg
 generalize m.regs = zr at *
 generalize m.mem = zm at *
 generalize m.out = zo at *
 generalize m.pc = q1 at *
 generalize m.back = q2 at *
 generalize m.ints = q3 at *
 generalize m.wait = q4 at *
 generalize m.table = q5 at *
 generalize m.count = q6 at *
 generalize m.fin = q7 at *
 generalize m.ready = q8 at *
 generalize m.want = q9 at *
 go_enter Tryd.func22, Tryd.ntmps22
 go_upto_region 1 with fail
 have HBA := Lib.hid (below_alloc2 w (.cells #[.slice a1 zr.length c1, .int .i64 q1, .int .i64 q2, .bool q3, .bool q4, .int .i64 q5, .int .i64 q6, .int .i64 q7, .slice a2 zm.length c2, .slice a3 zo.length c3, .int .i64 q8, .int .i64 q9] 29 (0, 0)) (.cells #[.slice d1 zr.length e1, .int .i64 q1, .int .i64 q2, .bool q3, .bool q4, .int .i64 q5, .int .i64 q6, .int .i64 q7, .slice d2 zm.length e2, .slice d3 zo.length e3, .int .i64 q8, .int .i64 q9] 29 (0, 0)))
 have HE : Hid (∀ (v v' : Value) (zs : List Int) (w1 : World), Below w.heap.size w w1 → Ints w.heap.size w v zs → Ints w.heap.size w v' zs → Calls Tryd.prog 30 #[v, v'] w1 fun e w' => e = .returned (.bool true) ∧ ∃ n, w' = w1.drewN n) := Lib.hid (fun v v' zs w1 hb i1 i2 => kequalB v v' zs w1 hb.size (i1.to (Nat.le_refl _) (same_below hb)) (i2.to (Nat.le_refl _) (same_below hb)))
 go_wp2_with fail
 refine (HE.out _ _ zr _ HBA.out H1.out K1.out).mono ?_
 rintro e w1 ⟨rfl, n1, rfl⟩
 have HB1 := Lib.hid (below_drewN HBA.out n1)
 go_wp2_with fail
 refine (HE.out _ _ zm _ ?_ H2.out K2.out).mono ?_
 · first | exact HB1.out | exact below_drewN HBA.out _
 rintro e w1 ⟨rfl, n2, rfl⟩
 have HB2 := Lib.hid (below_drewN HB1.out n2)
 go_wp2_with fail
 refine (HE.out _ _ zo _ ?_ H3.out K3.out).mono ?_
 · first | exact HB2.out | exact below_drewN HBA.out _
 rintro e w1 ⟨rfl, n3, rfl⟩
 have HB3 := Lib.hid (below_drewN HB2.out n3)
 go_wp2
 go_ret
 exact ⟨ret_bool (by simp), (by first | exact HB3.out | exact below_drewN HBA.out _)⟩
theorem runtells_any (w : World) (ht : Tab w) : Calls Tryd.prog 15 #[] w fun e w' => e = .returned (.bool true) ∧ Below w.heap.size w w' := by
 have HKR := Lib.hid (knone_any 1 w ht (by omega) (by omega))
 clear ht
 go_enter Tryd.func15, Tryd.ntmps15
 go_wp2_with fail
 refine HKR.out.mono ?_
 rintro e w1 ⟨img, is, vs, bs, ds, l, N, m, ai, ab, ar, am, ao, ci, cb, cr, cm, co, rfl, hk, hb1⟩
 go_upto_region 2 with fail
 have h5 := hk.rc.l5
 have h256 := hk.rc.mok.mem
 have HBA := Lib.hid (below_alloc2 w1 (.cells #[.slice ai img.length ci, .slice ab l.length cb, .int .i64 N] 27 (0, 0)) (.cells #[.slice ar m.regs.length cr, .int .i64 m.pc, .int .i64 m.back, .bool m.ints, .bool m.wait, .int .i64 m.table, .int .i64 m.count, .int .i64 m.fin, .slice am m.mem.length cm, .slice ao m.out.length co, .int .i64 m.ready, .int .i64 m.want] 29 (0, 0)))
 obtain ⟨w2, hw2⟩ : ∃ W, W = ((w1.alloc (.cells #[.slice ai img.length ci, .slice ab l.length cb, .int .i64 N] 27 (0, 0))).alloc (.cells #[.slice ar m.regs.length cr, .int .i64 m.pc, .int .i64 m.back, .bool m.ints, .bool m.wait, .int .i64 m.table, .int .i64 m.count, .int .i64 m.fin, .slice am m.mem.length cm, .slice ao m.out.length co, .int .i64 m.ready, .int .i64 m.want] 29 (0, 0))) := ⟨_, rfl⟩
 have HX1 := Lib.hid (show w2.heap[w1.heap.size]? = some (.cells #[.slice ai img.length ci, .slice ab l.length cb, .int .i64 N] 27 (0, 0)) from by rw [hw2]; exact (alloc_lt (by simp)).trans (alloc_at rfl))
 have HX2 := Lib.hid (show w2.heap[w1.heap.size + 1]? = some (.cells #[.slice ar m.regs.length cr, .int .i64 m.pc, .int .i64 m.back, .bool m.ints, .bool m.wait, .int .i64 m.table, .int .i64 m.count, .int .i64 m.fin, .slice am m.mem.length cm, .slice ao m.out.length co, .int .i64 m.ready, .int .i64 m.want] 29 (0, 0)) from by rw [hw2]; exact alloc_at (by simp))
 rw [← hw2] at HBA ⊢
 obtain ⟨gt, hgt⟩ : ∃ g, g = w1.heap.size := ⟨_, rfl⟩
 obtain ⟨gg, hgg⟩ : ∃ g, g = w1.heap.size + 1 := ⟨_, rfl⟩
 rw [← hgg] at HX2 ⊢
 rw [← hgt] at HX1 ⊢
 clear hw2 hgt hgg
 have HB2 := Lib.hid (hb1.trans (HBA.out.mono hb1.size))
 clear HBA hb1 hk HKR
 have t1 : w2.cell? ⟨gt, 1, none⟩ = some (.slice ab l.length cb) := cell_block HX1.out 1
 have g8 : w2.cell? ⟨gg, 8, none⟩ = some (.slice am m.mem.length cm) := cell_block HX2.out 8
 have lt2 : gt < w2.heap.size := (Array.getElem?_eq_some_iff.1 HX1.out).1
 have lg2 : gg < w2.heap.size := (Array.getElem?_eq_some_iff.1 HX2.out).1
 have hl : (0 : Int) < (l.length : Int) := by omega
 have hm : (0 : Int) < (m.mem.length : Int) := by omega
 go_wp2
 go_ret
 exact ⟨ret_bool (by simp), HB2.out⟩
end Go.Proofs.YtpdbcdfgonnnnaaDoor
