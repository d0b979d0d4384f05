/- The law hourglasskeep.RecordsReplay returns true at all raw things and every number, the table laid as the program's text lays it. No further condition. -/
import Derived.Test.YtilcnlmapifdgaaDoorRows
import Derived.Test.YtilcnlmapifdgaaDoorYMem
import Derived.Test.YtilcnlmapifdgaaDoorYFacts
import Derived.WalkKit
import Derived.ProofKit
import Derived.OpenShut
import Derived.ShutString
import Derived.ChangeOld
import Derived.Below
import Derived.Test.YtilcnlmapifdgaaDoorYKt
import Derived.Test.YtilcnlmapifdgaaDoorYCm
import Derived.Test.YtilcnlmapifdgaaDoorYEu
import Derived.Test.YtilcnlmapifdgaaDoorTie
import Derived.Test.YtilcnlmapifdgaaDoorCards
import Derived.SevenTiedAt
namespace Go.Proofs.YtilcnlmapifdgaaDoor.lRecordsReplay
open Go Go.RowKit Go.ChangeShapes Go.WideShapes Go.ChangeAt Go.Deep
open Go.ChangeMaps (open_string shut_string)
set_option linter.unusedVariables false
attribute [local go_sem ↓] Go.wp_at_zero Go.wp_at_succ

set_option maxHeartbeats 8000000 in
set_option maxRecDepth 100000 in
theorem walk (W : World) (ht : Tab W) (v1 : Value) (xs : List Rw) (h1 : RawsR W.heap.size W v1 xs) (v2 : Value) (ys : List Rw) (h2 : RawsR W.heap.size W v2 ys) (n : Int) (hn : I64 n) : Calls Tryd.prog 6 #[v1, v2, .int .i64 n] W fun e W' => e = .returned (.bool true) ∧ Below W.heap.size W W' := by
  have HT := Lib.hid ht
  have HKR := Lib.hid (krecorded_any v1 v2 xs ys n W ht h1 h2 hn)
  have HPA := Lib.hid (fun w => picked_any n 300 w hn.1 hn.2 (by omega) (by omega))
  obtain ⟨hp0, hp1⟩ := pick_rng n 300 (by omega)
  generalize pickZ n 300 = pn at *
  clear ht h1 h2 hn
  go_enter Tryd.func6, Tryd.ntmps6
  go_wp2_with fail
  refine HKR.out.mono ?_
  rintro e w1 ⟨img, is, vs, bs, ds, l, N, m, ai, ab, ar, am, ao, ci, cb, cr, cm, co, rfl, hk, hb1⟩
  go_upto_region 2 with fail
  have hN := hk.rc.tape.le
  have HNP : Hid ((N : Int) ≤ pn) := Lib.hid hk.rc.le
  have HBA := Lib.hid (below_alloc2 w1 (.cells #[.slice ai img.length ci, .slice ab l.length cb, .int .i64 N] 27 (0, 0)) (.cells #[.slice ar m.regs.length cr, .int .i64 m.pc, .int .i64 m.back, .bool m.ints, .bool m.wait, .int .i64 m.table, .int .i64 m.count, .int .i64 m.fin, .slice am m.mem.length cm, .slice ao m.out.length co, .int .i64 m.ready, .int .i64 m.want] 29 (0, 0)))
  obtain ⟨w2, hw2⟩ : ∃ W, W = ((w1.alloc (.cells #[.slice ai img.length ci, .slice ab l.length cb, .int .i64 N] 27 (0, 0))).alloc (.cells #[.slice ar m.regs.length cr, .int .i64 m.pc, .int .i64 m.back, .bool m.ints, .bool m.wait, .int .i64 m.table, .int .i64 m.count, .int .i64 m.fin, .slice am m.mem.length cm, .slice ao m.out.length co, .int .i64 m.ready, .int .i64 m.want] 29 (0, 0))) := ⟨_, rfl⟩
  have HX1 := Lib.hid (show w2.heap[w1.heap.size]? = some (.cells #[.slice ai img.length ci, .slice ab l.length cb, .int .i64 N] 27 (0, 0)) from by rw [hw2]; exact (alloc_lt (by simp)).trans (alloc_at rfl))
  have HX2 := Lib.hid (show w2.heap[w1.heap.size + 1]? = some (.cells #[.slice ar m.regs.length cr, .int .i64 m.pc, .int .i64 m.back, .bool m.ints, .bool m.wait, .int .i64 m.table, .int .i64 m.count, .int .i64 m.fin, .slice am m.mem.length cm, .slice ao m.out.length co, .int .i64 m.ready, .int .i64 m.want] 29 (0, 0)) from by rw [hw2]; exact alloc_at (by simp))
  rw [← hw2] at HBA ⊢
  obtain ⟨gt, hgt⟩ : ∃ g, g = w1.heap.size := ⟨_, rfl⟩
  obtain ⟨gg, hgg⟩ : ∃ g, g = w1.heap.size + 1 := ⟨_, rfl⟩
  rw [← hgg] at HX2 ⊢
  rw [← hgt] at HX1 ⊢
  clear hw2 hgt hgg
  have HB2 := Lib.hid (hb1.trans (HBA.out.mono hb1.size))
  have HK := Lib.hid (hk.to HBA.out)
  have HM : Hid (m = (recI is vs bs ds (recS0 img) N).m) := Lib.hid hk.rc.mach
  have HOK := Lib.hid hk.rc.mok
  clear HBA hb1 hk HKR
  have t0 : w2.cell? ⟨gt, 0, none⟩ = some (.slice ai img.length ci) := cell_block HX1.out 0
  have t1 : w2.cell? ⟨gt, 1, none⟩ = some (.slice ab l.length cb) := cell_block HX1.out 1
  have t2 : w2.cell? ⟨gt, 2, none⟩ = some (.int .i64 N) := cell_block HX1.out 2
  have lt2 : gt < w2.heap.size := (Array.getElem?_eq_some_iff.1 HX1.out).1
  have lg2 : gg < w2.heap.size := (Array.getElem?_eq_some_iff.1 HX2.out).1
  go_wp2_with fail
  refine (krep_any HK.out (HT.out.to HB2.out) rfl (Nat.le_refl _) HM.out).mono ?_
  rintro e w3 ⟨br, dr, bm, dm, bo, dq, rfl, hg3, hb3⟩
  go_upto_region 3 with fail
  have HBA := Lib.hid (below_alloc w3 (.cells #[.slice br m.regs.length dr, .int .i64 m.pc, .int .i64 m.back, .bool m.ints, .bool m.wait, .int .i64 m.table, .int .i64 m.count, .int .i64 m.fin, .slice bm m.mem.length dm, .slice bo m.out.length dq, .int .i64 m.ready, .int .i64 m.want] 29 (0, 0)))
  obtain ⟨w4, hw4⟩ : ∃ W, W = (w3.alloc (.cells #[.slice br m.regs.length dr, .int .i64 m.pc, .int .i64 m.back, .bool m.ints, .bool m.wait, .int .i64 m.table, .int .i64 m.count, .int .i64 m.fin, .slice bm m.mem.length dm, .slice bo m.out.length dq, .int .i64 m.ready, .int .i64 m.want] 29 (0, 0))) := ⟨_, rfl⟩
  have HX3 := Lib.hid (show w4.heap[w3.heap.size]? = some (.cells #[.slice br m.regs.length dr, .int .i64 m.pc, .int .i64 m.back, .bool m.ints, .bool m.wait, .int .i64 m.table, .int .i64 m.count, .int .i64 m.fin, .slice bm m.mem.length dm, .slice bo m.out.length dq, .int .i64 m.ready, .int .i64 m.want] 29 (0, 0)) from by rw [hw4]; exact alloc_at rfl)
  rw [← hw4] at HBA ⊢
  obtain ⟨gh, hgh⟩ : ∃ g, g = w3.heap.size := ⟨_, rfl⟩
  rw [← hgh] at HX3 ⊢
  clear hw4 hgh
  have hb4 := hb3.trans (HBA.out.mono hb3.size)
  have HB4 := Lib.hid (HB2.out.trans (hb4.mono HB2.out.size))
  have HK4 := Lib.hid (HK.out.to hb4)
  have HG4 := Lib.hid (hg3.to HBA.out.size (same_below HBA.out))
  have HX14 := Lib.hid (block_below hb4 HX1.out (Array.getElem?_eq_some_iff.1 HX1.out).1)
  have HX24 := Lib.hid (block_below hb4 HX2.out (Array.getElem?_eq_some_iff.1 HX2.out).1)
  clear t0 t1 t2 lt2 lg2 hb3 hg3 hb4 HBA HX1 HX2 HK
  have t0 : w4.cell? ⟨gt, 0, none⟩ = some (.slice ai img.length ci) := cell_block HX14.out 0
  have t1 : w4.cell? ⟨gt, 1, none⟩ = some (.slice ab l.length cb) := cell_block HX14.out 1
  have t2 : w4.cell? ⟨gt, 2, none⟩ = some (.int .i64 N) := cell_block HX14.out 2
  have lt4 : gt < w4.heap.size := (Array.getElem?_eq_some_iff.1 HX14.out).1
  have w1N : IntKind.i64.wrap ((N : Int) + 1) = (N : Int) + 1 := IntWalk.i64_in _ (by omega)
  go_wp2_with fail
  refine (krep_far HK4.out (HT.out.to HB4.out) (k := (N : Int) + 1) (by omega) (by unfold I64; omega)).mono ?_
  rintro e w5 ⟨er, fr, em, fm, eo, fo, rfl, hb5⟩
  go_upto_region 4 with fail
  have HBA := Lib.hid (below_alloc w5 (.cells #[.slice er zeroM.regs.length fr, .int .i64 zeroM.pc, .int .i64 zeroM.back, .bool zeroM.ints, .bool zeroM.wait, .int .i64 zeroM.table, .int .i64 zeroM.count, .int .i64 zeroM.fin, .slice em zeroM.mem.length fm, .slice eo zeroM.out.length fo, .int .i64 zeroM.ready, .int .i64 zeroM.want] 29 (0, 0)))
  obtain ⟨w6, hw6⟩ : ∃ W, W = (w5.alloc (.cells #[.slice er zeroM.regs.length fr, .int .i64 zeroM.pc, .int .i64 zeroM.back, .bool zeroM.ints, .bool zeroM.wait, .int .i64 zeroM.table, .int .i64 zeroM.count, .int .i64 zeroM.fin, .slice em zeroM.mem.length fm, .slice eo zeroM.out.length fo, .int .i64 zeroM.ready, .int .i64 zeroM.want] 29 (0, 0))) := ⟨_, rfl⟩
  have HX4 := Lib.hid (show w6.heap[w5.heap.size]? = some (.cells #[.slice er zeroM.regs.length fr, .int .i64 zeroM.pc, .int .i64 zeroM.back, .bool zeroM.ints, .bool zeroM.wait, .int .i64 zeroM.table, .int .i64 zeroM.count, .int .i64 zeroM.fin, .slice em zeroM.mem.length fm, .slice eo zeroM.out.length fo, .int .i64 zeroM.ready, .int .i64 zeroM.want] 29 (0, 0)) from by rw [hw6]; exact alloc_at rfl)
  rw [← hw6] at HBA ⊢
  obtain ⟨gz, hgz⟩ : ∃ g, g = w5.heap.size := ⟨_, rfl⟩
  rw [← hgz] at HX4 ⊢
  clear hw6 hgz
  have hb6 := hb5.trans (HBA.out.mono hb5.size)
  have HB6 := Lib.hid (HB4.out.trans (hb6.mono HB4.out.size))
  have HK6 := Lib.hid (HK4.out.to hb6)
  have HG6 := Lib.hid (HG4.out.to hb6.size (same_below hb6))
  have HX16 := Lib.hid (block_below hb6 HX14.out (Array.getElem?_eq_some_iff.1 HX14.out).1)
  have HX26 := Lib.hid (block_below hb6 HX24.out (Array.getElem?_eq_some_iff.1 HX24.out).1)
  have HX36 := Lib.hid (block_below hb6 HX3.out (Array.getElem?_eq_some_iff.1 HX3.out).1)
  clear t0 t1 t2 lt4 hb5 hb6 HBA HX14 HX24 HX3 HK4 HG4 HX4 w1N
  have t0 : w6.cell? ⟨gt, 0, none⟩ = some (.slice ai img.length ci) := cell_block HX16.out 0
  have t1 : w6.cell? ⟨gt, 1, none⟩ = some (.slice ab l.length cb) := cell_block HX16.out 1
  have t2 : w6.cell? ⟨gt, 2, none⟩ = some (.int .i64 N) := cell_block HX16.out 2
  have lt6 : gt < w6.heap.size := (Array.getElem?_eq_some_iff.1 HX16.out).1
  go_wp2_with fail
  refine (kchk_any HK6.out (HT.out.to HB6.out)).mono ?_
  rintro e w7 ⟨vo, rfl, hev, hb7⟩
  have HB7 := Lib.hid (HB6.out.trans (hb7.mono HB6.out.size))
  have HK7 := Lib.hid (HK6.out.to hb7)
  have HG7 := Lib.hid (HG6.out.to hb7.size (same_below hb7))
  have HX17 := Lib.hid (block_below hb7 HX16.out (Array.getElem?_eq_some_iff.1 HX16.out).1)
  have HX27 := Lib.hid (block_below hb7 HX26.out (Array.getElem?_eq_some_iff.1 HX26.out).1)
  have HX37 := Lib.hid (block_below hb7 HX36.out (Array.getElem?_eq_some_iff.1 HX36.out).1)
  clear t0 t1 t2 lt6 hb7 HX16 HX26 HX36 HK6 HG6 hev
  have t2 : w7.cell? ⟨gt, 2, none⟩ = some (.int .i64 N) := cell_block HX17.out 2
  have g0 : w7.cell? ⟨gg, 0, none⟩ = some (.slice ar m.regs.length cr) := cell_block HX27.out 0
  have g1 : w7.cell? ⟨gg, 1, none⟩ = some (.int .i64 m.pc) := cell_block HX27.out 1
  have g2 : w7.cell? ⟨gg, 2, none⟩ = some (.int .i64 m.back) := cell_block HX27.out 2
  have g3 : w7.cell? ⟨gg, 3, none⟩ = some (.bool m.ints) := cell_block HX27.out 3
  have g4 : w7.cell? ⟨gg, 4, none⟩ = some (.bool m.wait) := cell_block HX27.out 4
  have g5 : w7.cell? ⟨gg, 5, none⟩ = some (.int .i64 m.table) := cell_block HX27.out 5
  have g6 : w7.cell? ⟨gg, 6, none⟩ = some (.int .i64 m.count) := cell_block HX27.out 6
  have g7 : w7.cell? ⟨gg, 7, none⟩ = some (.int .i64 m.fin) := cell_block HX27.out 7
  have g8 : w7.cell? ⟨gg, 8, none⟩ = some (.slice am m.mem.length cm) := cell_block HX27.out 8
  have g9 : w7.cell? ⟨gg, 9, none⟩ = some (.slice ao m.out.length co) := cell_block HX27.out 9
  have g10 : w7.cell? ⟨gg, 10, none⟩ = some (.int .i64 m.ready) := cell_block HX27.out 10
  have g11 : w7.cell? ⟨gg, 11, none⟩ = some (.int .i64 m.want) := cell_block HX27.out 11
  have h0 : w7.cell? ⟨gh, 0, none⟩ = some (.slice br m.regs.length dr) := cell_block HX37.out 0
  have h1 : w7.cell? ⟨gh, 1, none⟩ = some (.int .i64 m.pc) := cell_block HX37.out 1
  have h2 : w7.cell? ⟨gh, 2, none⟩ = some (.int .i64 m.back) := cell_block HX37.out 2
  have h3 : w7.cell? ⟨gh, 3, none⟩ = some (.bool m.ints) := cell_block HX37.out 3
  have h4 : w7.cell? ⟨gh, 4, none⟩ = some (.bool m.wait) := cell_block HX37.out 4
  have h5 : w7.cell? ⟨gh, 5, none⟩ = some (.int .i64 m.table) := cell_block HX37.out 5
  have h6 : w7.cell? ⟨gh, 6, none⟩ = some (.int .i64 m.count) := cell_block HX37.out 6
  have h7 : w7.cell? ⟨gh, 7, none⟩ = some (.int .i64 m.fin) := cell_block HX37.out 7
  have h8 : w7.cell? ⟨gh, 8, none⟩ = some (.slice bm m.mem.length dm) := cell_block HX37.out 8
  have h9 : w7.cell? ⟨gh, 9, none⟩ = some (.slice bo m.out.length dq) := cell_block HX37.out 9
  have h10 : w7.cell? ⟨gh, 10, none⟩ = some (.int .i64 m.ready) := cell_block HX37.out 10
  have h11 : w7.cell? ⟨gh, 11, none⟩ = some (.int .i64 m.want) := cell_block HX37.out 11
  have lt7 : gt < w7.heap.size := (Array.getElem?_eq_some_iff.1 HX17.out).1
  have lg7 : gg < w7.heap.size := (Array.getElem?_eq_some_iff.1 HX27.out).1
  have lh7 : gh < w7.heap.size := (Array.getElem?_eq_some_iff.1 HX37.out).1
  have HSM := Lib.hid (fun (W : World) (hb : Below w7.heap.size w7 W) => (show Calls Tryd.prog 24 #[.agg #[.slice ar m.regs.length cr, .int .i64 m.pc, .int .i64 m.back, .bool m.ints, .bool m.wait, .int .i64 m.table, .int .i64 m.count, .int .i64 m.fin, .slice am m.mem.length cm, .slice ao m.out.length co, .int .i64 m.ready, .int .i64 m.want], .agg #[.slice br m.regs.length dr, .int .i64 m.pc, .int .i64 m.back, .bool m.ints, .bool m.wait, .int .i64 m.table, .int .i64 m.count, .int .i64 m.fin, .slice bm m.mem.length dm, .slice bo m.out.length dq, .int .i64 m.ready, .int .i64 m.want]] W (fun e w' => e = .returned (.bool true) ∧ Below W.heap.size W w') from
    ksame_yes m _ _ _ _ _ _ W ((machr_ints HK7.out.g).1.to hb.size (same_below hb)) ((machr_ints HK7.out.g).2.1.to hb.size (same_below hb)) ((machr_ints HK7.out.g).2.2.to hb.size (same_below hb)) ((machr_ints HG7.out).1.to hb.size (same_below hb)) ((machr_ints HG7.out).2.1.to hb.size (same_below hb)) ((machr_ints HG7.out).2.2.to hb.size (same_below hb))))
  have HCM := Lib.hid (fun (W : World) (hb : Below w7.heap.size w7 W) => (show Calls Tryd.prog 26 #[.agg #[.slice ar m.regs.length cr, .int .i64 m.pc, .int .i64 m.back, .bool m.ints, .bool m.wait, .int .i64 m.table, .int .i64 m.count, .int .i64 m.fin, .slice am m.mem.length cm, .slice ao m.out.length co, .int .i64 m.ready, .int .i64 m.want]] W (fun e w' => e = .returned (.int .i64 0) ∧ Below W.heap.size W w') from
    (mcheck_any m ar am ao cr cm co W ((machr_ints HK7.out.g).1.to hb.size (same_below hb)) ((machr_ints HK7.out.g).2.1.to hb.size (same_below hb)) ((machr_ints HK7.out.g).2.2.to hb.size (same_below hb))).mono (fun e w' h => ⟨by rcases h.1 with h | h; exact h.2; exact absurd HOK.out h.1, h.2⟩)))
  have hle : decide ((N : Int) ≤ pn) = true := decide_eq_true HNP.out
  have HBR := Lib.hid (Below.refl w7.heap.size w7)
  clear HK7 HG7 HNP HM
  generalize hm1 : m.regs.length = lr at *
  generalize hm2 : m.mem.length = lm at *
  generalize hm3 : m.out.length = lo at *
  go_upto_region 5 with fail
  go_region_held3 (fun w' => w'.cell? ⟨gt, 2, none⟩ = some (.int .i64 N) ∧ w'.cell? ⟨gg, 0, none⟩ = some (.slice ar lr cr) ∧ w'.cell? ⟨gg, 1, none⟩ = some (.int .i64 m.pc) ∧ w'.cell? ⟨gg, 2, none⟩ = some (.int .i64 m.back) ∧ w'.cell? ⟨gg, 3, none⟩ = some (.bool m.ints) ∧ w'.cell? ⟨gg, 4, none⟩ = some (.bool m.wait) ∧ w'.cell? ⟨gg, 5, none⟩ = some (.int .i64 m.table) ∧ w'.cell? ⟨gg, 6, none⟩ = some (.int .i64 m.count) ∧ w'.cell? ⟨gg, 7, none⟩ = some (.int .i64 m.fin) ∧ w'.cell? ⟨gg, 8, none⟩ = some (.slice am lm cm) ∧ w'.cell? ⟨gg, 9, none⟩ = some (.slice ao lo co) ∧ w'.cell? ⟨gg, 10, none⟩ = some (.int .i64 m.ready) ∧ w'.cell? ⟨gg, 11, none⟩ = some (.int .i64 m.want) ∧ w'.cell? ⟨gh, 0, none⟩ = some (.slice br lr dr) ∧ w'.cell? ⟨gh, 1, none⟩ = some (.int .i64 m.pc) ∧ w'.cell? ⟨gh, 2, none⟩ = some (.int .i64 m.back) ∧ w'.cell? ⟨gh, 3, none⟩ = some (.bool m.ints) ∧ w'.cell? ⟨gh, 4, none⟩ = some (.bool m.wait) ∧ w'.cell? ⟨gh, 5, none⟩ = some (.int .i64 m.table) ∧ w'.cell? ⟨gh, 6, none⟩ = some (.int .i64 m.count) ∧ w'.cell? ⟨gh, 7, none⟩ = some (.int .i64 m.fin) ∧ w'.cell? ⟨gh, 8, none⟩ = some (.slice bm lm dm) ∧ w'.cell? ⟨gh, 9, none⟩ = some (.slice bo lo dq) ∧ w'.cell? ⟨gh, 10, none⟩ = some (.int .i64 m.ready) ∧ w'.cell? ⟨gh, 11, none⟩ = some (.int .i64 m.want)) (first | ((try dsimp only); (repeat' apply And.intro) <;> (first | assumption | go_keep))) (first
    | (go_at_call 24; (with_reducible refine (HSM.out _ ?_).mono ?_); (first | exact HBR.out | exact below_drewN HBR.out _); rintro e w8 ⟨rfl, hb8⟩; have HB8 := Lib.hid hb8; have HX18 := Lib.hid (block_below hb8 HX17.out (by simp; omega)); have HX28 := Lib.hid (block_below hb8 HX27.out (by simp; omega)); have HX38 := Lib.hid (block_below hb8 HX37.out (by simp; omega)); have ut2 : w8.cell? ⟨gt, 2, none⟩ = some (.int .i64 N) := cell_block HX18.out 2; have ug0 : w8.cell? ⟨gg, 0, none⟩ = some (.slice ar lr cr) := cell_block HX28.out 0; have ug1 : w8.cell? ⟨gg, 1, none⟩ = some (.int .i64 m.pc) := cell_block HX28.out 1; have ug2 : w8.cell? ⟨gg, 2, none⟩ = some (.int .i64 m.back) := cell_block HX28.out 2; have ug3 : w8.cell? ⟨gg, 3, none⟩ = some (.bool m.ints) := cell_block HX28.out 3; have ug4 : w8.cell? ⟨gg, 4, none⟩ = some (.bool m.wait) := cell_block HX28.out 4; have ug5 : w8.cell? ⟨gg, 5, none⟩ = some (.int .i64 m.table) := cell_block HX28.out 5; have ug6 : w8.cell? ⟨gg, 6, none⟩ = some (.int .i64 m.count) := cell_block HX28.out 6; have ug7 : w8.cell? ⟨gg, 7, none⟩ = some (.int .i64 m.fin) := cell_block HX28.out 7; have ug8 : w8.cell? ⟨gg, 8, none⟩ = some (.slice am lm cm) := cell_block HX28.out 8; have ug9 : w8.cell? ⟨gg, 9, none⟩ = some (.slice ao lo co) := cell_block HX28.out 9; have ug10 : w8.cell? ⟨gg, 10, none⟩ = some (.int .i64 m.ready) := cell_block HX28.out 10; have ug11 : w8.cell? ⟨gg, 11, none⟩ = some (.int .i64 m.want) := cell_block HX28.out 11; have uh0 : w8.cell? ⟨gh, 0, none⟩ = some (.slice br lr dr) := cell_block HX38.out 0; have uh1 : w8.cell? ⟨gh, 1, none⟩ = some (.int .i64 m.pc) := cell_block HX38.out 1; have uh2 : w8.cell? ⟨gh, 2, none⟩ = some (.int .i64 m.back) := cell_block HX38.out 2; have uh3 : w8.cell? ⟨gh, 3, none⟩ = some (.bool m.ints) := cell_block HX38.out 3; have uh4 : w8.cell? ⟨gh, 4, none⟩ = some (.bool m.wait) := cell_block HX38.out 4; have uh5 : w8.cell? ⟨gh, 5, none⟩ = some (.int .i64 m.table) := cell_block HX38.out 5; have uh6 : w8.cell? ⟨gh, 6, none⟩ = some (.int .i64 m.count) := cell_block HX38.out 6; have uh7 : w8.cell? ⟨gh, 7, none⟩ = some (.int .i64 m.fin) := cell_block HX38.out 7; have uh8 : w8.cell? ⟨gh, 8, none⟩ = some (.slice bm lm dm) := cell_block HX38.out 8; have uh9 : w8.cell? ⟨gh, 9, none⟩ = some (.slice bo lo dq) := cell_block HX38.out 9; have uh10 : w8.cell? ⟨gh, 10, none⟩ = some (.int .i64 m.ready) := cell_block HX38.out 10; have uh11 : w8.cell? ⟨gh, 11, none⟩ = some (.int .i64 m.want) := cell_block HX38.out 11; have lt8 : gt < w8.heap.size := (Array.getElem?_eq_some_iff.1 HX18.out).1; have lg8 : gg < w8.heap.size := (Array.getElem?_eq_some_iff.1 HX28.out).1; have lh8 : gh < w8.heap.size := (Array.getElem?_eq_some_iff.1 HX38.out).1)
    | (go_at_call 22; (with_reducible refine (HPA.out _).mono ?_); rintro e w' ⟨rfl, rfl⟩)
    | (go_at_call 26; (with_reducible refine (HCM.out _ ?_).mono ?_); exact (below_drewN HBR.out _).trans (HB8.out.mono (by simp)); rintro e w9 ⟨rfl, hb9⟩; have HB9 := Lib.hid hb9; have HX19 := Lib.hid (block_below hb9 HX18.out lt8); have HX29 := Lib.hid (block_below hb9 HX28.out lg8); have HX39 := Lib.hid (block_below hb9 HX38.out lh8); have vt2 : w9.cell? ⟨gt, 2, none⟩ = some (.int .i64 N) := cell_block HX19.out 2; have vg0 : w9.cell? ⟨gg, 0, none⟩ = some (.slice ar lr cr) := cell_block HX29.out 0; have vg1 : w9.cell? ⟨gg, 1, none⟩ = some (.int .i64 m.pc) := cell_block HX29.out 1; have vg2 : w9.cell? ⟨gg, 2, none⟩ = some (.int .i64 m.back) := cell_block HX29.out 2; have vg3 : w9.cell? ⟨gg, 3, none⟩ = some (.bool m.ints) := cell_block HX29.out 3; have vg4 : w9.cell? ⟨gg, 4, none⟩ = some (.bool m.wait) := cell_block HX29.out 4; have vg5 : w9.cell? ⟨gg, 5, none⟩ = some (.int .i64 m.table) := cell_block HX29.out 5; have vg6 : w9.cell? ⟨gg, 6, none⟩ = some (.int .i64 m.count) := cell_block HX29.out 6; have vg7 : w9.cell? ⟨gg, 7, none⟩ = some (.int .i64 m.fin) := cell_block HX29.out 7; have vg8 : w9.cell? ⟨gg, 8, none⟩ = some (.slice am lm cm) := cell_block HX29.out 8; have vg9 : w9.cell? ⟨gg, 9, none⟩ = some (.slice ao lo co) := cell_block HX29.out 9; have vg10 : w9.cell? ⟨gg, 10, none⟩ = some (.int .i64 m.ready) := cell_block HX29.out 10; have vg11 : w9.cell? ⟨gg, 11, none⟩ = some (.int .i64 m.want) := cell_block HX29.out 11; have vh0 : w9.cell? ⟨gh, 0, none⟩ = some (.slice br lr dr) := cell_block HX39.out 0; have vh1 : w9.cell? ⟨gh, 1, none⟩ = some (.int .i64 m.pc) := cell_block HX39.out 1; have vh2 : w9.cell? ⟨gh, 2, none⟩ = some (.int .i64 m.back) := cell_block HX39.out 2; have vh3 : w9.cell? ⟨gh, 3, none⟩ = some (.bool m.ints) := cell_block HX39.out 3; have vh4 : w9.cell? ⟨gh, 4, none⟩ = some (.bool m.wait) := cell_block HX39.out 4; have vh5 : w9.cell? ⟨gh, 5, none⟩ = some (.int .i64 m.table) := cell_block HX39.out 5; have vh6 : w9.cell? ⟨gh, 6, none⟩ = some (.int .i64 m.count) := cell_block HX39.out 6; have vh7 : w9.cell? ⟨gh, 7, none⟩ = some (.int .i64 m.fin) := cell_block HX39.out 7; have vh8 : w9.cell? ⟨gh, 8, none⟩ = some (.slice bm lm dm) := cell_block HX39.out 8; have vh9 : w9.cell? ⟨gh, 9, none⟩ = some (.slice bo lo dq) := cell_block HX39.out 9; have vh10 : w9.cell? ⟨gh, 10, none⟩ = some (.int .i64 m.ready) := cell_block HX39.out 10; have vh11 : w9.cell? ⟨gh, 11, none⟩ = some (.int .i64 m.want) := cell_block HX39.out 11))
  all_goals go_wp2
  all_goals go_ret
  all_goals exact ⟨ret_bool (by simp), HB7.out.trans (((below_drewN HBR.out 1).trans ((HB8.out.mono (by simp)).trans (HB9.out.mono (by have := HB8.out.size; simp at this; omega)))).mono HB7.out.size)⟩

set_option maxRecDepth 100000 in
theorem lifted (os : Os) (started : os.Started) (H : Type) (enc : TypeId × Value → H) :
    ReturnsInHanded {} Tryd.checked os 6 .any (fun w args => (Rows.recordsReplaySpec.pre enc Tryd.prog Tryd.f6 [] false w args ∧ laidMetH Tryd.prog laidW w) ∧ sizedMet enc Tryd.prog Tryd.f6 (OpenSpec.ofChange Rows.recordsReplaySpec) false w args) (Rows.recordsReplaySpec.post enc Tryd.prog Tryd.f6 false true false false) := by
  refine returnsInHanded_of_change_and (C := Tryd.checked) (X := fun w _ => laidMetH Tryd.prog laidW w) (fun _ _ _ hh h => h.of_heap hh) Facts.own started (by kernel_rfl) Tryd.func6
    (ChangeSpec.witness_shaped (enc := enc) (C := Tryd.checked) (os := os) (X := fun w _ => laidMetH Tryd.prog laidW w) false (World.doorLaid Tryd.prog 400 os) #[.slice none 0 0, .slice none 0 0, .int .i64 0] 8 rfl (World.shaped_of_RefB (by kernel_rfl) (by kernel_rfl)) (by kernel_rfl) (by kernel_rfl) (by kernel_rfl) (door_met os _)) ?_
  intro W base args ds gs before hval0 hW hcnd hsz0 hL _
  have hsz : (DataW.weightsEach Tryd.prog (Tryd.f6.params.toList ++ Rows.recordsReplaySpec.plain.varTypes Tryd.prog) (ds ++ gs)).all (· ≤ reachBytes) = true := hsz0
  have hval : ∀ (j : Nat) t v, Tryd.f6.params[j]? = some t → args[j]? = some v → Value.okWide Tryd.prog W .any base t v := hval0
  have hW' := hW
  obtain ⟨p, q, hA0, hV, rfl, hfz, hnd⟩ := hW
  have hA : DataW.TrodAll enc Tryd.prog W 0 (fun _ => true) true Tryd.f6.params.toList args.toList ds p := hA0
  rw [Tryd.params6] at hA hval hsz
  obtain ⟨v0, vs0, d0, ds0, p0, q0, hargs, rfl, rfl, h0, r0⟩ := trodAll_cons hA
  obtain ⟨v1, vs1, d1, ds1, p1, q1, rfl, rfl, rfl, h1, r1⟩ := trodAll_cons r0
  obtain ⟨v2, vs2, d2, ds2, p2, q2, rfl, rfl, rfl, h2, r2⟩ := trodAll_cons r1
  obtain ⟨rfl, rfl, rfl⟩ := trodAll_nil r2
  obtain rfl : args = #[v0, v1, v2] := by cases args; simp_all
  obtain ⟨rfl, rfl⟩ := trodVars_none hV
  have k0 := h0
  have lt0 : ∀ x ∈ p0, x.block < W.heap.size := by obtain ⟨m, hm⟩ := k0; exact DataW.trod_lt m _ _ _ hm
  obtain ⟨x0_0, w0⟩ := open_rawsR (hval 0 22 v0 rfl rfl) h0 (fits_at hsz (j := 0) rfl rfl)
  have k1 := h1
  have lt1 : ∀ x ∈ p1, x.block < W.heap.size := by obtain ⟨m, hm⟩ := k1; exact DataW.trod_lt m _ _ _ hm
  obtain ⟨x1_0, w1⟩ := open_rawsR (hval 1 22 v1 rfl rfl) h1 (fits_at hsz (j := 1) rfl rfl)
  have k2 := h2
  have lt2 : ∀ x ∈ p2, x.block < W.heap.size := by obtain ⟨m, hm⟩ := k2; exact DataW.trod_lt m _ _ _ hm
  obtain ⟨a2, rfl, rfl, rfl, w2⟩ := open_int Tryd.underlying3 (hval 2 3 v2 rfl rfl) h2
  clear hA0 hval0
  refine (walk W (tab_of_laid hL) v0 x0_0 w0 v1 x1_0 w1 a2 (Go.bounds_i64 w2)).mono fun e W' ⟨he, bel⟩ => ?_
  subst he
  exact ⟨_, rfl, _, _, _, [], _, [], hW', trodAll_mk1 (shut_bool Tryd.underlying4 _), (trodAll_cons_mk (Below.trod Facts.laidOut (by kernel_rfl) (of_decide_eq_true (by kernel_rfl)) k0 bel lt0) (trodAll_cons_mk (Below.trod Facts.laidOut (by kernel_rfl) (of_decide_eq_true (by kernel_rfl)) k1 bel lt1) (trodAll_cons_mk (Below.trod Facts.laidOut (by kernel_rfl) (of_decide_eq_true (by kernel_rfl)) k2 bel lt2) trodAll_mk0))), rfl, bel.frame _, fun h => by cases h⟩

theorem closed : joinedFacts Tryd.prog 6 Tryd.f6 Rows.recordsReplaySpec Rows.recordsReplayRow = true := by
  unfold joinedFacts
  rw [Facts.enters, Facts.lifts, Facts.made]
  kernel_rfl

theorem over : Rows.recordsReplayRow.holds Tryd.pinned (OpenSpec.ofChange Rows.recordsReplaySpec) :=
  OpenClaim.holds_of_wide 6 Tryd.f6 rfl rfl rfl rfl rfl rfl rfl ⟨rfl, rfl, rfl, rfl, rfl⟩ rfl rfl rfl rfl rfl (by kernel_rfl) Tryd.func6 closed
    (of_decide_eq_true (by kernel_rfl)) (by unfold Func.isWrapper; first | (rw [if_pos (by decide +kernel)]; kernel_rfl) | (rw [if_neg (by decide +kernel)]; exact ⟨rfl, rfl⟩))
    (fun os started H enc _ => lifted os started H enc)

theorem proved : Rows.RecordsReplayCardSaid :=
  Claim7.holds_tied_plain_at .later [] [.data] true (true, "6d5b78e78c95c40ea946ebdd402936f35e25dfe14a1593a4fc0ed35c5b3a85a9") false over (fun _ h => by cases h) (by kernel_rfl) (fun _ h => by cases h) recordsReplay_row_tie rfl ⟨rfl, rfl⟩ (by kernel_rfl) rfl
    (fun f fn hf hfn => by
      obtain rfl : f = 6 := Option.some.inj ((show Tryd.prog.funcNamed "hourglass/hourglasskeep.RecordsReplay" = some 6 by kernel_rfl).symm.trans hf) |>.symm
      obtain rfl : fn = Tryd.f6 := (Option.some.inj (Tryd.func6.symm.trans hfn)).symm
      exact ⟨by kernel_rfl, fun j t ht => by
        rw [Tryd.params6] at ht
        have hm : t ∈ [22, 22, 3] := by simpa using Array.mem_of_getElem? ht
        have hall : ([22, 22, 3].all fun u => !Tryd.prog.wantsStandIn u) = true := by kernel_rfl
        exact (show Tryd.prog.wantsStandIn t = false by simpa using List.all_eq_true.1 hall t hm)⟩)
    (by kernel_rfl)
#print axioms proved
end Go.Proofs.YtilcnlmapifdgaaDoor.lRecordsReplay
