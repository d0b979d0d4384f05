/- The law hourglasslaw.RunReplays returns true at every tape and number, the table laid as the program's text lays it. No further condition. -/
import Derived.Test.YtiekilpddmdhnaaDoorRows
import Derived.Test.YtiekilpddmdhnaaDoorYMem
import Derived.Test.YtiekilpddmdhnaaDoorYFacts
import Derived.WalkKit
import Derived.ProofKit
import Derived.OpenShut
import Derived.ShutString
import Derived.ChangeOld
import Derived.Below
import Derived.Test.YtiekilpddmdhnaaDoorYRr
import Derived.Test.YtiekilpddmdhnaaDoorYCm
import Derived.Test.YtiekilpddmdhnaaDoorYDl
import Derived.Test.YtiekilpddmdhnaaDoorTie
import Derived.Test.YtiekilpddmdhnaaDoorCards
import Derived.SevenTiedAt
namespace Go.Proofs.YtiekilpddmdhnaaDoor.lRunReplays
open Go Go.RowKit Go.ChangeShapes Go.WideShapes Go.ChangeAt
open Go.ChangeMaps (open_string shut_string)
set_option linter.unusedVariables false

theorem ok_i64 {m : Mach} (h : MOk m) : MI64 m := ⟨fun z hz => (words_of h.wr z hz).i64, fun z hz => (words_of h.wm z hz).i64, fun z hz => (words_of h.wo z hz).i64, by rw [h.regs]; omega, by rw [h.mem]; omega, by have := h.out; omega⟩
theorem rep_i64 {img : List Int} {b : List UInt8} {cnt n c : Int} {m : Mach} (h : RepR img b cnt n m c) : MI64 m := by
  obtain ⟨d, l, hk, h⟩ := h
  rcases h with ⟨_, _, rfl⟩ | ⟨_, _, _, rfl⟩ | ⟨rfl, h1, h2, _, rfl⟩
  · exact zeroM_i64
  · exact zeroM_i64
  · have g := chk_good hk
    exact ok_i64 (runM_ok g.2.2.2.1 (imgM_ok g.1).1 rfl n.toNat (by have := g.2.2.1; omega)).1

set_option maxHeartbeats 4000000 in
set_option maxRecDepth 100000 in
theorem walk (W : World) (ht : Tab W) (v : Value) (img : List Int) (b : List UInt8) (cnt : Int) (hv : TapeR W.heap.size W v img b cnt) (n : Int) (hn : I64 n) : Calls Tryd.prog 6 #[v, .int .i64 n] W fun e W' => e = .returned (.bool true) ∧ Below W.heap.size W W' := by
  obtain ⟨vi, ve, rfl, hi, hb, hc⟩ := hv
  have HI := Lib.hid hi
  have HBB := Lib.hid hb
  have HC := Lib.hid hc
  have HN := Lib.hid hn
  have HT := Lib.hid ht
  obtain ⟨ai, ci, rfl, _⟩ := id hi
  obtain ⟨ae, ce, rfl, _⟩ := id hb
  clear hi hb hc ht hn
  go_enter Tryd.func6, Tryd.ntmps6
  go_wp2_with fail
  refine (replay_any _ _ img b cnt n _ (HT.out.to (below_alloc _ _)) (HI.out.to (by simp) (same_alloc _ _)) (HBB.out.to (by simp) (same_alloc _ _)) HC.out HN.out).mono ?_
  rintro e w1 ⟨m, c, hrep, ar, cr, am, cm, ao, co, he, hown, hb1⟩
  have hi6 := rep_i64 hrep
  have HI3 := Lib.hid hi6
  have hrd := hown.reads hi6.1 hi6.2.1 hi6.2.2.1 (by have := hi6.2.2.2.1; omega) (by have := hi6.2.2.2.2.1; omega) (by have := hi6.2.2.2.2.2; omega)
  have HM := Lib.hid hrd
  have HREP := Lib.hid hrep
  rw [Mach.agg] at he
  subst he
  have HB1 := Lib.hid ((below_alloc W (.cells #[.slice ai img.length ci, .slice ae b.length ce, .int .i64 cnt] 31 (0, 0))).trans (hb1.mono (by simp)))
  have hx := block_below hb1 (g := W.heap.size) (alloc_at rfl) (by simp)
  have lt1 : W.heap.size < w1.heap.size := (Array.getElem?_eq_some_iff.1 hx).1
  have HX := Lib.hid hx
  have q0 : w1.cell? ⟨W.heap.size, 0, none⟩ = some (.slice ai img.length ci) := cell_block hx 0
  have q1 : w1.cell? ⟨W.heap.size, 1, none⟩ = some (.slice ae b.length ce) := cell_block hx 1
  have q2 : w1.cell? ⟨W.heap.size, 2, none⟩ = some (.int .i64 cnt) := cell_block hx 2
  clear hrep hi6 hrd hown hx hb1
  have HBA := Lib.hid (HB1.out.trans ((below_alloc w1 (.cells #[.slice ar m.regs.length cr, .int .i64 m.pc, .int .i64 m.back, .bool m.ints, .bool m.wait, .int .i64 m.table, .int .i64 m.count, .int .i64 m.fin, .slice am m.mem.length cm, .slice ao m.out.length co, .int .i64 m.ready, .int .i64 m.want] 38 (0, 0))).mono HB1.out.size))
  have hbox := alloc_at (w := w1) (o := (.cells #[.slice ar m.regs.length cr, .int .i64 m.pc, .int .i64 m.back, .bool m.ints, .bool m.wait, .int .i64 m.table, .int .i64 m.count, .int .i64 m.fin, .slice am m.mem.length cm, .slice ao m.out.length co, .int .i64 m.ready, .int .i64 m.want] 38 (0, 0))) rfl
  have HBX := Lib.hid hbox
  go_wp2_with fail
  refine (replayed_any _ _ img b cnt n _ (HI.out.to HBA.out.size (same_below HBA.out)) (HBB.out.to HBA.out.size (same_below HBA.out)) HC.out HN.out).mono ?_
  rintro e w2 ⟨m2, c2, hrep2, br, dr, bm, dm, bo, dq, he, hown, hb2⟩
  obtain ⟨rfl, rfl⟩ := HREP.out.det hrep2
  have hrd := hown.reads HI3.out.1 HI3.out.2.1 HI3.out.2.2.1 (by have := HI3.out.2.2.2.1; omega) (by have := HI3.out.2.2.2.2.1; omega) (by have := HI3.out.2.2.2.2.2; omega)
  have HM2 := Lib.hid hrd
  rw [Mach.agg] at he
  subst he
  have HB2 := Lib.hid hb2
  have hx := block_below hb2 HBX.out (by simp)
  have lt2 : w1.heap.size < w2.heap.size := (Array.getElem?_eq_some_iff.1 hx).1
  have p0 : w2.cell? ⟨w1.heap.size, 0, none⟩ = some (.slice ar m.regs.length cr) := cell_block hx 0
  have p1 : w2.cell? ⟨w1.heap.size, 1, none⟩ = some (.int .i64 m.pc) := cell_block hx 1
  have p2 : w2.cell? ⟨w1.heap.size, 2, none⟩ = some (.int .i64 m.back) := cell_block hx 2
  have p3 : w2.cell? ⟨w1.heap.size, 3, none⟩ = some (.bool m.ints) := cell_block hx 3
  have p4 : w2.cell? ⟨w1.heap.size, 4, none⟩ = some (.bool m.wait) := cell_block hx 4
  have p5 : w2.cell? ⟨w1.heap.size, 5, none⟩ = some (.int .i64 m.table) := cell_block hx 5
  have p6 : w2.cell? ⟨w1.heap.size, 6, none⟩ = some (.int .i64 m.count) := cell_block hx 6
  have p7 : w2.cell? ⟨w1.heap.size, 7, none⟩ = some (.int .i64 m.fin) := cell_block hx 7
  have p8 : w2.cell? ⟨w1.heap.size, 8, none⟩ = some (.slice am m.mem.length cm) := cell_block hx 8
  have p9 : w2.cell? ⟨w1.heap.size, 9, none⟩ = some (.slice ao m.out.length co) := cell_block hx 9
  have p10 : w2.cell? ⟨w1.heap.size, 10, none⟩ = some (.int .i64 m.ready) := cell_block hx 10
  have p11 : w2.cell? ⟨w1.heap.size, 11, none⟩ = some (.int .i64 m.want) := cell_block hx 11
  clear hrep2 hown hrd hb2 hx hbox q0 q1 q2
  go_wp2_with fail
  refine (sameMachine_yes _ _ m _ ?_ ?_).mono ?_
  · have h := HM.out
    rw [Mach.agg] at h
    exact h.to (by simp; omega) ((same_alloc w1 (.cells #[.slice ar m.regs.length cr, .int .i64 m.pc, .int .i64 m.back, .bool m.ints, .bool m.wait, .int .i64 m.table, .int .i64 m.count, .int .i64 m.fin, .slice am m.mem.length cm, .slice ao m.out.length co, .int .i64 m.ready, .int .i64 m.want] 38 (0, 0))).trans (((same_below HB2.out).mono (by simp)).trans ((same_alloc _ _).mono (by omega))))
  · have h := HM2.out
    rw [Mach.agg] at h
    exact h.to (by simp) (same_alloc _ _)
  rintro e w3 ⟨rfl, hb3⟩
  have hB := HBA.out.trans ((HB2.out.mono HBA.out.size).trans (((below_alloc w2 _).mono (by have := HBA.out.size; have := HB2.out.size; omega)).trans (hb3.mono (by have := HBA.out.size; have := HB2.out.size; simp; omega))))
  go_wp2
  go_ret
  exact ⟨ret_bool (by simp), hB⟩

set_option maxRecDepth 100000 in
theorem lifted (os : Os) (started : os.Started) (H : Type) (enc : TypeId × Value → H) :
    ReturnsInHanded {} Tryd.checked os 6 .any (fun w args => (Rows.runReplaysSpec.pre enc Tryd.prog Tryd.f6 [] false w args ∧ laidMetH Tryd.prog laidW w) ∧ sizedMet enc Tryd.prog Tryd.f6 (OpenSpec.ofChange Rows.runReplaysSpec) false w args) (Rows.runReplaysSpec.post enc Tryd.prog Tryd.f6 false true false false) := by
  refine returnsInHanded_of_change_and (C := Tryd.checked) (X := fun w _ => laidMetH Tryd.prog laidW w) (fun _ _ _ hh h => h.of_heap hh) Facts.own started (by kernel_rfl) Tryd.func6
    (ChangeSpec.witness_shaped (enc := enc) (C := Tryd.checked) (os := os) (X := fun w _ => laidMetH Tryd.prog laidW w) false (World.doorLaid Tryd.prog 400 os) #[.agg #[.slice none 0 0, .slice none 0 0, .int .i64 0], .int .i64 0] 8 rfl (World.shaped_of_RefB (by kernel_rfl) (by kernel_rfl)) (by kernel_rfl) (by kernel_rfl) (by kernel_rfl) (door_met os _)) ?_
  intro W base args ds gs before hval0 hW hcnd hsz0 hL _
  have hsz : (DataW.weightsEach Tryd.prog (Tryd.f6.params.toList ++ Rows.runReplaysSpec.plain.varTypes Tryd.prog) (ds ++ gs)).all (· ≤ reachBytes) = true := hsz0
  have hval : ∀ (j : Nat) t v, Tryd.f6.params[j]? = some t → args[j]? = some v → Value.okWide Tryd.prog W .any base t v := hval0
  have hW' := hW
  obtain ⟨p, q, hA0, hV, rfl, hfz, hnd⟩ := hW
  have hA : DataW.TrodAll enc Tryd.prog W 0 (fun _ => true) true Tryd.f6.params.toList args.toList ds p := hA0
  rw [Tryd.params6] at hA hval hsz
  obtain ⟨v0, vs0, d0, ds0, p0, q0, hargs, rfl, rfl, h0, r0⟩ := trodAll_cons hA
  obtain ⟨v1, vs1, d1, ds1, p1, q1, rfl, rfl, rfl, h1, r1⟩ := trodAll_cons r0
  obtain ⟨rfl, rfl, rfl⟩ := trodAll_nil r1
  obtain rfl : args = #[v0, v1] := by cases args; simp_all
  obtain ⟨rfl, rfl⟩ := trodVars_none hV
  have k0 := h0
  have lt0 : ∀ x ∈ p0, x.block < W.heap.size := by obtain ⟨m, hm⟩ := k0; exact DataW.trod_lt m _ _ _ hm
  obtain ⟨x0_0, x0_1, x0_2, w0⟩ := open_tapeR (hval 0 31 v0 rfl rfl) h0 (fits_at hsz (j := 0) rfl rfl)
  have k1 := h1
  have lt1 : ∀ x ∈ p1, x.block < W.heap.size := by obtain ⟨m, hm⟩ := k1; exact DataW.trod_lt m _ _ _ hm
  obtain ⟨a1, rfl, rfl, rfl, w1⟩ := open_int Tryd.underlying3 (hval 1 3 v1 rfl rfl) h1
  clear hA0 hval0
  refine (walk W (tab_of_laid hL) v0 x0_0 x0_1 x0_2 w0 a1 (Go.bounds_i64 w1)).mono fun e W' ⟨he, bel⟩ => ?_
  subst he
  exact ⟨_, rfl, _, _, _, [], _, [], hW', trodAll_mk1 (shut_bool Tryd.underlying4 _), (trodAll_cons_mk (Below.trod Facts.laidOut (by kernel_rfl) (of_decide_eq_true (by kernel_rfl)) k0 bel lt0) (trodAll_cons_mk (Below.trod Facts.laidOut (by kernel_rfl) (of_decide_eq_true (by kernel_rfl)) k1 bel lt1) trodAll_mk0)), rfl, bel.frame _, fun h => by cases h⟩

theorem closed : joinedFacts Tryd.prog 6 Tryd.f6 Rows.runReplaysSpec Rows.runReplaysRow = true := by
  unfold joinedFacts
  rw [Facts.enters, Facts.lifts, Facts.made]
  kernel_rfl

theorem over : Rows.runReplaysRow.holds Tryd.pinned (OpenSpec.ofChange Rows.runReplaysSpec) :=
  OpenClaim.holds_of_wide 6 Tryd.f6 rfl rfl rfl rfl rfl rfl rfl ⟨rfl, rfl, rfl, rfl, rfl⟩ rfl rfl rfl rfl rfl (by kernel_rfl) Tryd.func6 closed
    (of_decide_eq_true (by kernel_rfl)) (by unfold Func.isWrapper; first | (rw [if_pos (by decide +kernel)]; kernel_rfl) | (rw [if_neg (by decide +kernel)]; exact ⟨rfl, rfl⟩))
    (fun os started H enc _ => lifted os started H enc)

theorem proved : Rows.RunReplaysCardSaid :=
  Claim7.holds_tied_plain_at .later [] [.data] true (true, "e55afe1ce27be1a43eb16e8afa0a21f2f0f12e9e635a624c298bd28e3b5f27cc") false over (fun _ h => by cases h) (by kernel_rfl) (fun _ h => by cases h) runReplays_row_tie rfl ⟨rfl, rfl⟩ (by kernel_rfl) rfl
    (fun f fn hf hfn => by
      obtain rfl : f = 6 := Option.some.inj ((show Tryd.prog.funcNamed "hourglass/hourglasslaw.RunReplays" = some 6 by kernel_rfl).symm.trans hf) |>.symm
      obtain rfl : fn = Tryd.f6 := (Option.some.inj (Tryd.func6.symm.trans hfn)).symm
      exact ⟨by kernel_rfl, fun j t ht => by
        rw [Tryd.params6] at ht
        have hm : t ∈ [31, 3] := by simpa using Array.mem_of_getElem? ht
        have hall : ([31, 3].all fun u => !Tryd.prog.wantsStandIn u) = true := by kernel_rfl
        exact (show Tryd.prog.wantsStandIn t = false by simpa using List.all_eq_true.1 hall t hm)⟩)
    (by kernel_rfl)
#print axioms proved
end Go.Proofs.YtiekilpddmdhnaaDoor.lRunReplays
