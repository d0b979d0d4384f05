/- The law hourglasslaw.RunChecks returns true at every tape, the table laid as the program's text lays it. No further condition. -/
import Derived.Test.YtiekilpddmdhnaaDoorRows
import Derived.Test.YtiekilpddmdhnaaDoorOpen
import Derived.Test.YtiekilpddmdhnaaDoorFacts
import Derived.WalkKit
import Derived.ProofKit
import Derived.OpenShut
import Derived.ShutString
import Derived.ChangeOld
import Derived.Below
import Derived.Test.YtiekilpddmdhnaaDoorRt
import Derived.Test.YtiekilpddmdhnaaDoorSe
import Derived.Test.YtiekilpddmdhnaaDoorDl
import Derived.Test.YtiekilpddmdhnaaDoorTie
import Derived.Test.YtiekilpddmdhnaaDoorCards
import Derived.SevenTiedAt
namespace Go.Proofs.YtiekilpddmdhnaaDoor.lRunChecks
open Go Go.RowKit Go.ChangeShapes Go.WideShapes Go.ChangeAt
open Go.ChangeMaps (open_string shut_string)
set_option linter.unusedVariables false

set_option maxHeartbeats 4000000 in
set_option maxRecDepth 100000 in
theorem walk (W : World) (ht : Tab W) (v : Value) (img : List Int) (b : List UInt8) (cnt : Int) (hv : TapeR W.heap.size W v img b cnt) : Calls Tryd.prog 4 #[v] W fun e W' => e = .returned (.bool true) ∧ Below W.heap.size W W' := by
  obtain ⟨vi, ve, rfl, hi, hb, hc⟩ := hv
  have HI := Lib.hid hi
  have HBB := Lib.hid hb
  have HC := Lib.hid hc
  have HT := Lib.hid ht
  obtain ⟨ai, ci, rfl, _⟩ := id hi
  obtain ⟨ae, ce, rfl, _⟩ := id hb
  clear hi hb hc ht
  go_enter Tryd.func4, Tryd.ntmps4
  go_wp2_with fail
  refine (runcheck_any _ _ img b cnt _ (HT.out.to (below_alloc _ _)) (HI.out.to (by simp) (same_alloc _ _)) (HBB.out.to (by simp) (same_alloc _ _)) HC.out).mono ?_
  rintro e w1 ⟨c, l, vo, hchk, rfl, hev, hb1⟩
  have hx := block_below hb1 (g := W.heap.size) (alloc_at rfl) (by simp)
  have q0 : w1.cell? ⟨W.heap.size, 0, none⟩ = some (.slice ai img.length ci) := cell_block hx 0
  have q1 : w1.cell? ⟨W.heap.size, 1, none⟩ = some (.slice ae b.length ce) := cell_block hx 1
  have q2 : w1.cell? ⟨W.heap.size, 2, none⟩ = some (.int .i64 cnt) := cell_block hx 2
  have HB1 := Lib.hid ((below_alloc W _).trans (hb1.mono (by simp)))
  have HCH := Lib.hid hchk
  have HEV := Lib.hid hev
  clear hx hb1 hchk hev
  go_wp2_with fail
  refine (tapefault_any _ _ img b cnt _ (HI.out.to HB1.out.size (same_below HB1.out)) (HBB.out.to HB1.out.size (same_below HB1.out)) HC.out).mono ?_
  rintro e w2 ⟨c2, l2, vo2, hchk2, rfl, hev2, hb2⟩
  obtain ⟨rfl, rfl⟩ := HCH.out.det hchk2
  have HB2 := Lib.hid (HB1.out.trans (hb2.mono HB1.out.size))
  have HS := Lib.hid (sameEvs_any vo vo2 l w2 (HEV.out.to hb2.size (same_below hb2)) hev2)
  clear hchk2 hev2 hb2 HEV
  go_wp2_with fail
  refine HS.out.mono ?_
  rintro e w3 ⟨rfl, n, rfl⟩
  go_wp2
  go_ret
  exact ⟨ret_bool (by simp), below_drewN HB2.out n⟩

set_option maxRecDepth 100000 in
theorem lifted (os : Os) (started : os.Started) (H : Type) (enc : TypeId × Value → H) :
    ReturnsInHanded {} Tryd.checked os 4 .any (fun w args => (Rows.runChecksSpec.pre enc Tryd.prog Tryd.f4 [] false w args ∧ laidMetH Tryd.prog laidW w) ∧ sizedMet enc Tryd.prog Tryd.f4 (OpenSpec.ofChange Rows.runChecksSpec) false w args) (Rows.runChecksSpec.post enc Tryd.prog Tryd.f4 false true false false) := by
  refine returnsInHanded_of_change_and (C := Tryd.checked) (X := fun w _ => laidMetH Tryd.prog laidW w) (fun _ _ _ hh h => h.of_heap hh) Facts.own started (by kernel_rfl) Tryd.func4
    (ChangeSpec.witness_shaped (enc := enc) (C := Tryd.checked) (os := os) (X := fun w _ => laidMetH Tryd.prog laidW w) false (World.doorLaid Tryd.prog 400 os) #[.agg #[.slice none 0 0, .slice none 0 0, .int .i64 0]] 8 rfl (World.shaped_of_RefB (by kernel_rfl) (by kernel_rfl)) (by kernel_rfl) (by kernel_rfl) (by kernel_rfl) (door_met os _)) ?_
  intro W base args ds gs before hval0 hW hcnd hsz0 hL _
  have hsz : (DataW.weightsEach Tryd.prog (Tryd.f4.params.toList ++ Rows.runChecksSpec.plain.varTypes Tryd.prog) (ds ++ gs)).all (· ≤ reachBytes) = true := hsz0
  have hval : ∀ (j : Nat) t v, Tryd.f4.params[j]? = some t → args[j]? = some v → Value.okWide Tryd.prog W .any base t v := hval0
  have hW' := hW
  obtain ⟨p, q, hA0, hV, rfl, hfz, hnd⟩ := hW
  have hA : DataW.TrodAll enc Tryd.prog W 0 (fun _ => true) true Tryd.f4.params.toList args.toList ds p := hA0
  rw [Tryd.params4] at hA hval hsz
  obtain ⟨v0, vs0, d0, ds0, p0, q0, hargs, rfl, rfl, h0, r0⟩ := trodAll_cons hA
  obtain ⟨rfl, rfl, rfl⟩ := trodAll_nil r0
  obtain rfl : args = #[v0] := by cases args; simp_all
  obtain ⟨rfl, rfl⟩ := trodVars_none hV
  have k0 := h0
  have lt0 : ∀ x ∈ p0, x.block < W.heap.size := by obtain ⟨m, hm⟩ := k0; exact DataW.trod_lt m _ _ _ hm
  obtain ⟨x0_0, x0_1, x0_2, w0⟩ := open_tapeR (hval 0 31 v0 rfl rfl) h0 (fits_at hsz (j := 0) rfl rfl)
  clear hA0 hval0
  refine (walk W (tab_of_laid hL) v0 x0_0 x0_1 x0_2 w0).mono fun e W' ⟨he, bel⟩ => ?_
  subst he
  exact ⟨_, rfl, _, _, _, [], _, [], hW', trodAll_mk1 (shut_bool Tryd.underlying4 _), (trodAll_cons_mk (Below.trod Facts.laidOut (by kernel_rfl) (of_decide_eq_true (by kernel_rfl)) k0 bel lt0) trodAll_mk0), rfl, bel.frame _, fun h => by cases h⟩

theorem closed : joinedFacts Tryd.prog 4 Tryd.f4 Rows.runChecksSpec Rows.runChecksRow = true := by
  unfold joinedFacts
  rw [Facts.enters, Facts.lifts, Facts.made]
  kernel_rfl

theorem over : Rows.runChecksRow.holds Tryd.pinned (OpenSpec.ofChange Rows.runChecksSpec) :=
  OpenClaim.holds_of_wide 4 Tryd.f4 rfl rfl rfl rfl rfl rfl rfl ⟨rfl, rfl, rfl, rfl, rfl⟩ rfl rfl rfl rfl rfl (by kernel_rfl) Tryd.func4 closed
    (of_decide_eq_true (by kernel_rfl)) (by unfold Func.isWrapper; first | (rw [if_pos (by decide +kernel)]; kernel_rfl) | (rw [if_neg (by decide +kernel)]; exact ⟨rfl, rfl⟩))
    (fun os started H enc _ => lifted os started H enc)

theorem proved : Rows.RunChecksCardSaid :=
  Claim7.holds_tied_plain_at .later [] [.data] true (true, "e55afe1ce27be1a43eb16e8afa0a21f2f0f12e9e635a624c298bd28e3b5f27cc") false over (fun _ h => by cases h) (by kernel_rfl) (fun _ h => by cases h) runChecks_row_tie rfl ⟨rfl, rfl⟩ (by kernel_rfl) rfl
    (fun f fn hf hfn => by
      obtain rfl : f = 4 := Option.some.inj ((show Tryd.prog.funcNamed "hourglass/hourglasslaw.RunChecks" = some 4 by kernel_rfl).symm.trans hf) |>.symm
      obtain rfl : fn = Tryd.f4 := (Option.some.inj (Tryd.func4.symm.trans hfn)).symm
      exact ⟨by kernel_rfl, fun j t ht => by
        rw [Tryd.params4] at ht
        have hm : t ∈ [31] := by simpa using Array.mem_of_getElem? ht
        have hall : ([31].all fun u => !Tryd.prog.wantsStandIn u) = true := by kernel_rfl
        exact (show Tryd.prog.wantsStandIn t = false by simpa using List.all_eq_true.1 hall t hm)⟩)
    (by kernel_rfl)
#print axioms proved
end Go.Proofs.YtiekilpddmdhnaaDoor.lRunChecks
