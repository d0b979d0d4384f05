/- The law hourglasslaw.FramesTakes returns true at every frames. No condition. -/
import Derived.Test.YtfgiiaaghllfcaaRows
import Derived.Test.YtfgiiaaghllfcaaOpen
import Derived.Test.YtfgiiaaghllfcaaFacts
import Derived.WalkKit
import Derived.ProofKit
import Derived.OpenShut
import Derived.ShutString
import Derived.ChangeOld
import Derived.Below
import Derived.Test.YtfgiiaaghllfcaaTb
namespace Go.Proofs.Ytfgiiaaghllfcaa.lFramesTakes
open Go Go.RowKit Go.ChangeShapes Go.WideShapes Go.ChangeAt
open Go.ChangeMaps (open_string shut_string)
set_option linter.unusedVariables false

set_option maxHeartbeats 2000000 in
theorem walk (W : World) (v : Value) (rs : List (List Int)) (zs : List Int) (hv : FramesR W.heap.size W v rs zs) : Calls Try.prog 21 #[v] W fun e W' => e = .returned (.bool true) ∧ Below W.heap.size W W' := by
  have hbd := hv.bd
  obtain ⟨rs', zs', i, err, hboth⟩ := take_both rs zs hbd
  have HH := Lib.hid hboth
  obtain ⟨a, c, a', c', hs⟩ := hv.shape
  subst hs
  have HV := Lib.hid hv
  have HD := Lib.hid hbd
  clear hv hbd hboth
  go_enter Try.func21, Try.ntmps21
  go_wp2_with fail
  refine (fcopyRef_any _ rs zs _ (HV.out.to (by simp) (same_alloc _ _))).mono ?_
  rintro e w1 hpost
  obtain ⟨v1, rfl, hf1, hb1⟩ := hpost.read HD.out
  obtain ⟨a1, c1, a2, c2, hv1⟩ := hf1.shape
  subst hv1
  have HF := Lib.hid hf1
  have s1 := hb1.size
  simp only [World.size_alloc] at s1
  have hx := block_below hb1 (alloc_at rfl) (by simp)
  have q0 : w1.cell? ⟨W.heap.size, 0, none⟩ = some (.slice a rs.length c) := cell_block hx 0
  have q1 : w1.cell? ⟨W.heap.size, 1, none⟩ = some (.slice a' zs.length c') := cell_block hx 1
  have hlt : W.heap.size < w1.heap.size := by omega
  have HB1 := Lib.hid ((below_alloc W _).trans (hb1.mono (by simp)))
  have HX := Lib.hid hx
  clear hx hb1 hf1 hpost
  go_wp2_with fail
  refine ((HH.out _ _ (HF.out.to (by simp) (same_alloc _ _))).1).mono ?_
  rintro e w2 ⟨v2, rfl, hf2, hb2⟩
  obtain ⟨a3, c3, a4, c4, hv2⟩ := hf2.shape
  subst hv2
  have s2 := hb2.size
  simp only [World.size_alloc] at s2
  have hb2' := (below_alloc w1 _).trans (hb2.mono (by simp))
  have hx2 := block_below hb2' HX.out (by omega)
  have hk2 := box_at hb2
  have m0 : w2.cell? ⟨W.heap.size, 0, none⟩ = some (.slice a rs.length c) := cell_block hx2 0
  have m1 : w2.cell? ⟨W.heap.size, 1, none⟩ = some (.slice a' zs.length c') := cell_block hx2 1
  have hlt2 : W.heap.size < w2.heap.size := by omega
  have HF1 := Lib.hid (HF.out.to (B' := w2.heap.size) (by omega) (same_below hb2'))
  have HB2 := Lib.hid (HB1.out.trans (hb2'.mono (by omega)))
  have HF2 := Lib.hid hf2
  have HX2 := Lib.hid hx2
  have HK2 := Lib.hid hk2
  clear hx2 hk2 hb2 hb2' hf2 q0 q1
  go_wp2_with fail
  refine ((HH.out _ _ (HV.out.to (by simp; omega) ((same_below HB2.out).trans ((same_alloc _ _).mono (by omega))))).2).mono ?_
  rintro e w3 ⟨v3, rfl, hf3, hb3⟩
  obtain ⟨a5, c5, a6, c6, hv3⟩ := hf3.shape
  subst hv3
  have s3 := hb3.size
  simp only [World.size_alloc] at s3
  have hb3' := (below_alloc w2 _).trans (hb3.mono (by simp))
  have hx3 := block_below hb3' HX2.out (by omega)
  have hk3 := block_below hb3' HK2.out (by omega)
  have hg3 := box_at hb3
  have x0 : w3.cell? ⟨W.heap.size, 0, none⟩ = some (.slice a rs.length c) := cell_block hx3 0
  have x1 : w3.cell? ⟨W.heap.size, 1, none⟩ = some (.slice a' zs.length c') := cell_block hx3 1
  have y0 : w3.cell? ⟨w1.heap.size, 0, none⟩ = some (.slice a1 rs.length c1) := cell_block hk3 0
  have y1 : w3.cell? ⟨w1.heap.size, 1, none⟩ = some (.slice a2 zs.length c2) := cell_block hk3 1
  have z0 : w3.cell? ⟨w2.heap.size, 0, none⟩ = some (.slice a3 rs'.length c3) := cell_block hg3 0
  have z1 : w3.cell? ⟨w2.heap.size, 1, none⟩ = some (.slice a4 zs'.length c4) := cell_block hg3 1
  have l1 : W.heap.size < w3.heap.size := by omega
  have l2 : w1.heap.size < w3.heap.size := by omega
  have l3 : w2.heap.size < w3.heap.size := by omega
  have HF3 := Lib.hid hf3
  have HG3 := Lib.hid (HF2.out.to (B' := w3.heap.size) (by omega) (same_below hb3'))
  have HK3 := Lib.hid (HF1.out.to (B' := w3.heap.size) (by omega) ((same_below hb3').mono (by omega)))
  have HB3 := Lib.hid (HB2.out.trans (hb3'.mono (by omega)))
  have HX3 := Lib.hid hx3
  have HY3 := Lib.hid hk3
  clear hx3 hk3 hg3 hb3 hb3' hf3 m0 m1
  go_wp2_with fail
  refine (sameFrames_yes _ _ rs' zs' _ (HG3.out.to (by simp) ((same_alloc _ _).mono (by omega))) (HF3.out.to (by simp) (same_alloc _ _))).mono ?_
  rintro e w4 ⟨rfl, hb4⟩
  have s4 := hb4.size
  simp only [World.size_alloc] at s4
  have hb4' := (below_alloc w3 _).trans (hb4.mono (by simp))
  have hx4 := block_below hb4' HX3.out (by omega)
  have hy4 := block_below hb4' HY3.out (by omega)
  have p0 : w4.cell? ⟨W.heap.size, 0, none⟩ = some (.slice a rs.length c) := cell_block hx4 0
  have p1 : w4.cell? ⟨W.heap.size, 1, none⟩ = some (.slice a' zs.length c') := cell_block hx4 1
  have r0 : w4.cell? ⟨w1.heap.size, 0, none⟩ = some (.slice a1 rs.length c1) := cell_block hy4 0
  have r1 : w4.cell? ⟨w1.heap.size, 1, none⟩ = some (.slice a2 zs.length c2) := cell_block hy4 1
  have HB4 := Lib.hid (HB3.out.trans (hb4'.mono (by omega)))
  have HK4 := Lib.hid (HK3.out.to (B' := w4.heap.size) (by omega) ((same_below hb4').mono (by omega)))
  clear hx4 hy4 hb4 hb4'
  go_wp2_with fail
  refine (sameFrames_yes _ _ rs zs _ (HK4.out.to (by omega) (Same.refl _ _)) (HV.out.to (by omega) (same_below HB4.out))).mono ?_
  rintro e w5 ⟨rfl, hb5⟩
  have hB := HB4.out.trans (hb5.mono (by omega))
  go_wp2
  go_ret
  exact ⟨rfl, hB⟩

set_option maxRecDepth 100000 in
theorem lifted (os : Os) (started : os.Started) (H : Type) (enc : TypeId × Value → H) :
    ReturnsInHanded {} Try.checked os 21 .any (Rows.framesTakesSpec.pre6 enc Try.prog Try.f21 Rows.framesTakesRow.domain false) (Rows.framesTakesSpec.post enc Try.prog Try.f21 false true false false) := by
  refine returnsInHanded_of_change_sized (C := Try.checked) Facts.own started (by kernel_rfl) Try.func21
    (ChangeSpec.witness6 (enc := enc) (C := Try.checked) false ⟨#[], #[.agg #[.slice none 0 0, .slice none 0 0]], []⟩ 8 (by kernel_rfl) (by kernel_rfl) (by kernel_rfl) (by kernel_rfl)) ?_
  intro W base args ds gs before hval0 hW hcnd hsz0 _
  have hsz : (DataW.weightsEach Try.prog (Try.f21.params.toList ++ Rows.framesTakesSpec.plain.varTypes Try.prog) (ds ++ gs)).all (· ≤ reachBytes) = true := hsz0
  have hval : ∀ (j : Nat) t v, Try.f21.params[j]? = some t → args[j]? = some v → Value.okWide Try.prog W .any base t v := hval0
  have hW' := hW
  obtain ⟨p, q, hA0, hV, rfl, hfz, hnd⟩ := hW
  have hA : DataW.TrodAll enc Try.prog W 0 (fun _ => true) true Try.f21.params.toList args.toList ds p := hA0
  rw [Try.params21] at hA hval hsz
  obtain ⟨v0, vs0, d0, ds0, p0, q0, hargs, rfl, rfl, h0, r0⟩ := trodAll_cons hA
  obtain ⟨rfl, rfl, rfl⟩ := trodAll_nil r0
  obtain rfl : args = #[v0] := by cases args; simp_all
  obtain ⟨rfl, rfl⟩ := trodVars_none hV
  have k0 := h0
  have lt0 : ∀ x ∈ p0, x.block < W.heap.size := by obtain ⟨m, hm⟩ := k0; exact DataW.trod_lt m _ _ _ hm
  obtain ⟨x0_0, x0_1, w0⟩ := open_framesR (hval 0 28 v0 rfl rfl) h0 (fits_at hsz (j := 0) rfl rfl)
  clear hA0 hval0
  refine (walk W v0 x0_0 x0_1 w0).mono fun e W' ⟨he, bel⟩ => ?_
  subst he
  exact ⟨_, rfl, _, _, _, [], _, [], hW', trodAll_mk1 (shut_bool Try.underlying4 _), (trodAll_cons_mk (Below.trod Facts.laidOut (by kernel_rfl) (of_decide_eq_true (by kernel_rfl)) k0 bel lt0) trodAll_mk0), rfl, bel.frame _, fun h => by cases h⟩

theorem closed : joinedFacts Try.prog 21 Try.f21 Rows.framesTakesSpec Rows.framesTakesRow = true := by
  unfold joinedFacts
  rw [Facts.enters, Facts.lifts, Facts.made]
  kernel_rfl

theorem over : Rows.framesTakesRow.holds Try.pinned (OpenSpec.ofChange Rows.framesTakesSpec) :=
  OpenClaim.holds_of_wide 21 Try.f21 rfl rfl rfl rfl rfl rfl rfl ⟨rfl, rfl, rfl, rfl, rfl⟩ rfl rfl rfl rfl rfl (by kernel_rfl) Try.func21 closed
    (of_decide_eq_true (by kernel_rfl)) (by unfold Func.isWrapper; first | (rw [if_pos (by decide +kernel)]; kernel_rfl) | (rw [if_neg (by decide +kernel)]; exact ⟨rfl, rfl⟩))
    (fun os started H enc _ => lifted os started H enc)

theorem proved : Rows.FramesTakesSaid := over
#print axioms proved
end Go.Proofs.Ytfgiiaaghllfcaa.lFramesTakes
