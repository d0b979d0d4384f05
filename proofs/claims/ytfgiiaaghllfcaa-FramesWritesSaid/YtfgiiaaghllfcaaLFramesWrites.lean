/- The law hourglasslaw.FramesWrites returns true at every frames and numbers. No condition. -/
import Derived.Test.YtfgiiaaghllfcaaRows
import Derived.Test.YtfgiiaaghllfcaaOpen
import Derived.Test.YtfgiiaaghllfcaaFacts
import Derived.WalkKit
import Derived.ProofKit
import Derived.OpenShut
import Derived.ShutString
import Derived.ChangeOld
import Derived.Below
import Derived.Test.YtfgiiaaghllfcaaWb
namespace Go.Proofs.Ytfgiiaaghllfcaa.lFramesWrites
open Go Go.RowKit Go.ChangeShapes Go.WideShapes Go.ChangeAt
open Go.ChangeMaps (open_string shut_string)
set_option linter.unusedVariables false

set_option maxHeartbeats 2000000 in
theorem walk (W : World) (v : Value) (rs : List (List Int)) (zs : List Int) (hv : FramesR W.heap.size W v rs zs) (n : Int) (hn : -9223372036854775808 ≤ n ∧ n ≤ 9223372036854775807) (at_ : Int) (hat : -9223372036854775808 ≤ at_ ∧ at_ ≤ 9223372036854775807) (x : Int) (hx : -9223372036854775808 ≤ x ∧ x ≤ 9223372036854775807) : Calls Try.prog 23 #[v, .int .i64 n, .int .i64 at_, .int .i64 x] W fun e W' => e = .returned (.bool true) ∧ Below W.heap.size W W' := by
  have hbd := hv.bd
  obtain ⟨rs', zs', i, err, hboth⟩ := write_both rs zs n at_ x hx hbd
  have HH := Lib.hid hboth
  obtain ⟨a, c, a', c', hs⟩ := hv.shape
  subst hs
  have HV := Lib.hid hv
  have HD := Lib.hid hbd
  clear hv hbd hboth hn hat hx
  go_enter Try.func23, Try.ntmps23
  go_wp2_with fail
  refine (fcopyRef_any _ rs zs _ (HV.out.to (by simp) (same_alloc _ _))).mono ?_
  rintro e w1 hpost
  obtain ⟨v1, rfl, hf1, hb1⟩ := hpost.read HD.out
  obtain ⟨a1, c1, a2, c2, hv1⟩ := hf1.shape
  subst hv1
  have HF := Lib.hid hf1
  have s1 := hb1.size
  simp only [World.size_alloc] at s1
  have hx := block_below hb1 (alloc_at rfl) (by simp)
  have q0 : w1.cell? ⟨W.heap.size, 0, none⟩ = some (.slice a rs.length c) := cell_block hx 0
  have q1 : w1.cell? ⟨W.heap.size, 1, none⟩ = some (.slice a' zs.length c') := cell_block hx 1
  have hlt : W.heap.size < w1.heap.size := by omega
  have HB1 := Lib.hid ((below_alloc W _).trans (hb1.mono (by simp)))
  have HX := Lib.hid hx
  clear hx hb1 hf1 hpost
  go_wp2_with fail
  refine ((HH.out _ _ (HF.out.to (by simp) (same_alloc _ _))).1).mono ?_
  rintro e w2 ⟨v2, rfl, hf2, hb2⟩
  obtain ⟨a3, c3, a4, c4, hv2⟩ := hf2.shape
  subst hv2
  have s2 := hb2.size
  simp only [World.size_alloc] at s2
  have hb2' := (below_alloc w1 _).trans (hb2.mono (by simp))
  have hx2 := block_below hb2' HX.out (by omega)
  have hk2 := box_at hb2
  have m0 : w2.cell? ⟨W.heap.size, 0, none⟩ = some (.slice a rs.length c) := cell_block hx2 0
  have m1 : w2.cell? ⟨W.heap.size, 1, none⟩ = some (.slice a' zs.length c') := cell_block hx2 1
  have hlt2 : W.heap.size < w2.heap.size := by omega
  have HF1 := Lib.hid (HF.out.to (B' := w2.heap.size) (by omega) (same_below hb2'))
  have HB2 := Lib.hid (HB1.out.trans (hb2'.mono (by omega)))
  have HF2 := Lib.hid hf2
  have HX2 := Lib.hid hx2
  have HK2 := Lib.hid hk2
  clear hx2 hk2 hb2 hb2' hf2 q0 q1
  go_wp2_with fail
  refine ((HH.out _ _ (HV.out.to (by simp; omega) ((same_below HB2.out).trans ((same_alloc _ _).mono (by omega))))).2).mono ?_
  rintro e w3 ⟨v3, rfl, hf3, hb3⟩
  obtain ⟨a5, c5, a6, c6, hv3⟩ := hf3.shape
  subst hv3
  have s3 := hb3.size
  simp only [World.size_alloc] at s3
  have hb3' := (below_alloc w2 _).trans (hb3.mono (by simp))
  have hx3 := block_below hb3' HX2.out (by omega)
  have hk3 := block_below hb3' HK2.out (by omega)
  have hg3 := box_at hb3
  have x0 : w3.cell? ⟨W.heap.size, 0, none⟩ = some (.slice a rs.length c) := cell_block hx3 0
  have x1 : w3.cell? ⟨W.heap.size, 1, none⟩ = some (.slice a' zs.length c') := cell_block hx3 1
  have y0 : w3.cell? ⟨w1.heap.size, 0, none⟩ = some (.slice a1 rs.length c1) := cell_block hk3 0
  have y1 : w3.cell? ⟨w1.heap.size, 1, none⟩ = some (.slice a2 zs.length c2) := cell_block hk3 1
  have z0 : w3.cell? ⟨w2.heap.size, 0, none⟩ = some (.slice a3 rs'.length c3) := cell_block hg3 0
  have z1 : w3.cell? ⟨w2.heap.size, 1, none⟩ = some (.slice a4 zs'.length c4) := cell_block hg3 1
  have l1 : W.heap.size < w3.heap.size := by omega
  have l2 : w1.heap.size < w3.heap.size := by omega
  have l3 : w2.heap.size < w3.heap.size := by omega
  have HF3 := Lib.hid hf3
  have HG3 := Lib.hid (HF2.out.to (B' := w3.heap.size) (by omega) (same_below hb3'))
  have HK3 := Lib.hid (HF1.out.to (B' := w3.heap.size) (by omega) ((same_below hb3').mono (by omega)))
  have HB3 := Lib.hid (HB2.out.trans (hb3'.mono (by omega)))
  have HX3 := Lib.hid hx3
  have HY3 := Lib.hid hk3
  clear hx3 hk3 hg3 hb3 hb3' hf3 m0 m1
  go_wp2_with fail
  refine (sameFrames_yes _ _ rs' zs' _ (HG3.out.to (by simp) ((same_alloc _ _).mono (by omega))) (HF3.out.to (by simp) (same_alloc _ _))).mono ?_
  rintro e w4 ⟨rfl, hb4⟩
  have s4 := hb4.size
  simp only [World.size_alloc] at s4
  have hb4' := (below_alloc w3 _).trans (hb4.mono (by simp))
  have hx4 := block_below hb4' HX3.out (by omega)
  have hy4 := block_below hb4' HY3.out (by omega)
  have p0 : w4.cell? ⟨W.heap.size, 0, none⟩ = some (.slice a rs.length c) := cell_block hx4 0
  have p1 : w4.cell? ⟨W.heap.size, 1, none⟩ = some (.slice a' zs.length c') := cell_block hx4 1
  have r0 : w4.cell? ⟨w1.heap.size, 0, none⟩ = some (.slice a1 rs.length c1) := cell_block hy4 0
  have r1 : w4.cell? ⟨w1.heap.size, 1, none⟩ = some (.slice a2 zs.length c2) := cell_block hy4 1
  have HB4 := Lib.hid (HB3.out.trans (hb4'.mono (by omega)))
  have HK4 := Lib.hid (HK3.out.to (B' := w4.heap.size) (by omega) ((same_below hb4').mono (by omega)))
  clear hx4 hy4 hb4 hb4'
  go_wp2_with fail
  refine (sameFrames_yes _ _ rs zs _ (HK4.out.to (by omega) (Same.refl _ _)) (HV.out.to (by omega) (same_below HB4.out))).mono ?_
  rintro e w5 ⟨rfl, hb5⟩
  have hB := HB4.out.trans (hb5.mono (by omega))
  go_wp2
  go_ret
  exact ⟨rfl, hB⟩

set_option maxRecDepth 100000 in
theorem lifted (os : Os) (started : os.Started) (H : Type) (enc : TypeId × Value → H) :
    ReturnsInHanded {} Try.checked os 23 .any (Rows.framesWritesSpec.pre6 enc Try.prog Try.f23 Rows.framesWritesRow.domain false) (Rows.framesWritesSpec.post enc Try.prog Try.f23 false true false false) := by
  refine returnsInHanded_of_change_sized (C := Try.checked) Facts.own started (by kernel_rfl) Try.func23
    (ChangeSpec.witness6 (enc := enc) (C := Try.checked) false ⟨#[], #[.agg #[.slice none 0 0, .slice none 0 0], .int .i64 0, .int .i64 0, .int .i64 0], []⟩ 8 (by kernel_rfl) (by kernel_rfl) (by kernel_rfl) (by kernel_rfl)) ?_
  intro W base args ds gs before hval0 hW hcnd hsz0 _
  have hsz : (DataW.weightsEach Try.prog (Try.f23.params.toList ++ Rows.framesWritesSpec.plain.varTypes Try.prog) (ds ++ gs)).all (· ≤ reachBytes) = true := hsz0
  have hval : ∀ (j : Nat) t v, Try.f23.params[j]? = some t → args[j]? = some v → Value.okWide Try.prog W .any base t v := hval0
  have hW' := hW
  obtain ⟨p, q, hA0, hV, rfl, hfz, hnd⟩ := hW
  have hA : DataW.TrodAll enc Try.prog W 0 (fun _ => true) true Try.f23.params.toList args.toList ds p := hA0
  rw [Try.params23] at hA hval hsz
  obtain ⟨v0, vs0, d0, ds0, p0, q0, hargs, rfl, rfl, h0, r0⟩ := trodAll_cons hA
  obtain ⟨v1, vs1, d1, ds1, p1, q1, rfl, rfl, rfl, h1, r1⟩ := trodAll_cons r0
  obtain ⟨v2, vs2, d2, ds2, p2, q2, rfl, rfl, rfl, h2, r2⟩ := trodAll_cons r1
  obtain ⟨v3, vs3, d3, ds3, p3, q3, rfl, rfl, rfl, h3, r3⟩ := trodAll_cons r2
  obtain ⟨rfl, rfl, rfl⟩ := trodAll_nil r3
  obtain rfl : args = #[v0, v1, v2, v3] := by cases args; simp_all
  obtain ⟨rfl, rfl⟩ := trodVars_none hV
  have k0 := h0
  have lt0 : ∀ x ∈ p0, x.block < W.heap.size := by obtain ⟨m, hm⟩ := k0; exact DataW.trod_lt m _ _ _ hm
  obtain ⟨x0_0, x0_1, w0⟩ := open_framesR (hval 0 28 v0 rfl rfl) h0 (fits_at hsz (j := 0) rfl rfl)
  have k1 := h1
  have lt1 : ∀ x ∈ p1, x.block < W.heap.size := by obtain ⟨m, hm⟩ := k1; exact DataW.trod_lt m _ _ _ hm
  obtain ⟨a1, rfl, rfl, rfl, w1⟩ := open_int Try.underlying3 (hval 1 3 v1 rfl rfl) h1
  have k2 := h2
  have lt2 : ∀ x ∈ p2, x.block < W.heap.size := by obtain ⟨m, hm⟩ := k2; exact DataW.trod_lt m _ _ _ hm
  obtain ⟨a2, rfl, rfl, rfl, w2⟩ := open_int Try.underlying3 (hval 2 3 v2 rfl rfl) h2
  have k3 := h3
  have lt3 : ∀ x ∈ p3, x.block < W.heap.size := by obtain ⟨m, hm⟩ := k3; exact DataW.trod_lt m _ _ _ hm
  obtain ⟨a3, rfl, rfl, rfl, w3⟩ := open_int Try.underlying3 (hval 3 3 v3 rfl rfl) h3
  clear hA0 hval0
  refine (walk W v0 x0_0 x0_1 w0 a1 (Go.bounds_i64 w1) a2 (Go.bounds_i64 w2) a3 (Go.bounds_i64 w3)).mono fun e W' ⟨he, bel⟩ => ?_
  subst he
  exact ⟨_, rfl, _, _, _, [], _, [], hW', trodAll_mk1 (shut_bool Try.underlying4 _), (trodAll_cons_mk (Below.trod Facts.laidOut (by kernel_rfl) (of_decide_eq_true (by kernel_rfl)) k0 bel lt0) (trodAll_cons_mk (Below.trod Facts.laidOut (by kernel_rfl) (of_decide_eq_true (by kernel_rfl)) k1 bel lt1) (trodAll_cons_mk (Below.trod Facts.laidOut (by kernel_rfl) (of_decide_eq_true (by kernel_rfl)) k2 bel lt2) (trodAll_cons_mk (Below.trod Facts.laidOut (by kernel_rfl) (of_decide_eq_true (by kernel_rfl)) k3 bel lt3) trodAll_mk0)))), rfl, bel.frame _, fun h => by cases h⟩

theorem closed : joinedFacts Try.prog 23 Try.f23 Rows.framesWritesSpec Rows.framesWritesRow = true := by
  unfold joinedFacts
  rw [Facts.enters, Facts.lifts, Facts.made]
  kernel_rfl

theorem over : Rows.framesWritesRow.holds Try.pinned (OpenSpec.ofChange Rows.framesWritesSpec) :=
  OpenClaim.holds_of_wide 23 Try.f23 rfl rfl rfl rfl rfl rfl rfl ⟨rfl, rfl, rfl, rfl, rfl⟩ rfl rfl rfl rfl rfl (by kernel_rfl) Try.func23 closed
    (of_decide_eq_true (by kernel_rfl)) (by unfold Func.isWrapper; first | (rw [if_pos (by decide +kernel)]; kernel_rfl) | (rw [if_neg (by decide +kernel)]; exact ⟨rfl, rfl⟩))
    (fun os started H enc _ => lifted os started H enc)

theorem proved : Rows.FramesWritesSaid := over
#print axioms proved
end Go.Proofs.Ytfgiiaaghllfcaa.lFramesWrites
