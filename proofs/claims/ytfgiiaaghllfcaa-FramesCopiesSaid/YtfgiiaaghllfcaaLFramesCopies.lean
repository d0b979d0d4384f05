/- The law hourglasslaw.FramesCopies returns true at every frames. No condition. -/
import Derived.Test.YtfgiiaaghllfcaaRows
import Derived.Test.YtfgiiaaghllfcaaOpen
import Derived.Test.YtfgiiaaghllfcaaFacts
import Derived.WalkKit
import Derived.ProofKit
import Derived.OpenShut
import Derived.ShutString
import Derived.ChangeOld
import Derived.Below
import Derived.Test.YtfgiiaaghllfcaaFc
namespace Go.Proofs.Ytfgiiaaghllfcaa.lFramesCopies
open Go Go.RowKit Go.ChangeShapes Go.WideShapes Go.ChangeAt
open Go.ChangeMaps (open_string shut_string)
set_option linter.unusedVariables false

theorem walk (W : World) (v : Value) (rs : List (List Int)) (zs : List Int) (hv : FramesR W.heap.size W v rs zs) : Calls Try.prog 11 #[v] W fun e W' => e = .returned (.bool true) ∧ Below W.heap.size W W' := by
  have hbd := hv.bd
  obtain ⟨a, c, a', c', hs⟩ := hv.shape
  subst hs
  have HV := Lib.hid hv
  have HD := Lib.hid hbd
  clear hv hbd
  go_enter Try.func11, Try.ntmps11
  go_wp2_with fail
  refine (fcopy_any _ rs zs _ (HV.out.to (by simp) (same_alloc _ _))).mono ?_
  rintro e w1 hpost
  obtain ⟨v1, rfl, hf1, hb1⟩ := hpost.read HD.out
  obtain ⟨a1, c1, a2, c2, hv1⟩ := hf1.shape
  subst hv1
  have HF := Lib.hid hf1
  have s1 := hb1.size
  simp only [World.size_alloc] at s1
  have hx := block_below hb1 (alloc_at rfl) (by simp)
  have q0 : w1.cell? ⟨W.heap.size, 0, none⟩ = some (.slice a rs.length c) := cell_block hx 0
  have q1 : w1.cell? ⟨W.heap.size, 1, none⟩ = some (.slice a' zs.length c') := cell_block hx 1
  have hlt : W.heap.size < w1.heap.size := by omega
  have HB1 := Lib.hid hb1
  clear hx hb1 hf1 hpost
  go_wp2_with fail
  refine (sameFrames_yes _ _ rs zs _ ?_ ?_).mono ?_
  · exact HF.out.to (by simp) (same_alloc _ _)
  · exact HV.out.to (by simp; omega) ((same_alloc W (.cells #[.slice a rs.length c, .slice a' zs.length c'] 28)).trans (((same_below HB1.out).mono (by simp)).trans ((same_alloc _ _).mono (by omega))))
  rintro e w2 ⟨rfl, hb2⟩
  have hB := (below_alloc W (.cells #[.slice a rs.length c, .slice a' zs.length c'] 28)).trans ((HB1.out.mono (by simp)).trans (((below_alloc w1 _).mono (by omega)).trans (hb2.mono (by simp; omega))))
  go_wp2
  go_ret
  exact ⟨rfl, hB⟩

set_option maxRecDepth 100000 in
theorem lifted (os : Os) (started : os.Started) (H : Type) (enc : TypeId × Value → H) :
    ReturnsInHanded {} Try.checked os 11 .any (Rows.framesCopiesSpec.pre6 enc Try.prog Try.f11 Rows.framesCopiesRow.domain false) (Rows.framesCopiesSpec.post enc Try.prog Try.f11 false true false false) := by
  refine returnsInHanded_of_change_sized (C := Try.checked) Facts.own started (by kernel_rfl) Try.func11
    (ChangeSpec.witness6 (enc := enc) (C := Try.checked) false ⟨#[], #[.agg #[.slice none 0 0, .slice none 0 0]], []⟩ 8 (by kernel_rfl) (by kernel_rfl) (by kernel_rfl) (by kernel_rfl)) ?_
  intro W base args ds gs before hval0 hW hcnd hsz0 _
  have hsz : (DataW.weightsEach Try.prog (Try.f11.params.toList ++ Rows.framesCopiesSpec.plain.varTypes Try.prog) (ds ++ gs)).all (· ≤ reachBytes) = true := hsz0
  have hval : ∀ (j : Nat) t v, Try.f11.params[j]? = some t → args[j]? = some v → Value.okWide Try.prog W .any base t v := hval0
  have hW' := hW
  obtain ⟨p, q, hA0, hV, rfl, hfz, hnd⟩ := hW
  have hA : DataW.TrodAll enc Try.prog W 0 (fun _ => true) true Try.f11.params.toList args.toList ds p := hA0
  rw [Try.params11] at hA hval hsz
  obtain ⟨v0, vs0, d0, ds0, p0, q0, hargs, rfl, rfl, h0, r0⟩ := trodAll_cons hA
  obtain ⟨rfl, rfl, rfl⟩ := trodAll_nil r0
  obtain rfl : args = #[v0] := by cases args; simp_all
  obtain ⟨rfl, rfl⟩ := trodVars_none hV
  have k0 := h0
  have lt0 : ∀ x ∈ p0, x.block < W.heap.size := by obtain ⟨m, hm⟩ := k0; exact DataW.trod_lt m _ _ _ hm
  obtain ⟨x0_0, x0_1, w0⟩ := open_framesR (hval 0 28 v0 rfl rfl) h0 (fits_at hsz (j := 0) rfl rfl)
  clear hA0 hval0
  refine (walk W v0 x0_0 x0_1 w0).mono fun e W' ⟨he, bel⟩ => ?_
  subst he
  exact ⟨_, rfl, _, _, _, [], _, [], hW', trodAll_mk1 (shut_bool Try.underlying4 _), (trodAll_cons_mk (Below.trod Facts.laidOut (by kernel_rfl) (of_decide_eq_true (by kernel_rfl)) k0 bel lt0) trodAll_mk0), rfl, bel.frame _, fun h => by cases h⟩

theorem closed : joinedFacts Try.prog 11 Try.f11 Rows.framesCopiesSpec Rows.framesCopiesRow = true := by
  unfold joinedFacts
  rw [Facts.enters, Facts.lifts, Facts.made]
  kernel_rfl

theorem over : Rows.framesCopiesRow.holds Try.pinned (OpenSpec.ofChange Rows.framesCopiesSpec) :=
  OpenClaim.holds_of_wide 11 Try.f11 rfl rfl rfl rfl rfl rfl rfl ⟨rfl, rfl, rfl, rfl, rfl⟩ rfl rfl rfl rfl rfl (by kernel_rfl) Try.func11 closed
    (of_decide_eq_true (by kernel_rfl)) (by unfold Func.isWrapper; first | (rw [if_pos (by decide +kernel)]; kernel_rfl) | (rw [if_neg (by decide +kernel)]; exact ⟨rfl, rfl⟩))
    (fun os started H enc _ => lifted os started H enc)

theorem proved : Rows.FramesCopiesSaid := over
#print axioms proved
end Go.Proofs.Ytfgiiaaghllfcaa.lFramesCopies
