/- The law hourglasslaw.FramesChecks returns true at every frames. No condition. -/
import Derived.Test.YtfgiiaaghllfcaaRows
import Derived.Test.YtfgiiaaghllfcaaOpen
import Derived.Test.YtfgiiaaghllfcaaFacts
import Derived.WalkKit
import Derived.ProofKit
import Derived.OpenShut
import Derived.ShutString
import Derived.ChangeOld
import Derived.Below
import Derived.Test.YtfgiiaaghllfcaaFr3
namespace Go.Proofs.Ytfgiiaaghllfcaa.lFramesChecks
open Go Go.RowKit Go.ChangeShapes Go.WideShapes Go.ChangeAt
open Go.ChangeMaps (open_string shut_string)
set_option linter.unusedVariables false

theorem walk (W : World) (v : Value) (rs : List (List Int)) (zs : List Int) (hv : FramesR W.heap.size W v rs zs) : Calls Try.prog 7 #[v] W fun e W' => e = .returned (.bool true) ∧ Below W.heap.size W W' := by
  obtain ⟨a, c, a', c', hs⟩ := hv.shape
  subst hs
  have HV := Lib.hid hv
  clear hv
  go_enter Try.func7, Try.ntmps7
  go_wp2_with fail
  refine (fcheck_any _ rs zs _ (HV.out.to (by simp) (same_alloc _ _))).mono ?_
  rintro e w1 ⟨he, hb1⟩
  have s1 := hb1.size
  simp only [World.size_alloc] at s1
  have c0 : w1.cell? ⟨W.heap.size, 0, none⟩ = some (.slice a rs.length c) := by rw [same_below hb1 _ _ (by simp)]; exact cell_block (alloc_at rfl) 0
  have c1 : w1.cell? ⟨W.heap.size, 1, none⟩ = some (.slice a' zs.length c') := by rw [same_below hb1 _ _ (by simp)]; exact cell_block (alloc_at rfl) 1
  have HV1 := Lib.hid (HV.out.to (B' := w1.heap.size) (by omega) ((same_alloc W (.cells #[.slice a rs.length c, .slice a' zs.length c'] 28)).trans ((same_below hb1).mono (by simp))))
  have hB := fun (w2 : World) (h : Below w1.heap.size w1 w2) => (below_alloc W (.cells #[.slice a rs.length c, .slice a' zs.length c'] 28)).trans ((hb1.mono (by simp)).trans (h.mono (by omega)))
  have HB := Lib.hid hB
  clear hB hb1
  rcases he with ⟨hok, rfl⟩ | ⟨hok, rfl⟩
  · go_wp2_with fail
    refine (fmay_any _ rs zs _ HV1.out).mono ?_
    rintro e w2 ⟨⟨_, rfl⟩ | ⟨hno, rfl⟩, hb2⟩
    · go_wp2
      go_ret
      exact ⟨rfl, HB.out w2 hb2⟩
    · exact absurd hok hno
  · go_wp2_with fail
    refine (fmay_any _ rs zs _ HV1.out).mono ?_
    rintro e w2 ⟨⟨hyes, rfl⟩ | ⟨_, rfl⟩, hb2⟩
    · exact absurd hyes hok
    · go_wp2
      go_ret
      exact ⟨rfl, HB.out w2 hb2⟩

set_option maxRecDepth 100000 in
theorem lifted (os : Os) (started : os.Started) (H : Type) (enc : TypeId × Value → H) :
    ReturnsInHanded {} Try.checked os 7 .any (Rows.framesChecksSpec.pre6 enc Try.prog Try.f7 Rows.framesChecksRow.domain false) (Rows.framesChecksSpec.post enc Try.prog Try.f7 false true false false) := by
  refine returnsInHanded_of_change_sized (C := Try.checked) Facts.own started (by kernel_rfl) Try.func7
    (ChangeSpec.witness6 (enc := enc) (C := Try.checked) false ⟨#[], #[.agg #[.slice none 0 0, .slice none 0 0]], []⟩ 8 (by kernel_rfl) (by kernel_rfl) (by kernel_rfl) (by kernel_rfl)) ?_
  intro W base args ds gs before hval0 hW hcnd hsz0 _
  have hsz : (DataW.weightsEach Try.prog (Try.f7.params.toList ++ Rows.framesChecksSpec.plain.varTypes Try.prog) (ds ++ gs)).all (· ≤ reachBytes) = true := hsz0
  have hval : ∀ (j : Nat) t v, Try.f7.params[j]? = some t → args[j]? = some v → Value.okWide Try.prog W .any base t v := hval0
  have hW' := hW
  obtain ⟨p, q, hA0, hV, rfl, hfz, hnd⟩ := hW
  have hA : DataW.TrodAll enc Try.prog W 0 (fun _ => true) true Try.f7.params.toList args.toList ds p := hA0
  rw [Try.params7] at hA hval hsz
  obtain ⟨v0, vs0, d0, ds0, p0, q0, hargs, rfl, rfl, h0, r0⟩ := trodAll_cons hA
  obtain ⟨rfl, rfl, rfl⟩ := trodAll_nil r0
  obtain rfl : args = #[v0] := by cases args; simp_all
  obtain ⟨rfl, rfl⟩ := trodVars_none hV
  have k0 := h0
  have lt0 : ∀ x ∈ p0, x.block < W.heap.size := by obtain ⟨m, hm⟩ := k0; exact DataW.trod_lt m _ _ _ hm
  obtain ⟨x0_0, x0_1, w0⟩ := open_framesR (hval 0 28 v0 rfl rfl) h0 (fits_at hsz (j := 0) rfl rfl)
  clear hA0 hval0
  refine (walk W v0 x0_0 x0_1 w0).mono fun e W' ⟨he, bel⟩ => ?_
  subst he
  exact ⟨_, rfl, _, _, _, [], _, [], hW', trodAll_mk1 (shut_bool Try.underlying4 _), (trodAll_cons_mk (Below.trod Facts.laidOut (by kernel_rfl) (of_decide_eq_true (by kernel_rfl)) k0 bel lt0) trodAll_mk0), rfl, bel.frame _, fun h => by cases h⟩

theorem closed : joinedFacts Try.prog 7 Try.f7 Rows.framesChecksSpec Rows.framesChecksRow = true := by
  unfold joinedFacts
  rw [Facts.enters, Facts.lifts, Facts.made]
  kernel_rfl

theorem over : Rows.framesChecksRow.holds Try.pinned (OpenSpec.ofChange Rows.framesChecksSpec) :=
  OpenClaim.holds_of_wide 7 Try.f7 rfl rfl rfl rfl rfl rfl rfl ⟨rfl, rfl, rfl, rfl, rfl⟩ rfl rfl rfl rfl rfl (by kernel_rfl) Try.func7 closed
    (of_decide_eq_true (by kernel_rfl)) (by unfold Func.isWrapper; first | (rw [if_pos (by decide +kernel)]; kernel_rfl) | (rw [if_neg (by decide +kernel)]; exact ⟨rfl, rfl⟩))
    (fun os started H enc _ => lifted os started H enc)

theorem proved : Rows.FramesChecksSaid := over
#print axioms proved
end Go.Proofs.Ytfgiiaaghllfcaa.lFramesChecks
