/- The law hourglasslaw.FramesNew returns true at every number, and leaves memory that was there alone. No condition. -/
import Derived.Test.YtfgiiaaghllfcaaRows
import Derived.Test.YtfgiiaaghllfcaaOpen
import Derived.Test.YtfgiiaaghllfcaaFacts
import Derived.WalkKit
import Derived.ProofKit
import Derived.OpenShut
import Derived.ShutString
import Derived.ChangeOld
import Derived.Below
import Derived.Test.YtfgiiaaghllfcaaFr2
namespace Go.Proofs.Ytfgiiaaghllfcaa.lFramesNew
open Go Go.RowKit Go.ChangeShapes Go.WideShapes Go.ChangeAt
open Go.ChangeMaps (open_string shut_string)
set_option linter.unusedVariables false

theorem step (n : Int) (W : World) (rs : List (List Int)) (zs : List Int) (er : Int) (h1 : ∀ w, Calls Try.prog 32 #[.int .i64 n] w (RetF w rs zs er)) (h2 : ∀ w, Calls Try.prog 33 #[.int .i64 n] w (RetF w rs zs er)) :
    Calls Try.prog 4 #[.int .i64 n] W fun e W' => e = .returned (.bool true) ∧ Below W.heap.size W W' := by
  have H1 := Lib.hid h1
  have H2 := Lib.hid h2
  clear h1 h2
  go_enter Try.func4, Try.ntmps4
  go_wp2_with fail
  refine (H1.out _).mono ?_
  rintro e w1 ⟨v1, rfl, hf1, hb1⟩
  obtain ⟨a1, c1, a2, c2, hv1⟩ := hf1.shape
  subst hv1
  have Hf1 := Lib.hid hf1
  clear hf1
  go_wp2_with fail
  refine (H2.out _).mono ?_
  rintro e w2 ⟨v2, rfl, hf2, hb2⟩
  obtain ⟨a3, c3, a4, c4, hv2⟩ := hf2.shape
  subst hv2
  have Hf2 := Lib.hid hf2
  clear hf2
  have e0 : w2.cell? ⟨w1.heap.size, 0, none⟩ = some (.slice a1 rs.length c1) := by rw [same_below hb2 _ _ (by simp)]; exact cell_block (alloc_at rfl) 0
  have e1 : w2.cell? ⟨w1.heap.size, 1, none⟩ = some (.slice a2 zs.length c2) := by rw [same_below hb2 _ _ (by simp)]; exact cell_block (alloc_at rfl) 1
  have hz2 := hb2.size
  simp only [World.size_alloc] at hz2
  have hlt : w1.heap.size < w2.heap.size := by omega
  go_wp2_with fail
  refine (sameFrames_yes _ _ rs zs _ ?_ ?_).mono ?_
  · exact (Hf1.out.to (Nat.le_refl _) (same_alloc _ _)).to (by simp; omega) (((same_below hb2).mono (by simp)).trans ((same_alloc _ _).mono (by omega)))
  · exact Hf2.out.to (by simp) (same_alloc _ _)
  rintro e w3 ⟨rfl, hb3⟩
  have hB := hb1.trans (((below_alloc w1 _).mono hb1.size).trans ((hb2.mono (by have := hb1.size; simp; omega)).trans (((below_alloc w2 _).mono (by have := hb1.size; omega)).trans (hb3.mono (by have := hb1.size; simp; omega)))))
  go_wp2
  go_ret
  exact ⟨rfl, hB⟩

theorem walk (W : World) (n : Int) (hn : -9223372036854775808 ≤ n ∧ n ≤ 9223372036854775807) : Calls Try.prog 4 #[.int .i64 n] W fun e W' => e = .returned (.bool true) ∧ Below W.heap.size W W' := by
  by_cases h : 0 ≤ n ∧ n ≤ 200
  · exact step n W _ _ 0 (fun w => new_in n w h) (fun w => refNew_in n w h)
  · exact step n W _ _ 2 (fun w => new_out n w (by omega)) (fun w => refNew_out n w h)

set_option maxRecDepth 100000 in
theorem lifted (os : Os) (started : os.Started) (H : Type) (enc : TypeId × Value → H) :
    ReturnsInHanded {} Try.checked os 4 .any (Rows.framesNewSpec.pre6 enc Try.prog Try.f4 Rows.framesNewRow.domain false) (Rows.framesNewSpec.post enc Try.prog Try.f4 false true false false) := by
  refine returnsInHanded_of_change_sized (C := Try.checked) Facts.own started (by kernel_rfl) Try.func4
    (ChangeSpec.witness6 (enc := enc) (C := Try.checked) false ⟨#[], #[.int .i64 0], []⟩ 8 (by kernel_rfl) (by kernel_rfl) (by kernel_rfl) (by kernel_rfl)) ?_
  intro W base args ds gs before hval0 hW hcnd hsz0 _
  have hsz : (DataW.weightsEach Try.prog (Try.f4.params.toList ++ Rows.framesNewSpec.plain.varTypes Try.prog) (ds ++ gs)).all (· ≤ reachBytes) = true := hsz0
  have hval : ∀ (j : Nat) t v, Try.f4.params[j]? = some t → args[j]? = some v → Value.okWide Try.prog W .any base t v := hval0
  have hW' := hW
  obtain ⟨p, q, hA0, hV, rfl, hfz, hnd⟩ := hW
  have hA : DataW.TrodAll enc Try.prog W 0 (fun _ => true) true Try.f4.params.toList args.toList ds p := hA0
  rw [Try.params4] at hA hval hsz
  obtain ⟨v0, vs0, d0, ds0, p0, q0, hargs, rfl, rfl, h0, r0⟩ := trodAll_cons hA
  obtain ⟨rfl, rfl, rfl⟩ := trodAll_nil r0
  obtain rfl : args = #[v0] := by cases args; simp_all
  obtain ⟨rfl, rfl⟩ := trodVars_none hV
  have k0 := h0
  have lt0 : ∀ x ∈ p0, x.block < W.heap.size := by obtain ⟨m, hm⟩ := k0; exact DataW.trod_lt m _ _ _ hm
  obtain ⟨a0, rfl, rfl, rfl, w0⟩ := open_int Try.underlying3 (hval 0 3 v0 rfl rfl) h0
  clear hA0 hval0
  refine (walk W a0 (Go.bounds_i64 w0)).mono fun e W' ⟨he, bel⟩ => ?_
  subst he
  exact ⟨_, rfl, _, _, _, [], _, [], hW', trodAll_mk1 (shut_bool Try.underlying4 _), (trodAll_cons_mk (Below.trod Facts.laidOut (by kernel_rfl) (of_decide_eq_true (by kernel_rfl)) k0 bel lt0) trodAll_mk0), rfl, bel.frame _, fun h => by cases h⟩

theorem closed : joinedFacts Try.prog 4 Try.f4 Rows.framesNewSpec Rows.framesNewRow = true := by
  unfold joinedFacts
  rw [Facts.enters, Facts.lifts, Facts.made]
  kernel_rfl

theorem over : Rows.framesNewRow.holds Try.pinned (OpenSpec.ofChange Rows.framesNewSpec) :=
  OpenClaim.holds_of_wide 4 Try.f4 rfl rfl rfl rfl rfl rfl rfl ⟨rfl, rfl, rfl, rfl, rfl⟩ rfl rfl rfl rfl rfl (by kernel_rfl) Try.func4 closed
    (of_decide_eq_true (by kernel_rfl)) (by unfold Func.isWrapper; first | (rw [if_pos (by decide +kernel)]; kernel_rfl) | (rw [if_neg (by decide +kernel)]; exact ⟨rfl, rfl⟩))
    (fun os started H enc _ => lifted os started H enc)

theorem proved : Rows.FramesNewSaid := over
#print axioms proved
end Go.Proofs.Ytfgiiaaghllfcaa.lFramesNew
