/- The law hourglasslaw.CpuDecodes returns true at every word. No condition. -/
import Derived.Test.YtfgiiaaghllfcaaRows
import Derived.Test.YtfgiiaaghllfcaaOpen
import Derived.Test.YtfgiiaaghllfcaaFacts
import Derived.WalkKit
import Derived.ProofKit
import Derived.OpenShut
import Derived.ShutString
import Derived.ChangeOld
import Derived.Below
import Derived.Test.YtfgiiaaghllfcaaCpu2
namespace Go.Proofs.Ytfgiiaaghllfcaa.lCpuDecodes
open Go Go.RowKit Go.ChangeShapes Go.WideShapes Go.ChangeAt
open Go.ChangeMaps (open_string shut_string)
set_option linter.unusedVariables false

theorem decV_shape (z : Int) : ∃ a b c d : Int, decV z = .agg #[.int .i64 a, .int .i64 b, .int .i64 c, .int .i64 d] := by
  unfold decV
  split
  · exact ⟨_, _, _, _, rfl⟩
  · exact ⟨_, _, _, _, rfl⟩

theorem walk (W : World) (z : Int) (hz : -9223372036854775808 ≤ z ∧ z ≤ 9223372036854775807) : Calls Try.prog 13 #[.int .i64 z] W fun e W' => e = .returned (.bool true) ∧ Below W.heap.size W W' := by
  have H1 := Lib.hid (fun w => decode_any z w hz)
  have H2 := Lib.hid (fun w => instrOf_any z w hz)
  obtain ⟨a, b, c, d, hv⟩ := decV_shape z
  rw [hv] at H1 H2
  clear hv hz
  go_enter Try.func13, Try.ntmps13
  go_wp2_with fail
  refine (H1.out _).mono ?_
  rintro e w1 ⟨rfl, hb1⟩
  go_wp2_with fail
  refine (H2.out _).mono ?_
  rintro e w2 ⟨rfl, hb2⟩
  have s1 := hb1.size
  have s2 := hb2.size
  simp only [World.size_alloc] at s2
  have c0 : w2.cell? ⟨w1.heap.size, 0, none⟩ = some (.int .i64 a) := by rw [same_below hb2 _ _ (by simp)]; exact cell_block (alloc_at rfl) 0
  have c1 : w2.cell? ⟨w1.heap.size, 1, none⟩ = some (.int .i64 b) := by rw [same_below hb2 _ _ (by simp)]; exact cell_block (alloc_at rfl) 1
  have c2 : w2.cell? ⟨w1.heap.size, 2, none⟩ = some (.int .i64 c) := by rw [same_below hb2 _ _ (by simp)]; exact cell_block (alloc_at rfl) 2
  have c3 : w2.cell? ⟨w1.heap.size, 3, none⟩ = some (.int .i64 d) := by rw [same_below hb2 _ _ (by simp)]; exact cell_block (alloc_at rfl) 3
  have hlt : w1.heap.size < w2.heap.size := by omega
  have hB := hb1.trans (((below_alloc w1 (.cells #[.int .i64 a, .int .i64 b, .int .i64 c, .int .i64 d] 41)).mono s1).trans ((hb2.mono (by simp; omega)).trans ((below_alloc w2 (.cells #[.int .i64 a, .int .i64 b, .int .i64 c, .int .i64 d] 41)).mono (by omega))))
  go_wp2
  go_ret
  exact ⟨rfl, hB⟩

set_option maxRecDepth 100000 in
theorem lifted (os : Os) (started : os.Started) (H : Type) (enc : TypeId × Value → H) :
    ReturnsInHanded {} Try.checked os 13 .any (Rows.cpuDecodesSpec.pre6 enc Try.prog Try.f13 Rows.cpuDecodesRow.domain false) (Rows.cpuDecodesSpec.post enc Try.prog Try.f13 false true false false) := by
  refine returnsInHanded_of_change_sized (C := Try.checked) Facts.own started (by kernel_rfl) Try.func13
    (ChangeSpec.witness6 (enc := enc) (C := Try.checked) false ⟨#[], #[.int .i64 0], []⟩ 8 (by kernel_rfl) (by kernel_rfl) (by kernel_rfl) (by kernel_rfl)) ?_
  intro W base args ds gs before hval0 hW hcnd hsz0 _
  have hsz : (DataW.weightsEach Try.prog (Try.f13.params.toList ++ Rows.cpuDecodesSpec.plain.varTypes Try.prog) (ds ++ gs)).all (· ≤ reachBytes) = true := hsz0
  have hval : ∀ (j : Nat) t v, Try.f13.params[j]? = some t → args[j]? = some v → Value.okWide Try.prog W .any base t v := hval0
  have hW' := hW
  obtain ⟨p, q, hA0, hV, rfl, hfz, hnd⟩ := hW
  have hA : DataW.TrodAll enc Try.prog W 0 (fun _ => true) true Try.f13.params.toList args.toList ds p := hA0
  rw [Try.params13] at hA hval hsz
  obtain ⟨v0, vs0, d0, ds0, p0, q0, hargs, rfl, rfl, h0, r0⟩ := trodAll_cons hA
  obtain ⟨rfl, rfl, rfl⟩ := trodAll_nil r0
  obtain rfl : args = #[v0] := by cases args; simp_all
  obtain ⟨rfl, rfl⟩ := trodVars_none hV
  have k0 := h0
  have lt0 : ∀ x ∈ p0, x.block < W.heap.size := by obtain ⟨m, hm⟩ := k0; exact DataW.trod_lt m _ _ _ hm
  obtain ⟨a0, rfl, rfl, rfl, w0⟩ := open_int Try.underlying3 (hval 0 3 v0 rfl rfl) h0
  clear hA0 hval0
  refine (walk W a0 (Go.bounds_i64 w0)).mono fun e W' ⟨he, bel⟩ => ?_
  subst he
  exact ⟨_, rfl, _, _, _, [], _, [], hW', trodAll_mk1 (shut_bool Try.underlying4 _), (trodAll_cons_mk (Below.trod Facts.laidOut (by kernel_rfl) (of_decide_eq_true (by kernel_rfl)) k0 bel lt0) trodAll_mk0), rfl, bel.frame _, fun h => by cases h⟩

theorem closed : joinedFacts Try.prog 13 Try.f13 Rows.cpuDecodesSpec Rows.cpuDecodesRow = true := by
  unfold joinedFacts
  rw [Facts.enters, Facts.lifts, Facts.made]
  kernel_rfl

theorem over : Rows.cpuDecodesRow.holds Try.pinned (OpenSpec.ofChange Rows.cpuDecodesSpec) :=
  OpenClaim.holds_of_wide 13 Try.f13 rfl rfl rfl rfl rfl rfl rfl ⟨rfl, rfl, rfl, rfl, rfl⟩ rfl rfl rfl rfl rfl (by kernel_rfl) Try.func13 closed
    (of_decide_eq_true (by kernel_rfl)) (by unfold Func.isWrapper; first | (rw [if_pos (by decide +kernel)]; kernel_rfl) | (rw [if_neg (by decide +kernel)]; exact ⟨rfl, rfl⟩))
    (fun os started H enc _ => lifted os started H enc)

theorem proved : Rows.CpuDecodesSaid := over
#print axioms proved
end Go.Proofs.Ytfgiiaaghllfcaa.lCpuDecodes
