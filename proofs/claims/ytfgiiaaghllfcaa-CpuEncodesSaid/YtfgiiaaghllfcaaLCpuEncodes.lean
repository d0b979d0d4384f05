/- The law hourglasslaw.CpuEncodes returns true at every instruction. No condition. -/
import Derived.Test.YtfgiiaaghllfcaaRows
import Derived.Test.YtfgiiaaghllfcaaOpen
import Derived.Test.YtfgiiaaghllfcaaFacts
import Derived.WalkKit
import Derived.ProofKit
import Derived.OpenShut
import Derived.ShutString
import Derived.ChangeOld
import Derived.Below
import Derived.Test.YtfgiiaaghllfcaaCpu2
namespace Go.Proofs.Ytfgiiaaghllfcaa.lCpuEncodes
open Go Go.RowKit Go.ChangeShapes Go.WideShapes Go.ChangeAt
open Go.ChangeMaps (open_string shut_string)
set_option linter.unusedVariables false

theorem walk (W : World) (v : Value) (a b c d : Int) (hv : InstrR v a b c d) : Calls Try.prog 12 #[v] W fun e W' => e = .returned (.bool true) ∧ Below W.heap.size W W' := by
  obtain ⟨rfl, _⟩ := hv
  go_enter Try.func12, Try.ntmps12
  go_wp2_with fail
  refine (encode_any _ _ _ _ _).mono ?_
  rintro e w1 ⟨rfl, hb1⟩
  have c0 : w1.cell? ⟨W.heap.size, 0, none⟩ = some (.int .i64 a) := by rw [same_below hb1 _ _ (by simp)]; exact cell_block (alloc_at rfl) 0
  have c1 : w1.cell? ⟨W.heap.size, 1, none⟩ = some (.int .i64 b) := by rw [same_below hb1 _ _ (by simp)]; exact cell_block (alloc_at rfl) 1
  have c2 : w1.cell? ⟨W.heap.size, 2, none⟩ = some (.int .i64 c) := by rw [same_below hb1 _ _ (by simp)]; exact cell_block (alloc_at rfl) 2
  have c3 : w1.cell? ⟨W.heap.size, 3, none⟩ = some (.int .i64 d) := by rw [same_below hb1 _ _ (by simp)]; exact cell_block (alloc_at rfl) 3
  go_wp2_with fail
  refine (wordOf_any _ _ _ _ _).mono ?_
  rintro e w2 ⟨rfl, hb2⟩
  have hz := hb1.size
  have hB := (below_alloc W (.cells #[.int .i64 a, .int .i64 b, .int .i64 c, .int .i64 d] 41)).trans ((hb1.mono (by simp)).trans (hb2.mono (by simp at hz; omega)))
  go_wp2
  go_ret
  exact ⟨ret_bool (by simp), hB⟩

set_option maxRecDepth 100000 in
theorem lifted (os : Os) (started : os.Started) (H : Type) (enc : TypeId × Value → H) :
    ReturnsInHanded {} Try.checked os 12 .any (Rows.cpuEncodesSpec.pre6 enc Try.prog Try.f12 Rows.cpuEncodesRow.domain false) (Rows.cpuEncodesSpec.post enc Try.prog Try.f12 false true false false) := by
  refine returnsInHanded_of_change_sized (C := Try.checked) Facts.own started (by kernel_rfl) Try.func12
    (ChangeSpec.witness6 (enc := enc) (C := Try.checked) false ⟨#[], #[.agg #[.int .i64 0, .int .i64 0, .int .i64 0, .int .i64 0]], []⟩ 8 (by kernel_rfl) (by kernel_rfl) (by kernel_rfl) (by kernel_rfl)) ?_
  intro W base args ds gs before hval0 hW hcnd hsz0 _
  have hsz : (DataW.weightsEach Try.prog (Try.f12.params.toList ++ Rows.cpuEncodesSpec.plain.varTypes Try.prog) (ds ++ gs)).all (· ≤ reachBytes) = true := hsz0
  have hval : ∀ (j : Nat) t v, Try.f12.params[j]? = some t → args[j]? = some v → Value.okWide Try.prog W .any base t v := hval0
  have hW' := hW
  obtain ⟨p, q, hA0, hV, rfl, hfz, hnd⟩ := hW
  have hA : DataW.TrodAll enc Try.prog W 0 (fun _ => true) true Try.f12.params.toList args.toList ds p := hA0
  rw [Try.params12] at hA hval hsz
  obtain ⟨v0, vs0, d0, ds0, p0, q0, hargs, rfl, rfl, h0, r0⟩ := trodAll_cons hA
  obtain ⟨rfl, rfl, rfl⟩ := trodAll_nil r0
  obtain rfl : args = #[v0] := by cases args; simp_all
  obtain ⟨rfl, rfl⟩ := trodVars_none hV
  have k0 := h0
  have lt0 : ∀ x ∈ p0, x.block < W.heap.size := by obtain ⟨m, hm⟩ := k0; exact DataW.trod_lt m _ _ _ hm
  obtain ⟨x0_0, x0_1, x0_2, x0_3, w0⟩ := open_instrR (hval 0 41 v0 rfl rfl) h0 (fits_at hsz (j := 0) rfl rfl)
  clear hA0 hval0
  refine (walk W v0 x0_0 x0_1 x0_2 x0_3 w0).mono fun e W' ⟨he, bel⟩ => ?_
  subst he
  exact ⟨_, rfl, _, _, _, [], _, [], hW', trodAll_mk1 (shut_bool Try.underlying4 _), (trodAll_cons_mk (Below.trod Facts.laidOut (by kernel_rfl) (of_decide_eq_true (by kernel_rfl)) k0 bel lt0) trodAll_mk0), rfl, bel.frame _, fun h => by cases h⟩

theorem closed : joinedFacts Try.prog 12 Try.f12 Rows.cpuEncodesSpec Rows.cpuEncodesRow = true := by
  unfold joinedFacts
  rw [Facts.enters, Facts.lifts, Facts.made]
  kernel_rfl

theorem over : Rows.cpuEncodesRow.holds Try.pinned (OpenSpec.ofChange Rows.cpuEncodesSpec) :=
  OpenClaim.holds_of_wide 12 Try.f12 rfl rfl rfl rfl rfl rfl rfl ⟨rfl, rfl, rfl, rfl, rfl⟩ rfl rfl rfl rfl rfl (by kernel_rfl) Try.func12 closed
    (of_decide_eq_true (by kernel_rfl)) (by unfold Func.isWrapper; first | (rw [if_pos (by decide +kernel)]; kernel_rfl) | (rw [if_neg (by decide +kernel)]; exact ⟨rfl, rfl⟩))
    (fun os started H enc _ => lifted os started H enc)

theorem proved : Rows.CpuEncodesSaid := over
#print axioms proved
end Go.Proofs.Ytfgiiaaghllfcaa.lCpuEncodes
