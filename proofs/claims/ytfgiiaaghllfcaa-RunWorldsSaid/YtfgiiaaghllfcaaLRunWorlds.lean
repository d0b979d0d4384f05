/- The law hourglasslaw.RunWorlds returns true at every world. No condition. -/
import Derived.Test.YtfgiiaaghllfcaaRows
import Derived.Test.YtfgiiaaghllfcaaOpen
import Derived.Test.YtfgiiaaghllfcaaFacts
import Derived.WalkKit
import Derived.ProofKit
import Derived.OpenShut
import Derived.ShutString
import Derived.ChangeOld
import Derived.Below
import Derived.Test.YtfgiiaaghllfcaaRv
namespace Go.Proofs.Ytfgiiaaghllfcaa.lRunWorlds
open Go Go.RowKit Go.ChangeShapes Go.WideShapes Go.ChangeAt
open Go.ChangeMaps (open_string shut_string)
set_option linter.unusedVariables false

set_option maxHeartbeats 1000000 in
theorem walk (W : World) (v : Value) (is vs : List Int) (bs : List (List Int)) (ds : List Int) (hv : WorldR W.heap.size W v is vs bs ds) : Calls Try.prog 18 #[v] W fun e W' => e = .returned (.bool true) ∧ Below W.heap.size W W' := by
  obtain ⟨v0, v1, v2, v3, rfl, h0, h1, h2, h3⟩ := hv
  obtain ⟨a0, c0, e0, _⟩ := id h0
  obtain ⟨a1, c1, e1, _⟩ := id h1
  obtain ⟨a2, c2, e2, _⟩ := id h2
  obtain ⟨a3, c3, e3, _⟩ := id h3
  subst e0 e1 e2 e3
  have H0 := Lib.hid h0
  have H1 := Lib.hid h1
  have H2 := Lib.hid h2
  have H3 := Lib.hid h3
  clear h0 h1 h2 h3
  go_enter Try.func18, Try.ntmps18
  go_wp2_with fail
  refine (wcheck_any a0 a1 a2 a3 c0 c1 c2 c3 is vs bs ds _ (H0.out.to (by simp) (same_alloc _ _)) (H1.out.to (by simp) (same_alloc _ _)) (H2.out.to (by simp) (same_alloc _ _)) (H3.out.to (by simp) (same_alloc _ _))).mono ?_
  rintro e w1 ⟨rfl, hb1⟩
  have s1 := hb1.size
  simp only [World.size_alloc] at s1
  have hx := block_below hb1 (alloc_at rfl) (by simp)
  have q0 : w1.cell? ⟨W.heap.size, 0, none⟩ = some (.slice a0 is.length c0) := cell_block hx 0
  have q1 : w1.cell? ⟨W.heap.size, 1, none⟩ = some (.slice a1 vs.length c1) := cell_block hx 1
  have q2 : w1.cell? ⟨W.heap.size, 2, none⟩ = some (.slice a2 bs.length c2) := cell_block hx 2
  have q3 : w1.cell? ⟨W.heap.size, 3, none⟩ = some (.slice a3 ds.length c3) := cell_block hx 3
  have HB := Lib.hid ((below_alloc W _).trans (hb1.mono (by simp)))
  clear hx hb1
  go_wp2_with fail
  refine (wfault_any a0 a1 a2 a3 c0 c1 c2 c3 is vs bs ds _ (H0.out.to (by omega) (same_below HB.out)) (H1.out.to (by omega) (same_below HB.out)) (H2.out.to (by omega) (same_below HB.out)) (H3.out.to (by omega) (same_below HB.out))).mono ?_
  rintro e w2 ⟨rfl, hb2⟩
  have hB := HB.out.trans (hb2.mono (by omega))
  go_wp2
  go_ret
  exact ⟨ret_bool (by simp), hB⟩

set_option maxRecDepth 100000 in
theorem lifted (os : Os) (started : os.Started) (H : Type) (enc : TypeId × Value → H) :
    ReturnsInHanded {} Try.checked os 18 .any (Rows.runWorldsSpec.pre6 enc Try.prog Try.f18 Rows.runWorldsRow.domain false) (Rows.runWorldsSpec.post enc Try.prog Try.f18 false true false false) := by
  refine returnsInHanded_of_change_sized (C := Try.checked) Facts.own started (by kernel_rfl) Try.func18
    (ChangeSpec.witness6 (enc := enc) (C := Try.checked) false ⟨#[], #[.agg #[.slice none 0 0, .slice none 0 0, .slice none 0 0, .slice none 0 0]], []⟩ 8 (by kernel_rfl) (by kernel_rfl) (by kernel_rfl) (by kernel_rfl)) ?_
  intro W base args ds gs before hval0 hW hcnd hsz0 _
  have hsz : (DataW.weightsEach Try.prog (Try.f18.params.toList ++ Rows.runWorldsSpec.plain.varTypes Try.prog) (ds ++ gs)).all (· ≤ reachBytes) = true := hsz0
  have hval : ∀ (j : Nat) t v, Try.f18.params[j]? = some t → args[j]? = some v → Value.okWide Try.prog W .any base t v := hval0
  have hW' := hW
  obtain ⟨p, q, hA0, hV, rfl, hfz, hnd⟩ := hW
  have hA : DataW.TrodAll enc Try.prog W 0 (fun _ => true) true Try.f18.params.toList args.toList ds p := hA0
  rw [Try.params18] at hA hval hsz
  obtain ⟨v0, vs0, d0, ds0, p0, q0, hargs, rfl, rfl, h0, r0⟩ := trodAll_cons hA
  obtain ⟨rfl, rfl, rfl⟩ := trodAll_nil r0
  obtain rfl : args = #[v0] := by cases args; simp_all
  obtain ⟨rfl, rfl⟩ := trodVars_none hV
  have k0 := h0
  have lt0 : ∀ x ∈ p0, x.block < W.heap.size := by obtain ⟨m, hm⟩ := k0; exact DataW.trod_lt m _ _ _ hm
  obtain ⟨x0_0, x0_1, x0_2, x0_3, w0⟩ := open_worldR (hval 0 70 v0 rfl rfl) h0 (fits_at hsz (j := 0) rfl rfl)
  clear hA0 hval0
  refine (walk W v0 x0_0 x0_1 x0_2 x0_3 w0).mono fun e W' ⟨he, bel⟩ => ?_
  subst he
  exact ⟨_, rfl, _, _, _, [], _, [], hW', trodAll_mk1 (shut_bool Try.underlying4 _), (trodAll_cons_mk (Below.trod Facts.laidOut (by kernel_rfl) (of_decide_eq_true (by kernel_rfl)) k0 bel lt0) trodAll_mk0), rfl, bel.frame _, fun h => by cases h⟩

theorem closed : joinedFacts Try.prog 18 Try.f18 Rows.runWorldsSpec Rows.runWorldsRow = true := by
  unfold joinedFacts
  rw [Facts.enters, Facts.lifts, Facts.made]
  kernel_rfl

theorem over : Rows.runWorldsRow.holds Try.pinned (OpenSpec.ofChange Rows.runWorldsSpec) :=
  OpenClaim.holds_of_wide 18 Try.f18 rfl rfl rfl rfl rfl rfl rfl ⟨rfl, rfl, rfl, rfl, rfl⟩ rfl rfl rfl rfl rfl (by kernel_rfl) Try.func18 closed
    (of_decide_eq_true (by kernel_rfl)) (by unfold Func.isWrapper; first | (rw [if_pos (by decide +kernel)]; kernel_rfl) | (rw [if_neg (by decide +kernel)]; exact ⟨rfl, rfl⟩))
    (fun os started H enc _ => lifted os started H enc)

theorem proved : Rows.RunWorldsSaid := over
#print axioms proved
end Go.Proofs.Ytfgiiaaghllfcaa.lRunWorlds
