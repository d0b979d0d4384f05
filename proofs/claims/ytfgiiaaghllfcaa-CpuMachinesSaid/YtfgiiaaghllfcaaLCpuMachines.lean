/- The law hourglasslaw.CpuMachines returns true at every machine. No condition. -/
import Derived.Test.YtfgiiaaghllfcaaRows
import Derived.Test.YtfgiiaaghllfcaaOpen
import Derived.Test.YtfgiiaaghllfcaaFacts
import Derived.WalkKit
import Derived.ProofKit
import Derived.OpenShut
import Derived.ShutString
import Derived.ChangeOld
import Derived.Below
import Derived.Test.YtfgiiaaghllfcaaCm
namespace Go.Proofs.Ytfgiiaaghllfcaa.lCpuMachines
open Go Go.RowKit Go.ChangeShapes Go.WideShapes Go.ChangeAt
open Go.ChangeMaps (open_string shut_string)
set_option linter.unusedVariables false

set_option maxHeartbeats 1000000 in
theorem walk (W : World) (v : Value) (m : Mach) (hv : MachR W.heap.size W v m ∧ I64 m.pc ∧ I64 m.back ∧ I64 m.table ∧ I64 m.count ∧ I64 m.fin ∧ I64 m.ready ∧ I64 m.want) : Calls Try.prog 14 #[v] W fun e W' => e = .returned (.bool true) ∧ Below W.heap.size W W' := by
  obtain ⟨⟨ar, cr, am, cm, ao, co, rfl, hr, hm, ho⟩, _⟩ := hv
  have HR := Lib.hid hr
  have HM := Lib.hid hm
  have HO := Lib.hid ho
  clear hr hm ho
  have hagg : m.agg (.slice ar m.regs.length cr) (.slice am m.mem.length cm) (.slice ao m.out.length co) = .agg #[.slice ar m.regs.length cr, .int .i64 m.pc, .int .i64 m.back, .bool m.ints, .bool m.wait, .int .i64 m.table, .int .i64 m.count, .int .i64 m.fin, .slice am m.mem.length cm, .slice ao m.out.length co, .int .i64 m.ready, .int .i64 m.want] := rfl
  rw [hagg]
  clear hagg
  go_enter Try.func14, Try.ntmps14
  go_wp2_with fail
  refine (mcheck_any m ar am ao cr cm co _ (HR.out.to (by simp) (same_alloc _ _)) (HM.out.to (by simp) (same_alloc _ _)) (HO.out.to (by simp) (same_alloc _ _))).mono ?_
  rintro e w1 ⟨he, hb1⟩
  have s1 := hb1.size
  simp only [World.size_alloc] at s1
  have hx := block_below hb1 (alloc_at rfl) (by simp)
  have q0 : w1.cell? ⟨W.heap.size, 0, none⟩ = some (.slice ar m.regs.length cr) := cell_block hx 0
  have q1 : w1.cell? ⟨W.heap.size, 1, none⟩ = some (.int .i64 m.pc) := cell_block hx 1
  have q2 : w1.cell? ⟨W.heap.size, 2, none⟩ = some (.int .i64 m.back) := cell_block hx 2
  have q3 : w1.cell? ⟨W.heap.size, 3, none⟩ = some (.bool m.ints) := cell_block hx 3
  have q4 : w1.cell? ⟨W.heap.size, 4, none⟩ = some (.bool m.wait) := cell_block hx 4
  have q5 : w1.cell? ⟨W.heap.size, 5, none⟩ = some (.int .i64 m.table) := cell_block hx 5
  have q6 : w1.cell? ⟨W.heap.size, 6, none⟩ = some (.int .i64 m.count) := cell_block hx 6
  have q7 : w1.cell? ⟨W.heap.size, 7, none⟩ = some (.int .i64 m.fin) := cell_block hx 7
  have q8 : w1.cell? ⟨W.heap.size, 8, none⟩ = some (.slice am m.mem.length cm) := cell_block hx 8
  have q9 : w1.cell? ⟨W.heap.size, 9, none⟩ = some (.slice ao m.out.length co) := cell_block hx 9
  have q10 : w1.cell? ⟨W.heap.size, 10, none⟩ = some (.int .i64 m.ready) := cell_block hx 10
  have q11 : w1.cell? ⟨W.heap.size, 11, none⟩ = some (.int .i64 m.want) := cell_block hx 11
  have HB := Lib.hid ((below_alloc W _).trans (hb1.mono (by simp)))
  clear hx hb1
  rcases he with ⟨hok, rfl⟩ | ⟨hok, rfl⟩
  all_goals go_wp2_with fail
  all_goals refine (mmay_any m ar am ao cr cm co _ (HR.out.to (by omega) (same_below HB.out)) (HM.out.to (by omega) (same_below HB.out)) (HO.out.to (by omega) (same_below HB.out))).mono ?_
  all_goals rintro e w2 ⟨⟨hok2, rfl⟩ | ⟨hok2, rfl⟩, hb2⟩
  all_goals first | exact absurd hok hok2 | exact absurd hok2 hok | skip
  all_goals have hB := HB.out.trans (hb2.mono (by omega))
  all_goals go_wp2
  all_goals go_ret
  all_goals exact ⟨rfl, hB⟩

set_option maxRecDepth 100000 in
theorem lifted (os : Os) (started : os.Started) (H : Type) (enc : TypeId × Value → H) :
    ReturnsInHanded {} Try.checked os 14 .any (Rows.cpuMachinesSpec.pre6 enc Try.prog Try.f14 Rows.cpuMachinesRow.domain false) (Rows.cpuMachinesSpec.post enc Try.prog Try.f14 false true false false) := by
  refine returnsInHanded_of_change_sized (C := Try.checked) Facts.own started (by kernel_rfl) Try.func14
    (ChangeSpec.witness6 (enc := enc) (C := Try.checked) false ⟨#[], #[.agg #[.slice none 0 0, .int .i64 0, .int .i64 0, .bool false, .bool false, .int .i64 0, .int .i64 0, .int .i64 0, .slice none 0 0, .slice none 0 0, .int .i64 0, .int .i64 0]], []⟩ 8 (by kernel_rfl) (by kernel_rfl) (by kernel_rfl) (by kernel_rfl)) ?_
  intro W base args ds gs before hval0 hW hcnd hsz0 _
  have hsz : (DataW.weightsEach Try.prog (Try.f14.params.toList ++ Rows.cpuMachinesSpec.plain.varTypes Try.prog) (ds ++ gs)).all (· ≤ reachBytes) = true := hsz0
  have hval : ∀ (j : Nat) t v, Try.f14.params[j]? = some t → args[j]? = some v → Value.okWide Try.prog W .any base t v := hval0
  have hW' := hW
  obtain ⟨p, q, hA0, hV, rfl, hfz, hnd⟩ := hW
  have hA : DataW.TrodAll enc Try.prog W 0 (fun _ => true) true Try.f14.params.toList args.toList ds p := hA0
  rw [Try.params14] at hA hval hsz
  obtain ⟨v0, vs0, d0, ds0, p0, q0, hargs, rfl, rfl, h0, r0⟩ := trodAll_cons hA
  obtain ⟨rfl, rfl, rfl⟩ := trodAll_nil r0
  obtain rfl : args = #[v0] := by cases args; simp_all
  obtain ⟨rfl, rfl⟩ := trodVars_none hV
  have k0 := h0
  have lt0 : ∀ x ∈ p0, x.block < W.heap.size := by obtain ⟨m, hm⟩ := k0; exact DataW.trod_lt m _ _ _ hm
  obtain ⟨x0_0, w0⟩ := open_machR (hval 0 45 v0 rfl rfl) h0 (fits_at hsz (j := 0) rfl rfl)
  clear hA0 hval0
  refine (walk W v0 x0_0 w0).mono fun e W' ⟨he, bel⟩ => ?_
  subst he
  exact ⟨_, rfl, _, _, _, [], _, [], hW', trodAll_mk1 (shut_bool Try.underlying4 _), (trodAll_cons_mk (Below.trod Facts.laidOut (by kernel_rfl) (of_decide_eq_true (by kernel_rfl)) k0 bel lt0) trodAll_mk0), rfl, bel.frame _, fun h => by cases h⟩

theorem closed : joinedFacts Try.prog 14 Try.f14 Rows.cpuMachinesSpec Rows.cpuMachinesRow = true := by
  unfold joinedFacts
  rw [Facts.enters, Facts.lifts, Facts.made]
  kernel_rfl

theorem over : Rows.cpuMachinesRow.holds Try.pinned (OpenSpec.ofChange Rows.cpuMachinesSpec) :=
  OpenClaim.holds_of_wide 14 Try.f14 rfl rfl rfl rfl rfl rfl rfl ⟨rfl, rfl, rfl, rfl, rfl⟩ rfl rfl rfl rfl rfl (by kernel_rfl) Try.func14 closed
    (of_decide_eq_true (by kernel_rfl)) (by unfold Func.isWrapper; first | (rw [if_pos (by decide +kernel)]; kernel_rfl) | (rw [if_neg (by decide +kernel)]; exact ⟨rfl, rfl⟩))
    (fun os started H enc _ => lifted os started H enc)

theorem proved : Rows.CpuMachinesSaid := over
#print axioms proved
end Go.Proofs.Ytfgiiaaghllfcaa.lCpuMachines
