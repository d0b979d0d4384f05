/- The law hourglasskeep.InstrBack returns true at every raw thing. No condition. -/
import Derived.Test.YtneeimfffoomgaaRows
import Derived.Test.YtneeimfffoomgaaOpen
import Derived.Test.YtneeimfffoomgaaFacts
import Derived.WalkKit
import Derived.ProofKit
import Derived.OpenShut
import Derived.ShutString
import Derived.ChangeOld
import Derived.Below
import Derived.Test.YtneeimfffoomgaaIn
import Derived.Laws.StructEq
namespace Go.Proofs.Ytneeimfffoomgaa.lInstrBack
open Go Go.RowKit Go.ChangeShapes Go.WideShapes Go.ChangeAt
open Go.ChangeMaps (open_string shut_string)
set_option linter.unusedVariables false

theorem parts {op a b n : Int} (h : iCode op a b n = 0) : decOp (wordZ op a b n) = op ∧ decA (wordZ op a b n) = a ∧ decB (wordZ op a b n) = b ∧ decN (wordZ op a b n) = n := by
  obtain ⟨h1, h2, h3, h4, h5, h6, h7, h8⟩ := iCode_rng h
  unfold decOp decA decB decN wordZ
  refine ⟨?_, ?_, ?_, ?_⟩ <;> omega
theorem back {op a b n : Int} (h : iCode op a b n = 0) : decC (wordZ op a b n) = 0 ∧ decV (wordZ op a b n) = .agg #[.int .i64 op, .int .i64 a, .int .i64 b, .int .i64 n] := by
  obtain ⟨h1, h2, h3, h4⟩ := parts h
  have hc : decC (wordZ op a b n) = 0 := by unfold decC; rw [h1, h2, h3, h4]; exact h
  refine ⟨hc, ?_⟩
  unfold decV
  rw [if_pos hc, h1, h2, h3, h4]
theorem rng {op a b n : Int} (h : iCode op a b n = 0) : -9223372036854775808 ≤ wordZ op a b n ∧ wordZ op a b n ≤ 9223372036854775807 := by
  obtain ⟨h1, h2, h3, h4, h5, h6, h7, h8⟩ := iCode_rng h
  unfold wordZ
  omega

set_option maxHeartbeats 4000000 in
set_option maxRecDepth 100000 in
theorem walk (W : World) (v : Value) (k a b c : Int) (hv : RawR v k a b c) : Calls Try.prog 5 #[v] W fun e W' => e = .returned (.bool true) ∧ Below W.heap.size W W' := by
  have HI := Lib.hid (fun w => instr_any v k a b c w hv)
  obtain ⟨rfl, _⟩ := hv
  go_enter Try.func5, Try.ntmps5
  go_wp2_with fail
  refine (HI.out _).mono ?_
  rintro e w1 ⟨op, a1, b1, n, rfl, hcode, hb1⟩
  have HE := Lib.hid (fun w => encode_any op a1 b1 n w)
  rw [hcode, show encZ op a1 b1 n = wordZ op a1 b1 n by unfold encZ; rw [if_pos hcode]] at HE
  have HD := Lib.hid (fun w => decode_any (wordZ op a1 b1 n) w (rng hcode))
  rw [(back hcode).1, (back hcode).2] at HD
  have HC := Lib.hid (fun w => icheck_any op a1 b1 n w)
  rw [hcode] at HC
  generalize wordZ op a1 b1 n = z at *
  clear hcode
  have s1 := hb1.size
  simp only [World.size_alloc] at s1
  have HB1 := Lib.hid ((below_alloc W _).trans (hb1.mono (by simp)))
  clear hb1
  go_wp2_with fail
  refine (HE.out _).mono ?_
  rintro e w2 ⟨rfl, hb2⟩
  have s2 := hb2.size
  simp only [World.size_alloc] at s2
  have hx2 := block_below hb2 (alloc_at (w := w1) (o := .cells #[.int .i64 op, .int .i64 a1, .int .i64 b1, .int .i64 n] 35 (0, 0)) rfl) (by simp)
  have HX2 := Lib.hid hx2
  have HB2 := Lib.hid (HB1.out.trans (((below_alloc w1 (.cells #[.int .i64 op, .int .i64 a1, .int .i64 b1, .int .i64 n] 35)).mono (by omega)).trans (hb2.mono (by simp; omega))))
  clear hx2 hb2
  go_wp2_with fail
  refine (HD.out _).mono ?_
  rintro e w3 ⟨rfl, hb3⟩
  have s3 := hb3.size
  have hx3 := block_below hb3 HX2.out (by omega)
  have q0 : w3.cell? ⟨w1.heap.size, 0, none⟩ = some (.int .i64 op) := cell_block hx3 0
  have q1 : w3.cell? ⟨w1.heap.size, 1, none⟩ = some (.int .i64 a1) := cell_block hx3 1
  have q2 : w3.cell? ⟨w1.heap.size, 2, none⟩ = some (.int .i64 b1) := cell_block hx3 2
  have q3 : w3.cell? ⟨w1.heap.size, 3, none⟩ = some (.int .i64 n) := cell_block hx3 3
  have lt3 : w1.heap.size < w3.heap.size := by omega
  have HB3 := Lib.hid (HB2.out.trans (hb3.mono (by omega)))
  clear hx3 hb3
  go_wp2_with fail
  refine (HC.out _).mono ?_
  rintro e w4 ⟨rfl, rfl⟩
  go_wp2
  go_ret
  refine ⟨ret_bool (by simp), ?_⟩
  exact (HB3.out.alloc (by omega) _).alloc (by simp; omega) _

set_option maxRecDepth 100000 in
theorem lifted (os : Os) (started : os.Started) (H : Type) (enc : TypeId × Value → H) :
    ReturnsInHanded {} Try.checked os 5 .any (Rows.instrBackSpec.pre6 enc Try.prog Try.f5 Rows.instrBackRow.domain false) (Rows.instrBackSpec.post enc Try.prog Try.f5 false true false false) := by
  refine returnsInHanded_of_change_sized (C := Try.checked) Facts.own started (by kernel_rfl) Try.func5
    (ChangeSpec.witness6 (enc := enc) (C := Try.checked) false ⟨#[], #[.agg #[.int .i64 0, .int .i64 0, .int .i64 0, .int .i64 0]], []⟩ 8 (by kernel_rfl) (by kernel_rfl) (by kernel_rfl) (by kernel_rfl)) ?_
  intro W base args ds gs before hval0 hW hcnd hsz0 _
  have hsz : (DataW.weightsEach Try.prog (Try.f5.params.toList ++ Rows.instrBackSpec.plain.varTypes Try.prog) (ds ++ gs)).all (· ≤ reachBytes) = true := hsz0
  have hval : ∀ (j : Nat) t v, Try.f5.params[j]? = some t → args[j]? = some v → Value.okWide Try.prog W .any base t v := hval0
  have hW' := hW
  obtain ⟨p, q, hA0, hV, rfl, hfz, hnd⟩ := hW
  have hA : DataW.TrodAll enc Try.prog W 0 (fun _ => true) true Try.f5.params.toList args.toList ds p := hA0
  rw [Try.params5] at hA hval hsz
  obtain ⟨v0, vs0, d0, ds0, p0, q0, hargs, rfl, rfl, h0, r0⟩ := trodAll_cons hA
  obtain ⟨rfl, rfl, rfl⟩ := trodAll_nil r0
  obtain rfl : args = #[v0] := by cases args; simp_all
  obtain ⟨rfl, rfl⟩ := trodVars_none hV
  have k0 := h0
  have lt0 : ∀ x ∈ p0, x.block < W.heap.size := by obtain ⟨m, hm⟩ := k0; exact DataW.trod_lt m _ _ _ hm
  obtain ⟨x0_0, x0_1, x0_2, x0_3, w0⟩ := open_rawR (hval 0 33 v0 rfl rfl) h0 (fits_at hsz (j := 0) rfl rfl)
  clear hA0 hval0
  refine (walk W v0 x0_0 x0_1 x0_2 x0_3 w0).mono fun e W' ⟨he, bel⟩ => ?_
  subst he
  exact ⟨_, rfl, _, _, _, [], _, [], hW', trodAll_mk1 (shut_bool Try.underlying4 _), (trodAll_cons_mk (Below.trod Facts.laidOut (by kernel_rfl) (of_decide_eq_true (by kernel_rfl)) k0 bel lt0) trodAll_mk0), rfl, bel.frame _, fun h => by cases h⟩

theorem closed : joinedFacts Try.prog 5 Try.f5 Rows.instrBackSpec Rows.instrBackRow = true := by
  unfold joinedFacts
  rw [Facts.enters, Facts.lifts, Facts.made]
  kernel_rfl

theorem over : Rows.instrBackRow.holds Try.pinned (OpenSpec.ofChange Rows.instrBackSpec) :=
  OpenClaim.holds_of_wide 5 Try.f5 rfl rfl rfl rfl rfl rfl rfl ⟨rfl, rfl, rfl, rfl, rfl⟩ rfl rfl rfl rfl rfl (by kernel_rfl) Try.func5 closed
    (of_decide_eq_true (by kernel_rfl)) (by unfold Func.isWrapper; first | (rw [if_pos (by decide +kernel)]; kernel_rfl) | (rw [if_neg (by decide +kernel)]; exact ⟨rfl, rfl⟩))
    (fun os started H enc _ => lifted os started H enc)

theorem proved : Rows.InstrBackSaid := over
#print axioms proved
end Go.Proofs.Ytneeimfffoomgaa.lInstrBack
