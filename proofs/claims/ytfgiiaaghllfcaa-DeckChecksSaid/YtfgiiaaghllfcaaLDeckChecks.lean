/- The law hourglasslaw.DeckChecks returns true at every setup. No condition. -/
import Derived.Test.YtfgiiaaghllfcaaRows
import Derived.Test.YtfgiiaaghllfcaaOpen
import Derived.Test.YtfgiiaaghllfcaaFacts
import Derived.WalkKit
import Derived.ProofKit
import Derived.OpenShut
import Derived.ShutString
import Derived.ChangeOld
import Derived.Below
import Derived.Test.YtfgiiaaghllfcaaBase
namespace Go.Proofs.Ytfgiiaaghllfcaa.lDeckChecks
open Go Go.RowKit Go.ChangeShapes Go.WideShapes Go.ChangeAt
open Go.ChangeMaps (open_string shut_string)
set_option linter.unusedVariables false

def okB (a b c : Int) : Bool := inB a 0 200 && (inB b 1 3000 && inB c 1 8)
def code (a b c : Int) : Int := if okB a b c = true then 0 else 2
theorem code_no {a b c : Int} (h : ¬ (0 ≤ a ∧ a ≤ 200 ∧ 1 ≤ b ∧ b ≤ 3000 ∧ 1 ≤ c ∧ c ≤ 8)) : code a b c = 2 := by
  unfold code okB inB
  rw [if_neg]
  simp
  omega
theorem code_yes {a b c : Int} (h : 0 ≤ a ∧ a ≤ 200 ∧ 1 ≤ b ∧ b ≤ 3000 ∧ 1 ≤ c ∧ c ≤ 8) : code a b c = 0 := by
  unfold code okB inB
  rw [if_pos]
  simp
  omega

set_option maxHeartbeats 1000000 in
theorem check_any (a b c : Int) (w : World) : Calls Try.prog 35 #[.agg #[.int .i64 a, .int .i64 b, .int .i64 c]] w fun e w' => e = .returned (.int .i64 (code a b c)) ∧ w.alloc (.cells #[.int .i64 a, .int .i64 b, .int .i64 c] 34) = w' := by
  go_enter Try.func35, Try.ntmps35
  go_wp2
  all_goals go_ret
  all_goals refine ⟨ret_int ?_, rfl⟩
  all_goals first | (rw [code_yes (by omega)]; done) | (rw [code_no (by omega)]; done)

set_option maxHeartbeats 1000000 in
theorem ref_any (a b c : Int) (w : World) : Calls Try.prog 36 #[.agg #[.int .i64 a, .int .i64 b, .int .i64 c]] w fun e w' => e = .returned (.int .i64 (code a b c)) ∧ w.alloc (.cells #[.int .i64 a, .int .i64 b, .int .i64 c] 34) = w' := by
  go_enter Try.func36, Try.ntmps36
  go_wp2_with (go_at_call 82; refine (in_or _ _ _ _).mono ?_; rintro e w' (⟨rfl, rfl, hlo, hhi⟩ | ⟨rfl, rfl, hno⟩))
  all_goals go_ret
  all_goals refine ⟨ret_int ?_, rfl⟩
  all_goals first | (rw [code_yes (by omega)]; done) | (rw [code_no (by omega)]; done)

theorem walk (W : World) (v : Value) (a b c : Int) (hv : SetupR v a b c) : Calls Try.prog 5 #[v] W fun e W' => e = .returned (.bool true) ∧ Below W.heap.size W W' := by
  obtain ⟨rfl, _⟩ := hv
  go_enter Try.func5, Try.ntmps5
  go_wp2_with (first | (go_at_call 35; refine (check_any _ _ _ _).mono ?_; rintro e w' ⟨rfl, rfl⟩) | (go_at_call 36; refine (ref_any _ _ _ _).mono ?_; rintro e w' ⟨rfl, rfl⟩))
  go_ret
  exact ⟨by simp, ((below_alloc _ _).alloc (by simp) _).alloc (by simp; omega) _⟩

set_option maxRecDepth 100000 in
theorem lifted (os : Os) (started : os.Started) (H : Type) (enc : TypeId × Value → H) :
    ReturnsInHanded {} Try.checked os 5 .any (Rows.deckChecksSpec.pre6 enc Try.prog Try.f5 Rows.deckChecksRow.domain false) (Rows.deckChecksSpec.post enc Try.prog Try.f5 false true false false) := by
  refine returnsInHanded_of_change_sized (C := Try.checked) Facts.own started (by kernel_rfl) Try.func5
    (ChangeSpec.witness6 (enc := enc) (C := Try.checked) false ⟨#[], #[.agg #[.int .i64 0, .int .i64 0, .int .i64 0]], []⟩ 8 (by kernel_rfl) (by kernel_rfl) (by kernel_rfl) (by kernel_rfl)) ?_
  intro W base args ds gs before hval0 hW hcnd hsz0 _
  have hsz : (DataW.weightsEach Try.prog (Try.f5.params.toList ++ Rows.deckChecksSpec.plain.varTypes Try.prog) (ds ++ gs)).all (· ≤ reachBytes) = true := hsz0
  have hval : ∀ (j : Nat) t v, Try.f5.params[j]? = some t → args[j]? = some v → Value.okWide Try.prog W .any base t v := hval0
  have hW' := hW
  obtain ⟨p, q, hA0, hV, rfl, hfz, hnd⟩ := hW
  have hA : DataW.TrodAll enc Try.prog W 0 (fun _ => true) true Try.f5.params.toList args.toList ds p := hA0
  rw [Try.params5] at hA hval hsz
  obtain ⟨v0, vs0, d0, ds0, p0, q0, hargs, rfl, rfl, h0, r0⟩ := trodAll_cons hA
  obtain ⟨rfl, rfl, rfl⟩ := trodAll_nil r0
  obtain rfl : args = #[v0] := by cases args; simp_all
  obtain ⟨rfl, rfl⟩ := trodVars_none hV
  have k0 := h0
  have lt0 : ∀ x ∈ p0, x.block < W.heap.size := by obtain ⟨m, hm⟩ := k0; exact DataW.trod_lt m _ _ _ hm
  obtain ⟨x0_0, x0_1, x0_2, w0⟩ := open_setupR (hval 0 34 v0 rfl rfl) h0 (fits_at hsz (j := 0) rfl rfl)
  clear hA0 hval0
  refine (walk W v0 x0_0 x0_1 x0_2 w0).mono fun e W' ⟨he, bel⟩ => ?_
  subst he
  exact ⟨_, rfl, _, _, _, [], _, [], hW', trodAll_mk1 (shut_bool Try.underlying4 _), (trodAll_cons_mk (Below.trod Facts.laidOut (by kernel_rfl) (of_decide_eq_true (by kernel_rfl)) k0 bel lt0) trodAll_mk0), rfl, bel.frame _, fun h => by cases h⟩

theorem closed : joinedFacts Try.prog 5 Try.f5 Rows.deckChecksSpec Rows.deckChecksRow = true := by
  unfold joinedFacts
  rw [Facts.enters, Facts.lifts, Facts.made]
  kernel_rfl

theorem over : Rows.deckChecksRow.holds Try.pinned (OpenSpec.ofChange Rows.deckChecksSpec) :=
  OpenClaim.holds_of_wide 5 Try.f5 rfl rfl rfl rfl rfl rfl rfl ⟨rfl, rfl, rfl, rfl, rfl⟩ rfl rfl rfl rfl rfl (by kernel_rfl) Try.func5 closed
    (of_decide_eq_true (by kernel_rfl)) (by unfold Func.isWrapper; first | (rw [if_pos (by decide +kernel)]; kernel_rfl) | (rw [if_neg (by decide +kernel)]; exact ⟨rfl, rfl⟩))
    (fun os started H enc _ => lifted os started H enc)

theorem proved : Rows.DeckChecksSaid := over
#print axioms proved
end Go.Proofs.Ytfgiiaaghllfcaa.lDeckChecks
