/- The contract of picked. No condition. -/
import Derived.Test.YtojdpegkbndklaaBase
namespace Go.Proofs.Ytojdpegkbndklaa
open Go Go.RowKit Go.ChangeShapes Go.WideShapes Go.Deep
set_option linter.unusedVariables false

/-- What picked answers. -/
def pickZ (n many : Int) : Int := (if n < 0 then -(n + 1) else n) % many
theorem pick_rng (n many : Int) (h : 0 < many) : 0 ≤ pickZ n many ∧ pickZ n many < many := ⟨Int.emod_nonneg _ (by omega), Int.emod_lt_of_pos _ h⟩
theorem picked_any (n many : Int) (w : World) (h1 : -9223372036854775808 ≤ n) (h2 : n ≤ 9223372036854775807) (h3 : 0 < many) (h4 : many ≤ 1000000) : Calls Try.prog 16 #[.int .i64 n, .int .i64 many] w fun e w' => e = .returned (.int .i64 (pickZ n many)) ∧ w = w' := by
  by_cases h : n < 0
  · have e : pickZ n many = -(n + 1) % many := by unfold pickZ; rw [if_pos h]
    have E := Lib.hid e
    clear e
    have hb : 0 ≤ -(n + 1) := by omega
    go_enter Try.func16, Try.ntmps16
    go_wp2
    go_ret
    exact ⟨ret_int (by rw [← Int.neg_tmod, Int.tmod_eq_emod_of_nonneg hb]; exact E.out.symm), rfl⟩
  · have e : pickZ n many = n % many := by unfold pickZ; rw [if_neg h]
    have E := Lib.hid e
    clear e
    go_enter Try.func16, Try.ntmps16
    go_wp2
    go_ret
    exact ⟨ret_int E.out.symm, rfl⟩

/-- A number from 0 on below many. -/
theorem picked_in (n many : Int) (w : World) (h1 : -9223372036854775808 ≤ n) (h2 : n ≤ 9223372036854775807) (h3 : 0 < many) (h4 : many ≤ 1000000) : Calls Try.prog 16 #[.int .i64 n, .int .i64 many] w fun e w' => ∃ z : Int, 0 ≤ z ∧ z < many ∧ e = .returned (.int .i64 z) ∧ w = w' :=
  (picked_any n many w h1 h2 h3 h4).mono fun e w' ⟨he, hw⟩ => ⟨pickZ n many, (pick_rng n many h3).1, (pick_rng n many h3).2, he, hw⟩
end Go.Proofs.Ytojdpegkbndklaa
