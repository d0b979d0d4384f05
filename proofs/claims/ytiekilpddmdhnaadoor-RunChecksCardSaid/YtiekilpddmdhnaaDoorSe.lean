/- The contract of the law's sameEvents on equal events. No condition beyond the readings. -/
import Derived.Test.YtiekilpddmdhnaaDoorDf
import Derived.Test.YtiekilpddmdhnaaDoorBase
namespace Go.Proofs.YtiekilpddmdhnaaDoor
open Go Go.RowKit Go.ChangeShapes Go.WideShapes Go.Deep
set_option linter.unusedVariables false

set_option maxHeartbeats 4000000 in
set_option maxRecDepth 100000 in
theorem sameEvs_any (v v' : Value) (l : List Ev) (w : World) (h : EvsR w.heap.size w v l) (h' : EvsR w.heap.size w v' l) : Calls Tryd.prog 9 #[v, v'] w fun e w' => e = .returned (.bool true) ∧ ∃ n, w' = w.drewN n := by
  obtain ⟨a, c, rfl, hl, _, hc⟩ := h
  obtain ⟨a', c', rfl, _, _, hc'⟩ := h'
  have Hc := Lib.hid hc
  have Hc' := Lib.hid hc'
  clear hc hc'
  go_enter Tryd.func9, Tryd.ntmps9
  go_wp2_with fail
  go_loopg [5] l.length (fun gh s5 wr => ∃ k q : Nat, k ≤ l.length ∧ gh = l.length - k ∧ s5 = .int .i64 k ∧ wr = w.drewN q)
  case atStart => exact ⟨0, 0, Nat.zero_le _, by omega, rfl, rfl⟩
  case round =>
    obtain ⟨k, q, hk, rfl, rfl, hw⟩ := hrel
    by_cases hlt : k < l.length
    · obtain ⟨b, off, cs, ha, hbb, hcs, hcell, dd, cd, hcs2, i1, i2, hint⟩ := Hc.out k hlt
      obtain ⟨b', off', cs', ha', hbb', hcs', hcell', dd', cd', hcs2', _, _, hint'⟩ := Hc'.out k hlt
      subst ha ha' hcs2 hcs2'
      have r0 : wr.cell? ⟨b, off + k * 3, none⟩ = some (.int .i64 l[k].at_) := by rw [hw]; exact hcell 0 (by simp)
      have r1 : wr.cell? ⟨b, off + k * 3 + 1, none⟩ = some (.int .i64 l[k].kind) := by rw [hw]; exact hcell 1 (by simp)
      have r2 : wr.cell? ⟨b, off + k * 3 + 2, none⟩ = some (.slice dd l[k].data.length cd) := by rw [hw]; exact hcell 2 (by simp)
      have q0 : wr.cell? ⟨b', off' + k * 3, none⟩ = some (.int .i64 l[k].at_) := by rw [hw]; exact hcell' 0 (by simp)
      have q1 : wr.cell? ⟨b', off' + k * 3 + 1, none⟩ = some (.int .i64 l[k].kind) := by rw [hw]; exact hcell' 1 (by simp)
      have q2 : wr.cell? ⟨b', off' + k * 3 + 2, none⟩ = some (.slice dd' l[k].data.length cd') := by rw [hw]; exact hcell' 2 (by simp)
      have HI1 := Lib.hid (show Ints w.heap.size wr _ _ from by rw [hw]; exact hint)
      have HI2 := Lib.hid (show Ints w.heap.size wr _ _ from by rw [hw]; exact hint')
      have HW := Lib.hid hw
      have hk1 : (k : Int) < (l.length : Int) := by omega
      have hk0 : (0 : Int) ≤ (k : Int) := by omega
      have e0 : (l[k].at_ != l[k].at_) = false := by simp
      have e1 : (l[k].kind != l[k].kind) = false := by simp
      clear hcell hcell' hcs hcs' hint hint' hw
      generalize l[k] = x at *
      obtain ⟨xat, xkd, xda⟩ := x
      simp only at r0 r1 r2 q0 q1 q2 HI1 HI2 e0 e1
      go_wp2_with fail
      go_quiet ((go_at_call 28; refine (sameInts_yes (B := w.heap.size) _ _ xda _ ?_ ?_).mono ?_; exact HI1.out; exact HI2.out; rintro e w1 ⟨rfl, n1, rfl⟩; exact ⟨rfl, _, World.drewN_drewN _ _ _⟩))
      go_wp2
      go_roundg (l.length - (k + 1))
      case measure => omega
      case rel => exact ⟨k + 1, _, by omega, rfl, by go_num, by rw [HW.out]; exact World.drewN_drewN _ _ _⟩
    · subst hw
      go_wp2
      go_ret
      exact ⟨rfl, q, rfl⟩
end Go.Proofs.YtiekilpddmdhnaaDoor
