/- Write and WroteOf answer alike. No condition. -/
import Derived.Test.YtfgiiaaghllfcaaWq
namespace Go.Proofs.Ytfgiiaaghllfcaa
open Go Go.RowKit Go.ChangeShapes Go.WideShapes Go.Deep
set_option linter.unusedVariables false

theorem write_both (rs : List (List Int)) (zs : List Int) (n at_ x : Int) (hx : I64 x) (hbd : FBd rs zs) : ∃ rs' zs' i c, ∀ (v : Value) (w : World), FramesR w.heap.size w v rs zs → Calls Try.prog 68 #[v, .int .i64 n, .int .i64 at_, .int .i64 x] w (RetFI w rs' zs' i c) ∧ Calls Try.prog 69 #[v, .int .i64 n, .int .i64 at_, .int .i64 x] w (RetFI w rs' zs' i c) := by
  rcases Classical.em (FOk rs zs) with h | h
  rcases Classical.em (Kn zs n) with k | k
  · obtain ⟨q, rfl⟩ : ∃ q : Nat, n = q := ⟨n.toNat, by have := k.1; omega⟩
    rcases (show (at_ < 0 ∨ 16 ≤ at_) ∨ (0 ≤ at_ ∧ at_ < 16) by omega) with o | o
    · exact ⟨[], [], 0, 2, fun v w hf => ⟨(write_off v rs zs q at_ x w hf h k o).mono fun _ _ => KnNoI.ret, (wroteOf_off v rs zs q at_ x w hf h k o).mono fun _ _ => KnNoI.ret⟩⟩
    · obtain ⟨j, rfl⟩ : ∃ j : Nat, at_ = j := ⟨at_.toNat, by omega⟩
      have hj : j < 16 := by omega
      obtain ⟨_, _, _, h1, _⟩ := kn_len h k
      have hrow := hbd.rowAt q
      rcases (show zs.getD q 0 = 1 ∨ 1 < zs.getD q 0 by omega) with e | e
      · have hb2 := hbd.setRow q (i64_set hrow.1 j hx) (by rw [List.length_set]; exact hrow.2)
        exact ⟨_, _, q, 0, fun v w hf => ⟨(write_one v rs zs q j x w hf h k hj e).mono fun _ _ h => h.ret hb2, (wroteOf_one v rs zs q j x w hf h k hj e).mono fun _ _ h => h.ret hb2⟩⟩
      · obtain ⟨i, hi⟩ := fz_ex zs
        rcases id hi with ⟨p, rfl, g1, g2, g3⟩ | ⟨rfl, _⟩
        · obtain ⟨_, _, _, _, h2⟩ := kn_len h k
          have hb2 := ((hbd.setRow p (i64_set hrow.1 j hx) (by rw [List.length_set]; exact hrow.2)).setRef q (zs.getD q 0 - 1) (by unfold I64; omega)).setRef p 1 (by unfold I64; omega)
          exact ⟨_, _, p, 0, fun v w hf => ⟨(write_copy v rs zs q j p x _ w hf h k hj rfl e hi g1).mono fun _ _ h => h.ret hb2, (wroteOf_copy v rs zs q j p x _ w hf h k hj rfl e hi g1).mono fun _ _ h => h.ret hb2⟩⟩
        · exact ⟨[], [], 0, 7, fun v w hf => ⟨(write_full v rs zs q j x w hf h k hj e hi).mono fun _ _ => KnNoI.ret, (wroteOf_full v rs zs q j x _ w hf h k hj rfl e hi).mono fun _ _ => KnNoI.ret⟩⟩
  · exact ⟨[], [], 0, 6, fun v w hf => ⟨(write_no v rs zs n at_ x 6 w hf (Or.inr ⟨h, k, rfl⟩)).mono fun _ _ => KnNoI.ret, (wroteOf_no v rs zs n at_ x 6 w hf (Or.inr ⟨h, k, rfl⟩)).mono fun _ _ => KnNoI.ret⟩⟩
  · exact ⟨[], [], 0, 8, fun v w hf => ⟨(write_no v rs zs n at_ x 8 w hf (Or.inl ⟨h, rfl⟩)).mono fun _ _ => KnNoI.ret, (wroteOf_no v rs zs n at_ x 8 w hf (Or.inl ⟨h, rfl⟩)).mono fun _ _ => KnNoI.ret⟩⟩
end Go.Proofs.Ytfgiiaaghllfcaa
