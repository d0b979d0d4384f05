/- Take and TakenOf answer alike. No condition. -/
import Derived.Test.YtfgiiaaghllfcaaTo
namespace Go.Proofs.Ytfgiiaaghllfcaa
open Go Go.RowKit Go.ChangeShapes Go.WideShapes Go.Deep
set_option linter.unusedVariables false

theorem take_both (rs : List (List Int)) (zs : List Int) (hbd : FBd rs zs) : ∃ rs' zs' i c, ∀ (v : Value) (w : World), FramesR w.heap.size w v rs zs → Calls Try.prog 64 #[v] w (RetFI w rs' zs' i c) ∧ Calls Try.prog 65 #[v] w (RetFI w rs' zs' i c) := by
  rcases Classical.em (FOk rs zs) with h | h
  · obtain ⟨i, hi⟩ := fz_ex zs
    rcases id hi with ⟨k, rfl, h1, h2, h3⟩ | ⟨rfl, _⟩
    · have hb2 := (hbd.setRow k (i64_zeros 16) (by simp)).setRef k 1 (by unfold I64; omega)
      exact ⟨_, _, k, 0, fun v w hf => ⟨(take_yes v rs zs k w hf h hi h1).mono fun _ _ h => h.ret hb2, (takenOf_yes v rs zs k w hf h hi h1 h2).mono fun _ _ h => h.ret hb2⟩⟩
    · exact ⟨[], [], 0, 7, fun v w hf => ⟨(take_full v rs zs w hf h hi).mono fun _ _ => KnNoI.ret, (takenOf_full v rs zs w hf h hi).mono fun _ _ => KnNoI.ret⟩⟩
  · exact ⟨[], [], 0, 8, fun v w hf => ⟨(take_bad v rs zs w hf h).mono fun _ _ => KnNoI.ret, (takenOf_bad v rs zs w hf h).mono fun _ _ => KnNoI.ret⟩⟩
end Go.Proofs.Ytfgiiaaghllfcaa
