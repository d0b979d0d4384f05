/- Drop and DroppedOf answer alike. No condition. -/
import Derived.Test.YtfgiiaaghllfcaaDp
namespace Go.Proofs.Ytfgiiaaghllfcaa
open Go Go.RowKit Go.ChangeShapes Go.WideShapes Go.Deep
set_option linter.unusedVariables false

theorem FBd.setNil {rs : List (List Int)} {zs : List Int} (h : FBd rs zs) (k : Nat) : FBd (rs.set k []) zs :=
  ⟨fun x hx => (List.mem_or_eq_of_mem_set hx).elim (h.row x) (fun e => e ▸ ⟨fun z hz => by simp at hz, by simp⟩), h.ref, by rw [List.length_set]; exact h.nd, h.nr⟩

theorem drop_both (rs : List (List Int)) (zs : List Int) (n : Int) (hbd : FBd rs zs) : ∃ rs' zs' c, ∀ (v : Value) (w : World), FramesR w.heap.size w v rs zs → Calls Try.prog 62 #[v, .int .i64 n] w (RetF w rs' zs' c) ∧ Calls Try.prog 63 #[v, .int .i64 n] w (RetF w rs' zs' c) := by
  rcases Classical.em (FOk rs zs) with h | h
  rcases Classical.em (Kn zs n) with k | k
  · obtain ⟨j, rfl⟩ : ∃ j : Nat, n = j := ⟨n.toNat, by have := k.1; omega⟩
    have hj : j < zs.length := by have := k.2.1; omega
    have h2 := h.2.2 j hj
    rcases Decidable.em (zs.getD j 0 = 1) with e | e
    · have hb2 := (hbd.setRef j 0 (by unfold I64; omega)).setNil j
      exact ⟨_, _, 0, fun v w hf => ⟨((drop_yes v rs zs j 1 w hf h k e).2 rfl).mono fun _ _ h => h.ret hb2, (droppedOf_last v rs zs j w hf h k e).mono fun _ _ h => h.ret hb2⟩⟩
    · have hb2 := hbd.setRef j (zs.getD j 0 - 1) (by have := h2.1; have := h2.2.1; unfold I64; omega)
      exact ⟨rs, zs.set j (zs.getD j 0 - 1), 0, fun v w hf => ⟨((drop_yes v rs zs j _ w hf h k rfl).1 e).mono fun _ _ h => h.ret hb2, (droppedOf_more v rs zs j _ w hf h k rfl e).mono fun _ _ h => h.ret hb2⟩⟩
  · exact ⟨[], [], 6, fun v w hf => ⟨(drop_no v rs zs n 6 w hf (Or.inr ⟨h, k, rfl⟩)).mono fun _ _ => KnNo.ret, (droppedOf_no v rs zs n 6 w hf (Or.inr ⟨h, k, rfl⟩)).mono fun _ _ => KnNo.ret⟩⟩
  · exact ⟨[], [], 8, fun v w hf => ⟨(drop_no v rs zs n 8 w hf (Or.inl ⟨h, rfl⟩)).mono fun _ _ => KnNo.ret, (droppedOf_no v rs zs n 8 w hf (Or.inl ⟨h, rfl⟩)).mono fun _ _ => KnNo.ret⟩⟩
end Go.Proofs.Ytfgiiaaghllfcaa
