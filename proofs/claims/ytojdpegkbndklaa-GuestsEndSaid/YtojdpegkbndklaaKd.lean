/- A guest in a box: a store into its memory; a box written to behind a step while a list grows. No condition. -/
import Derived.Test.YtojdpegkbndklaaKc
namespace Go.Proofs.Ytojdpegkbndklaa
open Go Go.RowKit Go.ChangeShapes Go.WideShapes Go.Deep
set_option linter.unusedVariables false

theorem KBox.setMem {g gr cr mb cm : Nat} {m : Mach} {ao : Option Addr} {co : Nat} {w : World} (h : KBox g gr cr mb cm m ao co w) (k : Nat) (z : Int) : KBox g gr cr mb cm { m with mem := m.mem.set k z } ao co (w.setCell ⟨mb, k, none⟩ (.int .i64 z)) := by
  obtain ⟨hs, hg⟩ := h.mem.stored k (.int .i64 z)
  have hgm : g ≠ mb := fun e => by subst e; exact own_ne_block h.mem h.box (by decide) rfl
  refine ⟨set_block_ne h.box hgm _, h.regs.kept hg (Or.inr (by have := h.rm; simp [Value.ownBlock]; exact this)), ?_, h.out.kept hg (Or.inr h.mo), h.rm, h.ro, h.mo⟩
  show World.ownsRow _ _ _ _ _ _ ((m.mem.set k z).map _)
  rw [List.map_set]; exact hs
theorem KBox.startF {base g : Nat} {F : Nat → Prop} {w w' : World} {m : Mach} {ar am ao : Option Addr} {cr cm co : Nat} (hok : MOk m) (hown : MachOwn base w m (.slice ar m.regs.length cr) (.slice am m.mem.length cm) (.slice ao m.out.length co)) (hF : ∀ b, F b → b < base ∨ w.heap.size ≤ b) (hk : OutF F w w') (hx : w'.heap[g]? = some (.cells #[.slice ar 8 cr, .int .i64 m.pc, .int .i64 m.back, .bool m.ints, .bool m.wait, .int .i64 m.table, .int .i64 m.count, .int .i64 m.fin, .slice am 256 cm, .slice ao m.out.length co, .int .i64 m.ready, .int .i64 m.want] 24 (0, 0))) : ∃ gr' cr' mb' cm' ao' co', KBox g gr' cr' mb' cm' m ao' co' w' := by
  have h8 := hok.regs
  have h256 := hok.mem
  obtain ⟨gr, rfl, gb⟩ := own_some0 hown.hr (by omega)
  obtain ⟨mb, rfl, mbb⟩ := own_some0 hown.hm (by omega)
  refine ⟨gr, cr, mb, cm, ao, co, ?_⟩
  have up : ∀ {v : Value} {n : Nat} {xs : List Value}, w.ownsRow base 3 1 v n xs → w'.ownsRow 0 3 1 v n xs := fun h => own_base (own_out h hk (fun k hk e => by have := h.lt k hk; have := hF k e; omega)) (Nat.zero_le _)
  obtain ⟨h1, h2, h3, a1, a2, a3, a4, a5, a6⟩ := hown
  have k1 := up h1
  have k2 := up h2
  have k3 := up h3
  rw [h8] at k1 a1 a2 a4 a5
  rw [h256] at k2 a1 a3 a4 a6
  refine ⟨hx, k1, k2, k3, ?_, ?_, ?_⟩
  · rcases a1 with a | a
    · exact absurd a (by simp [Value.ownBlock])
    · intro e; exact a (by simp [Value.ownBlock, e])
  · rcases a5 with a | a
    · intro e; rw [a] at e; cases e
    · intro e; exact a (by rw [e]; rfl)
  · rcases a6 with a | a
    · intro e; rw [a] at e; cases e
    · intro e; exact a (by rw [e]; rfl)
end Go.Proofs.Ytojdpegkbndklaa
