/- The document's guest in a world: its box, its slices, and a result's box; what each change leaves. No condition beyond the readings. -/
import Derived.Test.YtbenfbfbohecmaaCo
import Derived.Test.YtbenfbfbohecmaaOi
namespace Go.Proofs.Ytbenfbfbohecmaa
open Go Go.RowKit Go.ChangeShapes Go.WideShapes Go.Deep
set_option linter.unusedVariables false

/-- The guest lies in block bb, its registers in gr, its memory in mb; rb is a result's box that nobody has written; all of these are new since w0. -/
structure RSt (w0 : World) (rb bb gr cr mb cm : Nat) (m : Mach) (ao : Option Addr) (co : Nat) (w : World) : Prop where
  box : w.heap[bb]? = some (.cells #[.slice (some ⟨gr, 0, none⟩) 8 cr, .int .i64 m.pc, .int .i64 m.back, .bool m.ints, .bool m.wait, .int .i64 m.table, .int .i64 m.count, .int .i64 m.fin, .slice (some ⟨mb, 0, none⟩) 256 cm, .slice ao m.out.length co, .int .i64 m.ready, .int .i64 m.want] 24 (0, 0))
  rbox : w.heap[rb]? = some (.cells #[.slice none 0 0, .int .i64 0, .int .i64 0, .bool false, .bool false, .int .i64 0, .int .i64 0, .int .i64 0, .slice none 0 0, .slice none 0 0, .int .i64 0, .int .i64 0] 24 (0, 0))
  regs : w.ownsRow 0 3 1 (.slice (some ⟨gr, 0, none⟩) 8 cr) 8 (m.regs.map (Value.int .i64))
  mem : w.ownsRow 0 3 1 (.slice (some ⟨mb, 0, none⟩) 256 cm) 256 (m.mem.map (Value.int .i64))
  out : w.ownsRow 0 3 1 (.slice ao m.out.length co) m.out.length (m.out.map (Value.int .i64))
  ne : rb ≠ bb
  rm : gr ≠ mb
  ro : (Value.slice ao m.out.length co).ownBlock ≠ some gr
  mo : (Value.slice ao m.out.length co).ownBlock ≠ some mb
  old : Below w0.heap.size w0 w
  lb : w0.heap.size ≤ bb
  lr : w0.heap.size ≤ gr
  lm : w0.heap.size ≤ mb
  lo : ∀ g, (Value.slice ao m.out.length co).ownBlock = some g → w0.heap.size ≤ g
def RS (w0 : World) (rb bb gr cr mb cm : Nat) (m : Mach) (w : World) : Prop := ∃ ao co, RSt w0 rb bb gr cr mb cm m ao co w
theorem own_cellAt {w : World} {g c n : Nat} {zs : List Int} (h : w.ownsRow 0 3 1 (.slice (some ⟨g, 0, none⟩) n c) n (zs.map (Value.int .i64))) {k : Nat} (hk : k < n) : w.cell? ⟨g, k, none⟩ = some (.int .i64 (zs.getD k 0)) := by
  have hl : zs.length = n := by have := h.1; simpa using this
  rw [h.cellAt k (by omega), List.getElem?_map, List.getElem?_eq_getElem (by omega), List.getD_eq_getElem?_getD, List.getElem?_eq_getElem (by omega)]
  rfl

section
variable {w0 w : World} {rb bb gr cr mb cm : Nat} {m : Mach} {ao : Option Addr} {co : Nat}
theorem RSt.rs (h : RSt w0 rb bb gr cr mb cm m ao co w) : RS w0 rb bb gr cr mb cm m w := ⟨ao, co, h⟩
theorem RSt.blt (h : RSt w0 rb bb gr cr mb cm m ao co w) : bb < w.heap.size := (Array.getElem?_eq_some_iff.1 h.box).1
theorem RSt.rbl (h : RSt w0 rb bb gr cr mb cm m ao co w) : rb < w.heap.size := (Array.getElem?_eq_some_iff.1 h.rbox).1
theorem RSt.rlt (h : RSt w0 rb bb gr cr mb cm m ao co w) : gr < w.heap.size := (h.regs.lt gr rfl).2
theorem RSt.mlt (h : RSt w0 rb bb gr cr mb cm m ao co w) : mb < w.heap.size := (h.mem.lt mb rfl).2
theorem RSt.grb (h : RSt w0 rb bb gr cr mb cm m ao co w) : gr ≠ bb := fun e => by subst e; exact own_ne_block h.regs h.box (by decide) rfl
theorem RSt.grr (h : RSt w0 rb bb gr cr mb cm m ao co w) : gr ≠ rb := fun e => by subst e; exact own_ne_block h.regs h.rbox (by decide) rfl
theorem RSt.mbb (h : RSt w0 rb bb gr cr mb cm m ao co w) : mb ≠ bb := fun e => by subst e; exact own_ne_block h.mem h.box (by decide) rfl
theorem RSt.mbr (h : RSt w0 rb bb gr cr mb cm m ao co w) : mb ≠ rb := fun e => by subst e; exact own_ne_block h.mem h.rbox (by decide) rfl
theorem RSt.one (h : RSt w0 rb bb gr cr mb cm m ao co w) : (Value.slice ao m.out.length co).ownBlock ≠ some bb := (own_ne_block h.out h.box (by decide)).symm
theorem RSt.onr (h : RSt w0 rb bb gr cr mb cm m ao co w) : (Value.slice ao m.out.length co).ownBlock ≠ some rb := (own_ne_block h.out h.rbox (by decide)).symm
theorem RSt.reg_at (h : RSt w0 rb bb gr cr mb cm m ao co w) {a : Nat} (ha : a < 8) : w.cell? ⟨gr, a, none⟩ = some (.int .i64 (m.reg a)) := by
  have := own_cellAt h.regs ha
  rw [this]; unfold Mach.reg; rw [Int.toNat_natCast]
theorem RSt.mem_at (h : RSt w0 rb bb gr cr mb cm m ao co w) {k : Nat} (hk : k < 256) : w.cell? ⟨mb, k, none⟩ = some (.int .i64 (m.mem.getD k 0)) := own_cellAt h.mem hk
theorem RSt.kept (h : RSt w0 rb bb gr cr mb cm m ao co w) {w' : World} (hb : Below w.heap.size w w') : RSt w0 rb bb gr cr mb cm m ao co w' :=
  ⟨block_below hb h.box h.blt, block_below hb h.rbox h.rbl, own_below h.regs hb (Nat.le_refl _), own_below h.mem hb (Nat.le_refl _), own_below h.out hb (Nat.le_refl _), h.ne, h.rm, h.ro, h.mo, h.old.trans (hb.mono h.old.size), h.lb, h.lr, h.lm, h.lo⟩
theorem RSt.alloc (h : RSt w0 rb bb gr cr mb cm m ao co w) (o : Obj) : RSt w0 rb bb gr cr mb cm m ao co (w.alloc o) := h.kept (below_alloc w o)
theorem RSt.drewN (h : RSt w0 rb bb gr cr mb cm m ao co w) (n : Nat) : RSt w0 rb bb gr cr mb cm m ao co (w.drewN n) := h.kept (below_drewN (Below.refl _ _) n)
theorem RSt.drew (h : RSt w0 rb bb gr cr mb cm m ao co w) : RSt w0 rb bb gr cr mb cm m ao co w.drew := h.drewN 1
/-- A store into the guest's box. -/
theorem RSt.put (h : RSt w0 rb bb gr cr mb cm m ao co w) (i : Nat) (u : Value) (m' : Mach)
    (hb : (#[.slice (some ⟨gr, 0, none⟩) 8 cr, .int .i64 m.pc, .int .i64 m.back, .bool m.ints, .bool m.wait, .int .i64 m.table, .int .i64 m.count, .int .i64 m.fin, .slice (some ⟨mb, 0, none⟩) 256 cm, .slice ao m.out.length co, .int .i64 m.ready, .int .i64 m.want] : Array Value).setIfInBounds i u = #[.slice (some ⟨gr, 0, none⟩) 8 cr, .int .i64 m'.pc, .int .i64 m'.back, .bool m'.ints, .bool m'.wait, .int .i64 m'.table, .int .i64 m'.count, .int .i64 m'.fin, .slice (some ⟨mb, 0, none⟩) 256 cm, .slice ao m.out.length co, .int .i64 m'.ready, .int .i64 m'.want])
    (hr : m'.regs = m.regs) (hm : m'.mem = m.mem) (ho : m'.out = m.out) : RSt w0 rb bb gr cr mb cm m' ao co (w.setCell ⟨bb, i, none⟩ u) := by
  have hg : w.grownBy (w.setCell ⟨bb, i, none⟩ u) (some bb) := grown_set' w bb i u
  refine ⟨?_, ?_, ?_, ?_, ?_, h.ne, h.rm, by rw [ho]; exact h.ro, by rw [ho]; exact h.mo, h.old.setCell h.lb u, h.lb, h.lr, h.lm, by rw [ho]; exact h.lo⟩
  · rw [ho, ← hb]; exact set_block h.box u
  · exact set_block_ne h.rbox h.ne u
  · rw [hr]; exact h.regs.kept hg (Or.inr (by have := h.grb; simp [Value.ownBlock]; exact this))
  · rw [hm]; exact h.mem.kept hg (Or.inr (by have := h.mbb; simp [Value.ownBlock]; exact this))
  · rw [ho]; exact h.out.kept hg (Or.inr h.one)
/-- A store into a register. -/
theorem RSt.setReg (h : RSt w0 rb bb gr cr mb cm m ao co w) (a : Nat) (z : Int) : RSt w0 rb bb gr cr mb cm (m.setReg a z) ao co (w.setCell ⟨gr, a, none⟩ (.int .i64 z)) := by
  obtain ⟨hs, hg⟩ := h.regs.stored a (.int .i64 z)
  refine ⟨set_block_ne h.box (fun e => h.grb e.symm) _, set_block_ne h.rbox (fun e => h.grr e.symm) _, ?_, h.mem.kept hg (Or.inr (by have := h.rm; simp [Value.ownBlock]; exact fun e => this e.symm)), h.out.kept hg (Or.inr h.ro), h.ne, h.rm, h.ro, h.mo, h.old.setCell h.lr _, h.lb, h.lr, h.lm, h.lo⟩
  show World.ownsRow _ _ _ _ _ _ ((m.regs.set (a : Int).toNat z).map _)
  rw [List.map_set, Int.toNat_natCast]; exact hs
/-- A store into memory. -/
theorem RSt.setMem (h : RSt w0 rb bb gr cr mb cm m ao co w) (k : Nat) (z : Int) : RSt w0 rb bb gr cr mb cm { m with mem := m.mem.set k z } ao co (w.setCell ⟨mb, k, none⟩ (.int .i64 z)) := by
  obtain ⟨hs, hg⟩ := h.mem.stored k (.int .i64 z)
  refine ⟨set_block_ne h.box (fun e => h.mbb e.symm) _, set_block_ne h.rbox (fun e => h.mbr e.symm) _, h.regs.kept hg (Or.inr (by have := h.rm; simp [Value.ownBlock]; exact this)), ?_, h.out.kept hg (Or.inr h.mo), h.ne, h.rm, h.ro, h.mo, h.old.setCell h.lm _, h.lb, h.lr, h.lm, h.lo⟩
  show World.ownsRow _ _ _ _ _ _ ((m.mem.set k z).map _)
  rw [List.map_set]; exact hs
/-- What is told: a word more. -/
theorem RSt.tell (h : RSt w0 rb bb gr cr mb cm m ao co w) {w' : World} {z : Int} {a' : Option Addr} {cap : Nat} (hg : w.grownBy w' (Value.slice ao m.out.length co).ownBlock) (hn : w'.ownsRow 0 3 1 (.slice a' (m.out.length + 1) cap) (m.out.length + 1) (m.out.map (Value.int .i64) ++ [.int .i64 z])) (hnew : (Value.slice a' (m.out.length + 1) cap).ownBlock = (Value.slice ao m.out.length co).ownBlock ∨ (Value.slice a' (m.out.length + 1) cap).ownBlock = some w.heap.size) : RSt w0 rb bb gr cr mb cm { m with out := m.out ++ [z] } a' cap (w'.setCell ⟨bb, 9, none⟩ (.slice a' (m.out.length + 1) cap)) := by
  have hcb : w'.heap[bb]? = w.heap[bb]? := hg.block bb h.blt (fun e => h.one e.symm)
  have hrb : w'.heap[rb]? = w.heap[rb]? := hg.block rb h.rbl (fun e => h.onr e.symm)
  have hlen : (m.out ++ [z]).length = m.out.length + 1 := by simp
  have hgs : w'.grownBy (w'.setCell ⟨bb, 9, none⟩ (.slice a' (m.out.length + 1) cap)) (some bb) := grown_set' w' bb 9 _
  have hx : ∀ {k : Nat}, k < w.heap.size → (Value.slice ao m.out.length co).ownBlock ≠ some k → (Value.slice a' (m.out.length + 1) cap).ownBlock ≠ some k := by
    intro k hk hne
    rcases hnew with e | e
    · rw [e]; exact hne
    · rw [e]; intro q; injection q with q; omega
  refine ⟨?_, set_block_ne (hrb.trans h.rbox) h.ne _, ?_, ?_, ?_, h.ne, h.rm, ?_, ?_, ?_, h.lb, h.lr, h.lm, ?_⟩
  · have hb := set_block (i := 9) (hcb.trans h.box) (.slice a' (m.out ++ [z]).length cap)
    rw [hlen] at hb
    show _ = some (Obj.cells #[.slice (some ⟨gr, 0, none⟩) 8 cr, .int .i64 m.pc, .int .i64 m.back, .bool m.ints, .bool m.wait, .int .i64 m.table, .int .i64 m.count, .int .i64 m.fin, .slice (some ⟨mb, 0, none⟩) 256 cm, .slice a' (m.out ++ [z]).length cap, .int .i64 m.ready, .int .i64 m.want] _ _)
    rw [hlen]
    exact hb
  · exact (h.regs.kept hg (Or.inr (fun e => h.ro e.symm))).kept hgs (Or.inr (by have := h.grb; simp [Value.ownBlock]; exact this))
  · exact (h.mem.kept hg (Or.inr (fun e => h.mo e.symm))).kept hgs (Or.inr (by have := h.mbb; simp [Value.ownBlock]; exact this))
  · show World.ownsRow _ _ _ _ (.slice _ (m.out ++ [z]).length _) (m.out ++ [z]).length ((m.out ++ [z]).map _)
    rw [hlen, List.map_append]
    exact hn.kept hgs (Or.inr (hx h.blt h.one))
  · show (Value.slice a' (m.out ++ [z]).length cap).ownBlock ≠ some gr
    rw [hlen]; exact hx h.rlt h.ro
  · show (Value.slice a' (m.out ++ [z]).length cap).ownBlock ≠ some mb
    rw [hlen]; exact hx h.mlt h.mo
  · have hB : Below w0.heap.size w w' := by
      refine ⟨hg.os, hg.tape, hg.output, hg.size, fun k hk => hg.block k (Nat.lt_of_lt_of_le hk h.old.size) (fun e => ?_)⟩
      have := h.lo k e.symm
      omega
    exact (h.old.trans hB).setCell h.lb _
  · show ∀ g, (Value.slice a' (m.out ++ [z]).length cap).ownBlock = some g → _
    rw [hlen]
    intro g e
    rcases hnew with q | q
    · rw [q] at e; exact h.lo g e
    · rw [q] at e; injection e with e; have := h.old.size; omega
end
end Go.Proofs.Ytbenfbfbohecmaa
