/- The document's guest in a world, of which some old blocks may be written: its box, its slices, a result's box; what each change leaves. No condition beyond the readings. -/
import Derived.Test.YtbenfbfbohecmaaRm
namespace Go.Proofs.Ytbenfbfbohecmaa
open Go Go.RowKit Go.ChangeShapes Go.WideShapes Go.Deep
set_option linter.unusedVariables false

/-- The guest lies in block bb, its registers in gr, its memory in mb; rb is a result's box that nobody has written; all of these are new since w0. -/
structure ZSt (w0 : World) (D : Nat → Prop) (rb bb gr cr mb cm : Nat) (m : Mach) (ao : Option Addr) (co : Nat) (w : World) : Prop where
  box : w.heap[bb]? = some (.cells #[.slice (some ⟨gr, 0, none⟩) 8 cr, .int .i64 m.pc, .int .i64 m.back, .bool m.ints, .bool m.wait, .int .i64 m.table, .int .i64 m.count, .int .i64 m.fin, .slice (some ⟨mb, 0, none⟩) 256 cm, .slice ao m.out.length co, .int .i64 m.ready, .int .i64 m.want] 24 (0, 0))
  rbox : w.heap[rb]? = some (.cells #[.slice none 0 0, .int .i64 0, .int .i64 0, .bool false, .bool false, .int .i64 0, .int .i64 0, .int .i64 0, .slice none 0 0, .slice none 0 0, .int .i64 0, .int .i64 0] 24 (0, 0))
  regs : w.ownsRow 0 3 1 (.slice (some ⟨gr, 0, none⟩) 8 cr) 8 (m.regs.map (Value.int .i64))
  mem : w.ownsRow 0 3 1 (.slice (some ⟨mb, 0, none⟩) 256 cm) 256 (m.mem.map (Value.int .i64))
  out : w.ownsRow 0 3 1 (.slice ao m.out.length co) m.out.length (m.out.map (Value.int .i64))
  ne : rb ≠ bb
  rm : gr ≠ mb
  ro : (Value.slice ao m.out.length co).ownBlock ≠ some gr
  mo : (Value.slice ao m.out.length co).ownBlock ≠ some mb
  old : OutF D w0 w
  lb : D bb ∨ w0.heap.size ≤ bb
  lr : D gr ∨ w0.heap.size ≤ gr
  lm : D mb ∨ w0.heap.size ≤ mb
  lo : ∀ g, (Value.slice ao m.out.length co).ownBlock = some g → D g ∨ w0.heap.size ≤ g
def ZS (w0 : World) (D : Nat → Prop) (rb bb gr cr mb cm : Nat) (m : Mach) (w : World) : Prop := ∃ ao co, ZSt w0 D rb bb gr cr mb cm m ao co w
section
variable {w0 w : World} {D : Nat → Prop} {rb bb gr cr mb cm : Nat} {m : Mach} {ao : Option Addr} {co : Nat}
theorem ZSt.zs (h : ZSt w0 D rb bb gr cr mb cm m ao co w) : ZS w0 D rb bb gr cr mb cm m w := ⟨ao, co, h⟩
theorem ZSt.blt (h : ZSt w0 D rb bb gr cr mb cm m ao co w) : bb < w.heap.size := (Array.getElem?_eq_some_iff.1 h.box).1
theorem ZSt.rbl (h : ZSt w0 D rb bb gr cr mb cm m ao co w) : rb < w.heap.size := (Array.getElem?_eq_some_iff.1 h.rbox).1
theorem ZSt.rlt (h : ZSt w0 D rb bb gr cr mb cm m ao co w) : gr < w.heap.size := (h.regs.lt gr rfl).2
theorem ZSt.mlt (h : ZSt w0 D rb bb gr cr mb cm m ao co w) : mb < w.heap.size := (h.mem.lt mb rfl).2
theorem ZSt.grb (h : ZSt w0 D rb bb gr cr mb cm m ao co w) : gr ≠ bb := fun e => by subst e; exact own_ne_block h.regs h.box (by decide) rfl
theorem ZSt.grr (h : ZSt w0 D rb bb gr cr mb cm m ao co w) : gr ≠ rb := fun e => by subst e; exact own_ne_block h.regs h.rbox (by decide) rfl
theorem ZSt.mbb (h : ZSt w0 D rb bb gr cr mb cm m ao co w) : mb ≠ bb := fun e => by subst e; exact own_ne_block h.mem h.box (by decide) rfl
theorem ZSt.mbr (h : ZSt w0 D rb bb gr cr mb cm m ao co w) : mb ≠ rb := fun e => by subst e; exact own_ne_block h.mem h.rbox (by decide) rfl
theorem ZSt.one (h : ZSt w0 D rb bb gr cr mb cm m ao co w) : (Value.slice ao m.out.length co).ownBlock ≠ some bb := (own_ne_block h.out h.box (by decide)).symm
theorem ZSt.onr (h : ZSt w0 D rb bb gr cr mb cm m ao co w) : (Value.slice ao m.out.length co).ownBlock ≠ some rb := (own_ne_block h.out h.rbox (by decide)).symm
theorem ZSt.reg_at (h : ZSt w0 D rb bb gr cr mb cm m ao co w) {a : Nat} (ha : a < 8) : w.cell? ⟨gr, a, none⟩ = some (.int .i64 (m.reg a)) := by
  have := own_cellAt h.regs ha
  rw [this]; unfold Mach.reg; rw [Int.toNat_natCast]
theorem ZSt.mem_at (h : ZSt w0 D rb bb gr cr mb cm m ao co w) {k : Nat} (hk : k < 256) : w.cell? ⟨mb, k, none⟩ = some (.int .i64 (m.mem.getD k 0)) := own_cellAt h.mem hk
theorem ZSt.kept (h : ZSt w0 D rb bb gr cr mb cm m ao co w) {w' : World} (hb : Below w.heap.size w w') : ZSt w0 D rb bb gr cr mb cm m ao co w' :=
  ⟨block_below hb h.box h.blt, block_below hb h.rbox h.rbl, own_below h.regs hb (Nat.le_refl _), own_below h.mem hb (Nat.le_refl _), own_below h.out hb (Nat.le_refl _), h.ne, h.rm, h.ro, h.mo, h.old.trans (OutF.of hb (fun _ => False)) (fun _ q => q.elim), h.lb, h.lr, h.lm, h.lo⟩
theorem ZSt.alloc (h : ZSt w0 D rb bb gr cr mb cm m ao co w) (o : Obj) : ZSt w0 D rb bb gr cr mb cm m ao co (w.alloc o) := h.kept (below_alloc w o)
theorem ZSt.drewN (h : ZSt w0 D rb bb gr cr mb cm m ao co w) (n : Nat) : ZSt w0 D rb bb gr cr mb cm m ao co (w.drewN n) := h.kept (below_drewN (Below.refl _ _) n)
theorem ZSt.drew (h : ZSt w0 D rb bb gr cr mb cm m ao co w) : ZSt w0 D rb bb gr cr mb cm m ao co w.drew := h.drewN 1
/-- A store into the guest's box. -/
theorem ZSt.put (h : ZSt w0 D rb bb gr cr mb cm m ao co w) (i : Nat) (u : Value) (m' : Mach)
    (hb : (#[.slice (some ⟨gr, 0, none⟩) 8 cr, .int .i64 m.pc, .int .i64 m.back, .bool m.ints, .bool m.wait, .int .i64 m.table, .int .i64 m.count, .int .i64 m.fin, .slice (some ⟨mb, 0, none⟩) 256 cm, .slice ao m.out.length co, .int .i64 m.ready, .int .i64 m.want] : Array Value).setIfInBounds i u = #[.slice (some ⟨gr, 0, none⟩) 8 cr, .int .i64 m'.pc, .int .i64 m'.back, .bool m'.ints, .bool m'.wait, .int .i64 m'.table, .int .i64 m'.count, .int .i64 m'.fin, .slice (some ⟨mb, 0, none⟩) 256 cm, .slice ao m.out.length co, .int .i64 m'.ready, .int .i64 m'.want])
    (hr : m'.regs = m.regs) (hm : m'.mem = m.mem) (ho : m'.out = m.out) : ZSt w0 D rb bb gr cr mb cm m' ao co (w.setCell ⟨bb, i, none⟩ u) := by
  have hg : w.grownBy (w.setCell ⟨bb, i, none⟩ u) (some bb) := grown_set' w bb i u
  refine ⟨?_, ?_, ?_, ?_, ?_, h.ne, h.rm, by rw [ho]; exact h.ro, by rw [ho]; exact h.mo, h.old.setCell h.lb u, h.lb, h.lr, h.lm, by rw [ho]; exact h.lo⟩
  · rw [ho, ← hb]; exact set_block h.box u
  · exact set_block_ne h.rbox h.ne u
  · rw [hr]; exact h.regs.kept hg (Or.inr (by have := h.grb; simp [Value.ownBlock]; exact this))
  · rw [hm]; exact h.mem.kept hg (Or.inr (by have := h.mbb; simp [Value.ownBlock]; exact this))
  · rw [ho]; exact h.out.kept hg (Or.inr h.one)
/-- A store into a register. -/
theorem ZSt.setReg (h : ZSt w0 D rb bb gr cr mb cm m ao co w) (a : Nat) (z : Int) : ZSt w0 D rb bb gr cr mb cm (m.setReg a z) ao co (w.setCell ⟨gr, a, none⟩ (.int .i64 z)) := by
  obtain ⟨hs, hg⟩ := h.regs.stored a (.int .i64 z)
  refine ⟨set_block_ne h.box (fun e => h.grb e.symm) _, set_block_ne h.rbox (fun e => h.grr e.symm) _, ?_, h.mem.kept hg (Or.inr (by have := h.rm; simp [Value.ownBlock]; exact fun e => this e.symm)), h.out.kept hg (Or.inr h.ro), h.ne, h.rm, h.ro, h.mo, h.old.setCell h.lr _, h.lb, h.lr, h.lm, h.lo⟩
  show World.ownsRow _ _ _ _ _ _ ((m.regs.set (a : Int).toNat z).map _)
  rw [List.map_set, Int.toNat_natCast]; exact hs
/-- A store into memory. -/
theorem ZSt.setMem (h : ZSt w0 D rb bb gr cr mb cm m ao co w) (k : Nat) (z : Int) : ZSt w0 D rb bb gr cr mb cm { m with mem := m.mem.set k z } ao co (w.setCell ⟨mb, k, none⟩ (.int .i64 z)) := by
  obtain ⟨hs, hg⟩ := h.mem.stored k (.int .i64 z)
  refine ⟨set_block_ne h.box (fun e => h.mbb e.symm) _, set_block_ne h.rbox (fun e => h.mbr e.symm) _, h.regs.kept hg (Or.inr (by have := h.rm; simp [Value.ownBlock]; exact this)), ?_, h.out.kept hg (Or.inr h.mo), h.ne, h.rm, h.ro, h.mo, h.old.setCell h.lm _, h.lb, h.lr, h.lm, h.lo⟩
  show World.ownsRow _ _ _ _ _ _ ((m.mem.set k z).map _)
  rw [List.map_set]; exact hs
/-- What is told: a word more. -/
theorem ZSt.tell (h : ZSt w0 D rb bb gr cr mb cm m ao co w) {w' : World} {z : Int} {a' : Option Addr} {cap : Nat} (hg : w.grownBy w' (Value.slice ao m.out.length co).ownBlock) (hn : w'.ownsRow 0 3 1 (.slice a' (m.out.length + 1) cap) (m.out.length + 1) (m.out.map (Value.int .i64) ++ [.int .i64 z])) (hnew : (Value.slice a' (m.out.length + 1) cap).ownBlock = (Value.slice ao m.out.length co).ownBlock ∨ (Value.slice a' (m.out.length + 1) cap).ownBlock = some w.heap.size) : ZSt w0 D rb bb gr cr mb cm { m with out := m.out ++ [z] } a' cap (w'.setCell ⟨bb, 9, none⟩ (.slice a' (m.out.length + 1) cap)) := by
  have hcb : w'.heap[bb]? = w.heap[bb]? := hg.block bb h.blt (fun e => h.one e.symm)
  have hrb : w'.heap[rb]? = w.heap[rb]? := hg.block rb h.rbl (fun e => h.onr e.symm)
  have hlen : (m.out ++ [z]).length = m.out.length + 1 := by simp
  have hgs : w'.grownBy (w'.setCell ⟨bb, 9, none⟩ (.slice a' (m.out.length + 1) cap)) (some bb) := grown_set' w' bb 9 _
  have hx : ∀ {k : Nat}, k < w.heap.size → (Value.slice ao m.out.length co).ownBlock ≠ some k → (Value.slice a' (m.out.length + 1) cap).ownBlock ≠ some k := by
    intro k hk hne
    rcases hnew with e | e
    · rw [e]; exact hne
    · rw [e]; intro q; injection q with q; omega
  refine ⟨?_, set_block_ne (hrb.trans h.rbox) h.ne _, ?_, ?_, ?_, h.ne, h.rm, ?_, ?_, ?_, h.lb, h.lr, h.lm, ?_⟩
  · have hb := set_block (i := 9) (hcb.trans h.box) (.slice a' (m.out ++ [z]).length cap)
    rw [hlen] at hb
    show _ = some (Obj.cells #[.slice (some ⟨gr, 0, none⟩) 8 cr, .int .i64 m.pc, .int .i64 m.back, .bool m.ints, .bool m.wait, .int .i64 m.table, .int .i64 m.count, .int .i64 m.fin, .slice (some ⟨mb, 0, none⟩) 256 cm, .slice a' (m.out ++ [z]).length cap, .int .i64 m.ready, .int .i64 m.want] _ _)
    rw [hlen]
    exact hb
  · exact (h.regs.kept hg (Or.inr (fun e => h.ro e.symm))).kept hgs (Or.inr (by have := h.grb; simp [Value.ownBlock]; exact this))
  · exact (h.mem.kept hg (Or.inr (fun e => h.mo e.symm))).kept hgs (Or.inr (by have := h.mbb; simp [Value.ownBlock]; exact this))
  · show World.ownsRow _ _ _ _ (.slice _ (m.out ++ [z]).length _) (m.out ++ [z]).length ((m.out ++ [z]).map _)
    rw [hlen, List.map_append]
    exact hn.kept hgs (Or.inr (hx h.blt h.one))
  · show (Value.slice a' (m.out ++ [z]).length cap).ownBlock ≠ some gr
    rw [hlen]; exact hx h.rlt h.ro
  · show (Value.slice a' (m.out ++ [z]).length cap).ownBlock ≠ some mb
    rw [hlen]; exact hx h.mlt h.mo
  · exact (h.old.grown hg (fun k hk => h.lo k hk)).setCell h.lb _
  · show ∀ g, (Value.slice a' (m.out ++ [z]).length cap).ownBlock = some g → _
    rw [hlen]
    intro g e
    rcases hnew with q | q
    · rw [q] at e; exact h.lo g e
    · rw [q] at e; injection e with e; exact Or.inr (by have := h.old.size; omega)
end
end Go.Proofs.Ytbenfbfbohecmaa
