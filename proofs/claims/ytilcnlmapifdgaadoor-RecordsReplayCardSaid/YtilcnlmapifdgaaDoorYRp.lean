/- Several texts joined, each with its own heading in the notes: The document's guest in a world: its box, its slices, and a result's box; what each change leaves. The document's guest in a world, of which some old blocks may be written: its box, its slices, a result's box; what each change leaves. The pure step, part by part, as the document's stepped does it; what stepped leaves in memory. No condition beyond those of each row. -/
import Derived.Test.YtilcnlmapifdgaaDoorYSz
import Derived.Test.YtilcnlmapifdgaaDoorYOi
import Derived.Test.YtilcnlmapifdgaaDoorYCpu1
import Derived.Handy
namespace Go.Proofs.YtilcnlmapifdgaaDoor
open Go Go.RowKit Go.ChangeShapes Go.WideShapes Go.Deep
set_option linter.unusedVariables false

/-- The guest lies in block bb, its registers in gr, its memory in mb; rb is a result's box that nobody has written; all of these are new since w0. -/
structure KRSt (w0 : World) (rb bb gr cr mb cm : Nat) (m : Mach) (ao : Option Addr) (co : Nat) (w : World) : Prop where
  box : w.heap[bb]? = some (.cells #[.slice (some ⟨gr, 0, none⟩) 8 cr, .int .i64 m.pc, .int .i64 m.back, .bool m.ints, .bool m.wait, .int .i64 m.table, .int .i64 m.count, .int .i64 m.fin, .slice (some ⟨mb, 0, none⟩) 256 cm, .slice ao m.out.length co, .int .i64 m.ready, .int .i64 m.want] 29 (0, 0))
  rbox : w.heap[rb]? = some (.cells #[.slice none 0 0, .int .i64 0, .int .i64 0, .bool false, .bool false, .int .i64 0, .int .i64 0, .int .i64 0, .slice none 0 0, .slice none 0 0, .int .i64 0, .int .i64 0] 29 (0, 0))
  regs : w.ownsRow 0 3 1 (.slice (some ⟨gr, 0, none⟩) 8 cr) 8 (m.regs.map (Value.int .i64))
  mem : w.ownsRow 0 3 1 (.slice (some ⟨mb, 0, none⟩) 256 cm) 256 (m.mem.map (Value.int .i64))
  out : w.ownsRow 0 3 1 (.slice ao m.out.length co) m.out.length (m.out.map (Value.int .i64))
  ne : rb ≠ bb
  rm : gr ≠ mb
  ro : (Value.slice ao m.out.length co).ownBlock ≠ some gr
  mo : (Value.slice ao m.out.length co).ownBlock ≠ some mb
  old : Below w0.heap.size w0 w
  lb : w0.heap.size ≤ bb
  lr : w0.heap.size ≤ gr
  lm : w0.heap.size ≤ mb
  lo : ∀ g, (Value.slice ao m.out.length co).ownBlock = some g → w0.heap.size ≤ g
def RS (w0 : World) (rb bb gr cr mb cm : Nat) (m : Mach) (w : World) : Prop := ∃ ao co, KRSt w0 rb bb gr cr mb cm m ao co w
theorem own_cellAt {w : World} {g c n : Nat} {zs : List Int} (h : w.ownsRow 0 3 1 (.slice (some ⟨g, 0, none⟩) n c) n (zs.map (Value.int .i64))) {k : Nat} (hk : k < n) : w.cell? ⟨g, k, none⟩ = some (.int .i64 (zs.getD k 0)) := by
  have hl : zs.length = n := by have := h.1; simpa using this
  rw [h.cellAt k (by omega), List.getElem?_map, List.getElem?_eq_getElem (by omega), List.getD_eq_getElem?_getD, List.getElem?_eq_getElem (by omega)]
  rfl

section
variable {w0 w : World} {rb bb gr cr mb cm : Nat} {m : Mach} {ao : Option Addr} {co : Nat}
theorem KRSt.rs (h : KRSt w0 rb bb gr cr mb cm m ao co w) : RS w0 rb bb gr cr mb cm m w := ⟨ao, co, h⟩
theorem KRSt.blt (h : KRSt w0 rb bb gr cr mb cm m ao co w) : bb < w.heap.size := (Array.getElem?_eq_some_iff.1 h.box).1
theorem KRSt.rbl (h : KRSt w0 rb bb gr cr mb cm m ao co w) : rb < w.heap.size := (Array.getElem?_eq_some_iff.1 h.rbox).1
theorem KRSt.rlt (h : KRSt w0 rb bb gr cr mb cm m ao co w) : gr < w.heap.size := (h.regs.lt gr rfl).2
theorem KRSt.mlt (h : KRSt w0 rb bb gr cr mb cm m ao co w) : mb < w.heap.size := (h.mem.lt mb rfl).2
theorem KRSt.grb (h : KRSt w0 rb bb gr cr mb cm m ao co w) : gr ≠ bb := fun e => by subst e; exact own_ne_block h.regs h.box (by decide) rfl
theorem KRSt.grr (h : KRSt w0 rb bb gr cr mb cm m ao co w) : gr ≠ rb := fun e => by subst e; exact own_ne_block h.regs h.rbox (by decide) rfl
theorem KRSt.mbb (h : KRSt w0 rb bb gr cr mb cm m ao co w) : mb ≠ bb := fun e => by subst e; exact own_ne_block h.mem h.box (by decide) rfl
theorem KRSt.one (h : KRSt w0 rb bb gr cr mb cm m ao co w) : (Value.slice ao m.out.length co).ownBlock ≠ some bb := (own_ne_block h.out h.box (by decide)).symm
theorem KRSt.onr (h : KRSt w0 rb bb gr cr mb cm m ao co w) : (Value.slice ao m.out.length co).ownBlock ≠ some rb := (own_ne_block h.out h.rbox (by decide)).symm
theorem KRSt.reg_at (h : KRSt w0 rb bb gr cr mb cm m ao co w) {a : Nat} (ha : a < 8) : w.cell? ⟨gr, a, none⟩ = some (.int .i64 (m.reg a)) := by
  have := own_cellAt h.regs ha
  rw [this]; unfold Mach.reg; rw [Int.toNat_natCast]
theorem KRSt.kept (h : KRSt w0 rb bb gr cr mb cm m ao co w) {w' : World} (hb : Below w.heap.size w w') : KRSt w0 rb bb gr cr mb cm m ao co w' :=
  ⟨block_below hb h.box h.blt, block_below hb h.rbox h.rbl, own_below h.regs hb (Nat.le_refl _), own_below h.mem hb (Nat.le_refl _), own_below h.out hb (Nat.le_refl _), h.ne, h.rm, h.ro, h.mo, h.old.trans (hb.mono h.old.size), h.lb, h.lr, h.lm, h.lo⟩
theorem KRSt.alloc (h : KRSt w0 rb bb gr cr mb cm m ao co w) (o : Obj) : KRSt w0 rb bb gr cr mb cm m ao co (w.alloc o) := h.kept (below_alloc w o)
theorem KRSt.drewN (h : KRSt w0 rb bb gr cr mb cm m ao co w) (n : Nat) : KRSt w0 rb bb gr cr mb cm m ao co (w.drewN n) := h.kept (below_drewN (Below.refl _ _) n)
theorem KRSt.drew (h : KRSt w0 rb bb gr cr mb cm m ao co w) : KRSt w0 rb bb gr cr mb cm m ao co w.drew := h.drewN 1
/-- A store into the guest's box. -/
theorem KRSt.put (h : KRSt w0 rb bb gr cr mb cm m ao co w) (i : Nat) (u : Value) (m' : Mach)
    (hb : (#[.slice (some ⟨gr, 0, none⟩) 8 cr, .int .i64 m.pc, .int .i64 m.back, .bool m.ints, .bool m.wait, .int .i64 m.table, .int .i64 m.count, .int .i64 m.fin, .slice (some ⟨mb, 0, none⟩) 256 cm, .slice ao m.out.length co, .int .i64 m.ready, .int .i64 m.want] : Array Value).setIfInBounds i u = #[.slice (some ⟨gr, 0, none⟩) 8 cr, .int .i64 m'.pc, .int .i64 m'.back, .bool m'.ints, .bool m'.wait, .int .i64 m'.table, .int .i64 m'.count, .int .i64 m'.fin, .slice (some ⟨mb, 0, none⟩) 256 cm, .slice ao m.out.length co, .int .i64 m'.ready, .int .i64 m'.want])
    (hr : m'.regs = m.regs) (hm : m'.mem = m.mem) (ho : m'.out = m.out) : KRSt w0 rb bb gr cr mb cm m' ao co (w.setCell ⟨bb, i, none⟩ u) := by
  have hg : w.grownBy (w.setCell ⟨bb, i, none⟩ u) (some bb) := grown_set' w bb i u
  refine ⟨?_, ?_, ?_, ?_, ?_, h.ne, h.rm, by rw [ho]; exact h.ro, by rw [ho]; exact h.mo, h.old.setCell h.lb u, h.lb, h.lr, h.lm, by rw [ho]; exact h.lo⟩
  · rw [ho, ← hb]; exact set_block h.box u
  · exact set_block_ne h.rbox h.ne u
  · rw [hr]; exact h.regs.kept hg (Or.inr (by have := h.grb; simp [Value.ownBlock]; exact this))
  · rw [hm]; exact h.mem.kept hg (Or.inr (by have := h.mbb; simp [Value.ownBlock]; exact this))
  · rw [ho]; exact h.out.kept hg (Or.inr h.one)
/-- A store into a register. -/
theorem KRSt.setReg (h : KRSt w0 rb bb gr cr mb cm m ao co w) (a : Nat) (z : Int) : KRSt w0 rb bb gr cr mb cm (m.setReg a z) ao co (w.setCell ⟨gr, a, none⟩ (.int .i64 z)) := by
  obtain ⟨hs, hg⟩ := h.regs.stored a (.int .i64 z)
  refine ⟨set_block_ne h.box (fun e => h.grb e.symm) _, set_block_ne h.rbox (fun e => h.grr e.symm) _, ?_, h.mem.kept hg (Or.inr (by have := h.rm; simp [Value.ownBlock]; exact fun e => this e.symm)), h.out.kept hg (Or.inr h.ro), h.ne, h.rm, h.ro, h.mo, h.old.setCell h.lr _, h.lb, h.lr, h.lm, h.lo⟩
  show World.ownsRow _ _ _ _ _ _ ((m.regs.set (a : Int).toNat z).map _)
  rw [List.map_set, Int.toNat_natCast]; exact hs
/-- What is told: a word more. -/
theorem KRSt.tell (h : KRSt w0 rb bb gr cr mb cm m ao co w) {w' : World} {z : Int} {a' : Option Addr} {cap : Nat} (hg : w.grownBy w' (Value.slice ao m.out.length co).ownBlock) (hn : w'.ownsRow 0 3 1 (.slice a' (m.out.length + 1) cap) (m.out.length + 1) (m.out.map (Value.int .i64) ++ [.int .i64 z])) (hnew : (Value.slice a' (m.out.length + 1) cap).ownBlock = (Value.slice ao m.out.length co).ownBlock ∨ (Value.slice a' (m.out.length + 1) cap).ownBlock = some w.heap.size) : KRSt w0 rb bb gr cr mb cm { m with out := m.out ++ [z] } a' cap (w'.setCell ⟨bb, 9, none⟩ (.slice a' (m.out.length + 1) cap)) := by
  have hcb : w'.heap[bb]? = w.heap[bb]? := hg.block bb h.blt (fun e => h.one e.symm)
  have hrb : w'.heap[rb]? = w.heap[rb]? := hg.block rb h.rbl (fun e => h.onr e.symm)
  have hlen : (m.out ++ [z]).length = m.out.length + 1 := by simp
  have hgs : w'.grownBy (w'.setCell ⟨bb, 9, none⟩ (.slice a' (m.out.length + 1) cap)) (some bb) := grown_set' w' bb 9 _
  have hx : ∀ {k : Nat}, k < w.heap.size → (Value.slice ao m.out.length co).ownBlock ≠ some k → (Value.slice a' (m.out.length + 1) cap).ownBlock ≠ some k := by
    intro k hk hne
    rcases hnew with e | e
    · rw [e]; exact hne
    · rw [e]; intro q; injection q with q; omega
  refine ⟨?_, set_block_ne (hrb.trans h.rbox) h.ne _, ?_, ?_, ?_, h.ne, h.rm, ?_, ?_, ?_, h.lb, h.lr, h.lm, ?_⟩
  · have hb := set_block (i := 9) (hcb.trans h.box) (.slice a' (m.out ++ [z]).length cap)
    rw [hlen] at hb
    show _ = some (Obj.cells #[.slice (some ⟨gr, 0, none⟩) 8 cr, .int .i64 m.pc, .int .i64 m.back, .bool m.ints, .bool m.wait, .int .i64 m.table, .int .i64 m.count, .int .i64 m.fin, .slice (some ⟨mb, 0, none⟩) 256 cm, .slice a' (m.out ++ [z]).length cap, .int .i64 m.ready, .int .i64 m.want] _ _)
    rw [hlen]
    exact hb
  · exact (h.regs.kept hg (Or.inr (fun e => h.ro e.symm))).kept hgs (Or.inr (by have := h.grb; simp [Value.ownBlock]; exact this))
  · exact (h.mem.kept hg (Or.inr (fun e => h.mo e.symm))).kept hgs (Or.inr (by have := h.mbb; simp [Value.ownBlock]; exact this))
  · show World.ownsRow _ _ _ _ (.slice _ (m.out ++ [z]).length _) (m.out ++ [z]).length ((m.out ++ [z]).map _)
    rw [hlen, List.map_append]
    exact hn.kept hgs (Or.inr (hx h.blt h.one))
  · show (Value.slice a' (m.out ++ [z]).length cap).ownBlock ≠ some gr
    rw [hlen]; exact hx h.rlt h.ro
  · show (Value.slice a' (m.out ++ [z]).length cap).ownBlock ≠ some mb
    rw [hlen]; exact hx h.mlt h.mo
  · have hB : Below w0.heap.size w w' := by
      refine ⟨hg.os, hg.tape, hg.output, hg.size, fun k hk => hg.block k (Nat.lt_of_lt_of_le hk h.old.size) (fun e => ?_)⟩
      have := h.lo k e.symm
      omega
    exact (h.old.trans hB).setCell h.lb _
  · show ∀ g, (Value.slice a' (m.out ++ [z]).length cap).ownBlock = some g → _
    rw [hlen]
    intro g e
    rcases hnew with q | q
    · rw [q] at e; exact h.lo g e
    · rw [q] at e; injection e with e; have := h.old.size; omega
end
end Go.Proofs.YtilcnlmapifdgaaDoor
namespace Go.Proofs.YtilcnlmapifdgaaDoor
open Go Go.RowKit Go.ChangeShapes Go.WideShapes Go.Deep
set_option linter.unusedVariables false

/-- The guest lies in block bb, its registers in gr, its memory in mb; rb is a result's box that nobody has written; all of these are new since w0. -/
structure ZSt (w0 : World) (D : Nat → Prop) (rb bb gr cr mb cm : Nat) (m : Mach) (ao : Option Addr) (co : Nat) (w : World) : Prop where
  box : w.heap[bb]? = some (.cells #[.slice (some ⟨gr, 0, none⟩) 8 cr, .int .i64 m.pc, .int .i64 m.back, .bool m.ints, .bool m.wait, .int .i64 m.table, .int .i64 m.count, .int .i64 m.fin, .slice (some ⟨mb, 0, none⟩) 256 cm, .slice ao m.out.length co, .int .i64 m.ready, .int .i64 m.want] 29 (0, 0))
  rbox : w.heap[rb]? = some (.cells #[.slice none 0 0, .int .i64 0, .int .i64 0, .bool false, .bool false, .int .i64 0, .int .i64 0, .int .i64 0, .slice none 0 0, .slice none 0 0, .int .i64 0, .int .i64 0] 29 (0, 0))
  regs : w.ownsRow 0 3 1 (.slice (some ⟨gr, 0, none⟩) 8 cr) 8 (m.regs.map (Value.int .i64))
  mem : w.ownsRow 0 3 1 (.slice (some ⟨mb, 0, none⟩) 256 cm) 256 (m.mem.map (Value.int .i64))
  out : w.ownsRow 0 3 1 (.slice ao m.out.length co) m.out.length (m.out.map (Value.int .i64))
  ne : rb ≠ bb
  rm : gr ≠ mb
  ro : (Value.slice ao m.out.length co).ownBlock ≠ some gr
  mo : (Value.slice ao m.out.length co).ownBlock ≠ some mb
  old : OutF D w0 w
  lb : D bb ∨ w0.heap.size ≤ bb
  lr : D gr ∨ w0.heap.size ≤ gr
  lm : D mb ∨ w0.heap.size ≤ mb
  lo : ∀ g, (Value.slice ao m.out.length co).ownBlock = some g → D g ∨ w0.heap.size ≤ g
def ZS (w0 : World) (D : Nat → Prop) (rb bb gr cr mb cm : Nat) (m : Mach) (w : World) : Prop := ∃ ao co, ZSt w0 D rb bb gr cr mb cm m ao co w
section
variable {w0 w : World} {D : Nat → Prop} {rb bb gr cr mb cm : Nat} {m : Mach} {ao : Option Addr} {co : Nat}
theorem ZSt.zs (h : ZSt w0 D rb bb gr cr mb cm m ao co w) : ZS w0 D rb bb gr cr mb cm m w := ⟨ao, co, h⟩
theorem ZSt.blt (h : ZSt w0 D rb bb gr cr mb cm m ao co w) : bb < w.heap.size := (Array.getElem?_eq_some_iff.1 h.box).1
theorem ZSt.rbl (h : ZSt w0 D rb bb gr cr mb cm m ao co w) : rb < w.heap.size := (Array.getElem?_eq_some_iff.1 h.rbox).1
theorem ZSt.rlt (h : ZSt w0 D rb bb gr cr mb cm m ao co w) : gr < w.heap.size := (h.regs.lt gr rfl).2
theorem ZSt.mlt (h : ZSt w0 D rb bb gr cr mb cm m ao co w) : mb < w.heap.size := (h.mem.lt mb rfl).2
theorem ZSt.grb (h : ZSt w0 D rb bb gr cr mb cm m ao co w) : gr ≠ bb := fun e => by subst e; exact own_ne_block h.regs h.box (by decide) rfl
theorem ZSt.grr (h : ZSt w0 D rb bb gr cr mb cm m ao co w) : gr ≠ rb := fun e => by subst e; exact own_ne_block h.regs h.rbox (by decide) rfl
theorem ZSt.mbb (h : ZSt w0 D rb bb gr cr mb cm m ao co w) : mb ≠ bb := fun e => by subst e; exact own_ne_block h.mem h.box (by decide) rfl
theorem ZSt.one (h : ZSt w0 D rb bb gr cr mb cm m ao co w) : (Value.slice ao m.out.length co).ownBlock ≠ some bb := (own_ne_block h.out h.box (by decide)).symm
theorem ZSt.onr (h : ZSt w0 D rb bb gr cr mb cm m ao co w) : (Value.slice ao m.out.length co).ownBlock ≠ some rb := (own_ne_block h.out h.rbox (by decide)).symm
theorem ZSt.reg_at (h : ZSt w0 D rb bb gr cr mb cm m ao co w) {a : Nat} (ha : a < 8) : w.cell? ⟨gr, a, none⟩ = some (.int .i64 (m.reg a)) := by
  have := own_cellAt h.regs ha
  rw [this]; unfold Mach.reg; rw [Int.toNat_natCast]
theorem ZSt.kept (h : ZSt w0 D rb bb gr cr mb cm m ao co w) {w' : World} (hb : Below w.heap.size w w') : ZSt w0 D rb bb gr cr mb cm m ao co w' :=
  ⟨block_below hb h.box h.blt, block_below hb h.rbox h.rbl, own_below h.regs hb (Nat.le_refl _), own_below h.mem hb (Nat.le_refl _), own_below h.out hb (Nat.le_refl _), h.ne, h.rm, h.ro, h.mo, h.old.trans (OutF.of hb (fun _ => False)) (fun _ q => q.elim), h.lb, h.lr, h.lm, h.lo⟩
theorem ZSt.alloc (h : ZSt w0 D rb bb gr cr mb cm m ao co w) (o : Obj) : ZSt w0 D rb bb gr cr mb cm m ao co (w.alloc o) := h.kept (below_alloc w o)
theorem ZSt.drewN (h : ZSt w0 D rb bb gr cr mb cm m ao co w) (n : Nat) : ZSt w0 D rb bb gr cr mb cm m ao co (w.drewN n) := h.kept (below_drewN (Below.refl _ _) n)
theorem ZSt.drew (h : ZSt w0 D rb bb gr cr mb cm m ao co w) : ZSt w0 D rb bb gr cr mb cm m ao co w.drew := h.drewN 1
/-- A store into the guest's box. -/
theorem ZSt.put (h : ZSt w0 D rb bb gr cr mb cm m ao co w) (i : Nat) (u : Value) (m' : Mach)
    (hb : (#[.slice (some ⟨gr, 0, none⟩) 8 cr, .int .i64 m.pc, .int .i64 m.back, .bool m.ints, .bool m.wait, .int .i64 m.table, .int .i64 m.count, .int .i64 m.fin, .slice (some ⟨mb, 0, none⟩) 256 cm, .slice ao m.out.length co, .int .i64 m.ready, .int .i64 m.want] : Array Value).setIfInBounds i u = #[.slice (some ⟨gr, 0, none⟩) 8 cr, .int .i64 m'.pc, .int .i64 m'.back, .bool m'.ints, .bool m'.wait, .int .i64 m'.table, .int .i64 m'.count, .int .i64 m'.fin, .slice (some ⟨mb, 0, none⟩) 256 cm, .slice ao m.out.length co, .int .i64 m'.ready, .int .i64 m'.want])
    (hr : m'.regs = m.regs) (hm : m'.mem = m.mem) (ho : m'.out = m.out) : ZSt w0 D rb bb gr cr mb cm m' ao co (w.setCell ⟨bb, i, none⟩ u) := by
  have hg : w.grownBy (w.setCell ⟨bb, i, none⟩ u) (some bb) := grown_set' w bb i u
  refine ⟨?_, ?_, ?_, ?_, ?_, h.ne, h.rm, by rw [ho]; exact h.ro, by rw [ho]; exact h.mo, h.old.setCell h.lb u, h.lb, h.lr, h.lm, by rw [ho]; exact h.lo⟩
  · rw [ho, ← hb]; exact set_block h.box u
  · exact set_block_ne h.rbox h.ne u
  · rw [hr]; exact h.regs.kept hg (Or.inr (by have := h.grb; simp [Value.ownBlock]; exact this))
  · rw [hm]; exact h.mem.kept hg (Or.inr (by have := h.mbb; simp [Value.ownBlock]; exact this))
  · rw [ho]; exact h.out.kept hg (Or.inr h.one)
/-- A store into a register. -/
theorem ZSt.setReg (h : ZSt w0 D rb bb gr cr mb cm m ao co w) (a : Nat) (z : Int) : ZSt w0 D rb bb gr cr mb cm (m.setReg a z) ao co (w.setCell ⟨gr, a, none⟩ (.int .i64 z)) := by
  obtain ⟨hs, hg⟩ := h.regs.stored a (.int .i64 z)
  refine ⟨set_block_ne h.box (fun e => h.grb e.symm) _, set_block_ne h.rbox (fun e => h.grr e.symm) _, ?_, h.mem.kept hg (Or.inr (by have := h.rm; simp [Value.ownBlock]; exact fun e => this e.symm)), h.out.kept hg (Or.inr h.ro), h.ne, h.rm, h.ro, h.mo, h.old.setCell h.lr _, h.lb, h.lr, h.lm, h.lo⟩
  show World.ownsRow _ _ _ _ _ _ ((m.regs.set (a : Int).toNat z).map _)
  rw [List.map_set, Int.toNat_natCast]; exact hs
/-- What is told: a word more. -/
theorem ZSt.tell (h : ZSt w0 D rb bb gr cr mb cm m ao co w) {w' : World} {z : Int} {a' : Option Addr} {cap : Nat} (hg : w.grownBy w' (Value.slice ao m.out.length co).ownBlock) (hn : w'.ownsRow 0 3 1 (.slice a' (m.out.length + 1) cap) (m.out.length + 1) (m.out.map (Value.int .i64) ++ [.int .i64 z])) (hnew : (Value.slice a' (m.out.length + 1) cap).ownBlock = (Value.slice ao m.out.length co).ownBlock ∨ (Value.slice a' (m.out.length + 1) cap).ownBlock = some w.heap.size) : ZSt w0 D rb bb gr cr mb cm { m with out := m.out ++ [z] } a' cap (w'.setCell ⟨bb, 9, none⟩ (.slice a' (m.out.length + 1) cap)) := by
  have hcb : w'.heap[bb]? = w.heap[bb]? := hg.block bb h.blt (fun e => h.one e.symm)
  have hrb : w'.heap[rb]? = w.heap[rb]? := hg.block rb h.rbl (fun e => h.onr e.symm)
  have hlen : (m.out ++ [z]).length = m.out.length + 1 := by simp
  have hgs : w'.grownBy (w'.setCell ⟨bb, 9, none⟩ (.slice a' (m.out.length + 1) cap)) (some bb) := grown_set' w' bb 9 _
  have hx : ∀ {k : Nat}, k < w.heap.size → (Value.slice ao m.out.length co).ownBlock ≠ some k → (Value.slice a' (m.out.length + 1) cap).ownBlock ≠ some k := by
    intro k hk hne
    rcases hnew with e | e
    · rw [e]; exact hne
    · rw [e]; intro q; injection q with q; omega
  refine ⟨?_, set_block_ne (hrb.trans h.rbox) h.ne _, ?_, ?_, ?_, h.ne, h.rm, ?_, ?_, ?_, h.lb, h.lr, h.lm, ?_⟩
  · have hb := set_block (i := 9) (hcb.trans h.box) (.slice a' (m.out ++ [z]).length cap)
    rw [hlen] at hb
    show _ = some (Obj.cells #[.slice (some ⟨gr, 0, none⟩) 8 cr, .int .i64 m.pc, .int .i64 m.back, .bool m.ints, .bool m.wait, .int .i64 m.table, .int .i64 m.count, .int .i64 m.fin, .slice (some ⟨mb, 0, none⟩) 256 cm, .slice a' (m.out ++ [z]).length cap, .int .i64 m.ready, .int .i64 m.want] _ _)
    rw [hlen]
    exact hb
  · exact (h.regs.kept hg (Or.inr (fun e => h.ro e.symm))).kept hgs (Or.inr (by have := h.grb; simp [Value.ownBlock]; exact this))
  · exact (h.mem.kept hg (Or.inr (fun e => h.mo e.symm))).kept hgs (Or.inr (by have := h.mbb; simp [Value.ownBlock]; exact this))
  · show World.ownsRow _ _ _ _ (.slice _ (m.out ++ [z]).length _) (m.out ++ [z]).length ((m.out ++ [z]).map _)
    rw [hlen, List.map_append]
    exact hn.kept hgs (Or.inr (hx h.blt h.one))
  · show (Value.slice a' (m.out ++ [z]).length cap).ownBlock ≠ some gr
    rw [hlen]; exact hx h.rlt h.ro
  · show (Value.slice a' (m.out ++ [z]).length cap).ownBlock ≠ some mb
    rw [hlen]; exact hx h.mlt h.mo
  · exact (h.old.grown hg (fun k hk => h.lo k hk)).setCell h.lb _
  · show ∀ g, (Value.slice a' (m.out ++ [z]).length cap).ownBlock = some g → _
    rw [hlen]
    intro g e
    rcases hnew with q | q
    · rw [q] at e; exact h.lo g e
    · rw [q] at e; injection e with e; exact Or.inr (by have := h.old.size; omega)
end
end Go.Proofs.YtilcnlmapifdgaaDoor
namespace Go.Proofs.YtilcnlmapifdgaaDoor
open Go Go.RowKit Go.ChangeShapes Go.WideShapes Go.Deep
set_option linter.unusedVariables false

theorem irqM_fin (m : Mach) (irq : Bool) : (irqM m irq).fin = m.fin ∧ (irqM m irq).count = m.count := by
  unfold irqM; split <;> exact ⟨rfl, rfl⟩
theorem blockM_fin (m : Mach) (b : List Int) : (blockM m b).fin = m.fin ∧ (blockM m b).count = m.count := by
  unfold blockM comesM; repeat' split
  all_goals exact ⟨rfl, rfl⟩
theorem enterM_fin (m : Mach) : (enterM m).fin = m.fin ∧ (enterM m).count = m.count := by
  unfold enterM; split <;> exact ⟨rfl, rfl⟩
theorem stepM_end {m : Mach} (h : m.fin ≠ 0) (irq : Bool) (b : List Int) (v : Int) : stepM m irq b v = (m, -1) := by
  have h1 : irqM m irq = m := by unfold irqM; rw [if_neg (fun k => h k.1)]
  have h2 : blockM m b = m := by
    unfold blockM comesM; split
    · rfl
    · rw [if_pos (Or.inr h)]
  have h3 : enterM m = m := by unfold enterM; rw [if_neg (fun k => h k.2.2)]
  unfold stepM
  rw [h1, h2, h3]
  unfold execM
  rw [if_pos h]
/-- What a switch over the instructions leaves: the guest, where it goes on, the word that it wrote. -/
def RanR (m5 : Mach) (nx wr : Int) (r : Mach × Int × Int) : Prop :=
  (m5.fin = 0 ∧ r = (m5.goTo nx, 0, wr)) ∨ (m5.fin ≠ 0 ∧ r = ({ m5 with fin := 0 }, m5.fin, wr))
theorem RanR.go {m5 : Mach} {nx wr : Int} {r : Mach × Int × Int} (h0 : m5.fin = 0) (h : RanR m5 nx wr r) : (({ r.1 with fin := r.2.1 } : Mach), r.2.2) = (m5.goTo nx, wr) := by
  rcases h with ⟨_, rfl⟩ | ⟨h, _⟩
  · have : ({ (m5.goTo nx) with fin := 0 } : Mach) = m5.goTo nx := by unfold Mach.goTo; rw [← h0]
    dsimp only; rw [this]
  · exact absurd h0 h
/-- What the document's stepped leaves of the guest; rb is the result's box. -/
structure ZM (w0 : World) (D : Nat → Prop) (rb gr cr mb cm : Nat) (m : Mach) (ao : Option Addr) (co : Nat) (w : World) : Prop where
  rbox : ∃ cs, w.heap[rb]? = some (.cells cs 29 (0, 0))
  regs : w.ownsRow 0 3 1 (.slice (some ⟨gr, 0, none⟩) 8 cr) 8 (m.regs.map (Value.int .i64))
  mem : w.ownsRow 0 3 1 (.slice (some ⟨mb, 0, none⟩) 256 cm) 256 (m.mem.map (Value.int .i64))
  out : w.ownsRow 0 3 1 (.slice ao m.out.length co) m.out.length (m.out.map (Value.int .i64))
  rm : gr ≠ mb
  ro : (Value.slice ao m.out.length co).ownBlock ≠ some gr
  mo : (Value.slice ao m.out.length co).ownBlock ≠ some mb
  old : OutF D w0 w
  lr : D gr ∨ w0.heap.size ≤ gr
  lm : D mb ∨ w0.heap.size ≤ mb
  lo : ∀ g, (Value.slice ao m.out.length co).ownBlock = some g → D g ∨ w0.heap.size ≤ g
section
variable {w0 w : World} {D : Nat → Prop} {rb bb gr cr mb cm : Nat} {m : Mach} {ao : Option Addr} {co : Nat}
theorem ZSt.zm (h : ZSt w0 D rb bb gr cr mb cm m ao co w) : ZM w0 D rb gr cr mb cm m ao co w := ⟨⟨_, h.rbox⟩, h.regs, h.mem, h.out, h.rm, h.ro, h.mo, h.old, h.lr, h.lm, h.lo⟩
theorem ZM.step (h : ZM w0 D rb gr cr mb cm m ao co w) (hr : D rb ∨ w0.heap.size ≤ rb) (i : Nat) (u : Value) : ZM w0 D rb gr cr mb cm m ao co (w.setCell ⟨rb, i, none⟩ u) := by
  obtain ⟨cs, hb⟩ := h.rbox
  have hg : w.grownBy (w.setCell ⟨rb, i, none⟩ u) (some rb) := grown_set' w rb i u
  have n1 := own_ne_block h.regs hb (by decide)
  have n2 := own_ne_block h.mem hb (by decide)
  have n3 := own_ne_block h.out hb (by decide)
  exact ⟨⟨_, set_block hb u⟩, h.regs.kept hg (Or.inr (fun e => n1 e.symm)), h.mem.kept hg (Or.inr (fun e => n2 e.symm)), h.out.kept hg (Or.inr (fun e => n3 e.symm)), h.rm, h.ro, h.mo, h.old.setCell hr u, h.lr, h.lm, h.lo⟩
theorem ZM.drew (h : ZM w0 D rb gr cr mb cm m ao co w) : ZM w0 D rb gr cr mb cm m ao co w.drew := ⟨h.rbox, h.regs, h.mem, h.out, h.rm, h.ro, h.mo, h.old.drewN 1, h.lr, h.lm, h.lo⟩
end
/-- The guest as an argument or a result of the document's stepped: its slices lie in memory of their own. -/
structure ZA (w0 : World) (D : Nat → Prop) (gr cr mb cm : Nat) (m : Mach) (ao : Option Addr) (co : Nat) (w : World) : Prop where
  regs : w.ownsRow 0 3 1 (.slice (some ⟨gr, 0, none⟩) 8 cr) 8 (m.regs.map (Value.int .i64))
  mem : w.ownsRow 0 3 1 (.slice (some ⟨mb, 0, none⟩) 256 cm) 256 (m.mem.map (Value.int .i64))
  out : w.ownsRow 0 3 1 (.slice ao m.out.length co) m.out.length (m.out.map (Value.int .i64))
  rm : gr ≠ mb
  ro : (Value.slice ao m.out.length co).ownBlock ≠ some gr
  mo : (Value.slice ao m.out.length co).ownBlock ≠ some mb
  old : OutF D w0 w
  lr : D gr ∨ w0.heap.size ≤ gr
  lm : D mb ∨ w0.heap.size ≤ mb
  lo : ∀ g, (Value.slice ao m.out.length co).ownBlock = some g → D g ∨ w0.heap.size ≤ g
theorem ZM.za {w0 w : World} {D : Nat → Prop} {rb gr cr mb cm : Nat} {m : Mach} {ao : Option Addr} {co : Nat} (h : ZM w0 D rb gr cr mb cm m ao co w) : ZA w0 D gr cr mb cm m ao co w := ⟨h.regs, h.mem, h.out, h.rm, h.ro, h.mo, h.old, h.lr, h.lm, h.lo⟩
theorem ZA.kept {w0 w w' : World} {D : Nat → Prop} {gr cr mb cm : Nat} {m : Mach} {ao : Option Addr} {co : Nat} (h : ZA w0 D gr cr mb cm m ao co w) (hb : Below w.heap.size w w') : ZA w0 D gr cr mb cm m ao co w' :=
  ⟨own_below h.regs hb (Nat.le_refl _), own_below h.mem hb (Nat.le_refl _), own_below h.out hb (Nat.le_refl _), h.rm, h.ro, h.mo, h.old.trans (OutF.of hb (fun _ => False)) (fun _ q => q.elim), h.lr, h.lm, h.lo⟩
theorem ZA.lt {w0 w : World} {D : Nat → Prop} {gr cr mb cm : Nat} {m : Mach} {ao : Option Addr} {co : Nat} (h : ZA w0 D gr cr mb cm m ao co w) : gr < w.heap.size ∧ mb < w.heap.size := ⟨(h.regs.lt gr rfl).2, (h.mem.lt mb rfl).2⟩
/-- The boxes are laid. -/
theorem ZA.start {w0 w : World} {D : Nat → Prop} {gr cr mb cm : Nat} {m : Mach} {ao : Option Addr} {co : Nat} (h : ZA w0 D gr cr mb cm m ao co w) : ZSt w0 D (w.heap.size + 1) w.heap.size gr cr mb cm m ao co ((w.alloc (.cells #[.slice (some ⟨gr, 0, none⟩) 8 cr, .int .i64 m.pc, .int .i64 m.back, .bool m.ints, .bool m.wait, .int .i64 m.table, .int .i64 m.count, .int .i64 m.fin, .slice (some ⟨mb, 0, none⟩) 256 cm, .slice ao m.out.length co, .int .i64 m.ready, .int .i64 m.want] 29 (0, 0))).alloc (.cells #[.slice none 0 0, .int .i64 0, .int .i64 0, .bool false, .bool false, .int .i64 0, .int .i64 0, .int .i64 0, .slice none 0 0, .slice none 0 0, .int .i64 0, .int .i64 0] 29 (0, 0))) := by
  have k := h.kept (below_alloc2 w (.cells #[.slice (some ⟨gr, 0, none⟩) 8 cr, .int .i64 m.pc, .int .i64 m.back, .bool m.ints, .bool m.wait, .int .i64 m.table, .int .i64 m.count, .int .i64 m.fin, .slice (some ⟨mb, 0, none⟩) 256 cm, .slice ao m.out.length co, .int .i64 m.ready, .int .i64 m.want] 29 (0, 0)) (.cells #[.slice none 0 0, .int .i64 0, .int .i64 0, .bool false, .bool false, .int .i64 0, .int .i64 0, .int .i64 0, .slice none 0 0, .slice none 0 0, .int .i64 0, .int .i64 0] 29 (0, 0)))
  exact ⟨(alloc_lt (by simp)).trans (alloc_at rfl), alloc_at (by simp), k.regs, k.mem, k.out, by omega, k.rm, k.ro, k.mo, k.old, Or.inr h.old.size, k.lr, k.lm, k.lo⟩
end Go.Proofs.YtilcnlmapifdgaaDoor
