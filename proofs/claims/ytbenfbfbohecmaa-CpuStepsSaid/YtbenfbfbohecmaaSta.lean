/- The pure step, part by part, as the document's stepped does it; what stepped leaves in memory. No condition beyond those of each row. -/
import Derived.Test.YtbenfbfbohecmaaRq
namespace Go.Proofs.Ytbenfbfbohecmaa
open Go Go.RowKit Go.ChangeShapes Go.WideShapes Go.Deep
set_option linter.unusedVariables false

theorem irqM_or {m : Mach} (h : m.fin = 0) (irq x : Bool) (hx : (m.wait || irq) = x) : irqM m irq = { m with wait := x } := by
  subst hx
  unfold irqM
  cases irq with
  | true => rw [if_pos ⟨h, rfl⟩]; simp
  | false => rw [if_neg (fun k => by cases k.2)]; simp
theorem irqM_fin (m : Mach) (irq : Bool) : (irqM m irq).fin = m.fin ∧ (irqM m irq).count = m.count := by
  unfold irqM; split <;> exact ⟨rfl, rfl⟩
theorem blockM_fin (m : Mach) (b : List Int) : (blockM m b).fin = m.fin ∧ (blockM m b).count = m.count := by
  unfold blockM comesM; repeat' split
  all_goals exact ⟨rfl, rfl⟩
theorem enterM_fin (m : Mach) : (enterM m).fin = m.fin ∧ (enterM m).count = m.count := by
  unfold enterM; split <;> exact ⟨rfl, rfl⟩
theorem stepM_end {m : Mach} (h : m.fin ≠ 0) (irq : Bool) (b : List Int) (v : Int) : stepM m irq b v = (m, -1) := by
  have h1 : irqM m irq = m := by unfold irqM; rw [if_neg (fun k => h k.1)]
  have h2 : blockM m b = m := by
    unfold blockM comesM; split
    · rfl
    · rw [if_pos (Or.inr h)]
  have h3 : enterM m = m := by unfold enterM; rw [if_neg (fun k => h k.2.2)]
  unfold stepM
  rw [h1, h2, h3]
  unfold execM
  rw [if_pos h]
def setC (c : Int) (r : Mach × Int × Int) : Mach × Int × Int := ({ r.1 with count := c }, r.2)
theorem doM_tick (m : Mach) (c op a b n v : Int) : doM { m with count := c } op a b n v = setC c (doM m op a b n v) := by
  unfold doM
  simp only [apply_ite (setC c)]
  by_cases hw : m.want < 0
  · simp only [if_pos hw]
    rfl
  · simp only [if_neg hw]
    rfl
/-- What an instruction, or none, leaves of a guest whose count has gone on. -/
def ranM (m : Mach) (v : Int) : Mach × Int :=
  if (nextZ m).2 ≠ 0 then ({ m with fin := (nextZ m).2 }, -1)
  else ({ (doM m (decOp (nextZ m).1) (decA (nextZ m).1) (decB (nextZ m).1) (decN (nextZ m).1) v).1 with fin := (doM m (decOp (nextZ m).1) (decA (nextZ m).1) (decB (nextZ m).1) (decN (nextZ m).1) v).2.1 }, (doM m (decOp (nextZ m).1) (decA (nextZ m).1) (decB (nextZ m).1) (decN (nextZ m).1) v).2.2)
theorem execM_ran {m : Mach} (h : m.fin = 0) (v : Int) : execM m v = ranM { m with count := m.count + 1 } v := by
  unfold execM ranM
  rw [if_neg (by simpa using h)]
  rw [show nextZ { m with count := m.count + 1 } = nextZ m from rfl]
  split
  · rfl
  · rw [doM_tick m (m.count + 1)]
    rfl
/-- What a switch over the instructions leaves: the guest, where it goes on, the word that it wrote. -/
def RanR (m5 : Mach) (nx wr : Int) (r : Mach × Int × Int) : Prop :=
  (m5.fin = 0 ∧ r = (m5.goTo nx, 0, wr)) ∨ (m5.fin ≠ 0 ∧ r = ({ m5 with fin := 0 }, m5.fin, wr))
theorem fin_zero {m : Mach} (h : m.fin = 0) : ({ m with fin := 0 } : Mach) = m := by rw [← h]
theorem RanR.bad {m : Mach} (h : m.fin = 0) {e : Int} (he : e ≠ 0) (nx : Int) {r : Mach × Int × Int} (hr : r = (m, e, -1)) : RanR { m with fin := e } nx (-1) r := by
  subst hr
  exact Or.inr ⟨he, by show _ = (({ m with fin := 0 } : Mach), _, _); rw [fin_zero h]⟩
theorem RanR.go {m5 : Mach} {nx wr : Int} {r : Mach × Int × Int} (h0 : m5.fin = 0) (h : RanR m5 nx wr r) : (({ r.1 with fin := r.2.1 } : Mach), r.2.2) = (m5.goTo nx, wr) := by
  rcases h with ⟨_, rfl⟩ | ⟨h, _⟩
  · have : ({ (m5.goTo nx) with fin := 0 } : Mach) = m5.goTo nx := by unfold Mach.goTo; rw [← h0]
    dsimp only; rw [this]
  · exact absurd h0 h
theorem RanR.stop {m5 : Mach} {nx wr : Int} {r : Mach × Int × Int} (h0 : m5.fin ≠ 0) (h : RanR m5 nx wr r) : (({ r.1 with fin := r.2.1 } : Mach), r.2.2) = (m5, wr) := by
  rcases h with ⟨h, _⟩ | ⟨_, rfl⟩
  · exact absurd h h0
  · rfl

/-- What the document's stepped leaves of the guest; rb is the result's box. -/
structure ZM (w0 : World) (D : Nat → Prop) (rb gr cr mb cm : Nat) (m : Mach) (ao : Option Addr) (co : Nat) (w : World) : Prop where
  rbox : ∃ cs, w.heap[rb]? = some (.cells cs 24 (0, 0))
  regs : w.ownsRow 0 3 1 (.slice (some ⟨gr, 0, none⟩) 8 cr) 8 (m.regs.map (Value.int .i64))
  mem : w.ownsRow 0 3 1 (.slice (some ⟨mb, 0, none⟩) 256 cm) 256 (m.mem.map (Value.int .i64))
  out : w.ownsRow 0 3 1 (.slice ao m.out.length co) m.out.length (m.out.map (Value.int .i64))
  rm : gr ≠ mb
  ro : (Value.slice ao m.out.length co).ownBlock ≠ some gr
  mo : (Value.slice ao m.out.length co).ownBlock ≠ some mb
  old : OutF D w0 w
  lr : D gr ∨ w0.heap.size ≤ gr
  lm : D mb ∨ w0.heap.size ≤ mb
  lo : ∀ g, (Value.slice ao m.out.length co).ownBlock = some g → D g ∨ w0.heap.size ≤ g
section
variable {w0 w : World} {D : Nat → Prop} {rb bb gr cr mb cm : Nat} {m : Mach} {ao : Option Addr} {co : Nat}
theorem ZSt.zm (h : ZSt w0 D rb bb gr cr mb cm m ao co w) : ZM w0 D rb gr cr mb cm m ao co w := ⟨⟨_, h.rbox⟩, h.regs, h.mem, h.out, h.rm, h.ro, h.mo, h.old, h.lr, h.lm, h.lo⟩
theorem ZM.step (h : ZM w0 D rb gr cr mb cm m ao co w) (hr : D rb ∨ w0.heap.size ≤ rb) (i : Nat) (u : Value) : ZM w0 D rb gr cr mb cm m ao co (w.setCell ⟨rb, i, none⟩ u) := by
  obtain ⟨cs, hb⟩ := h.rbox
  have hg : w.grownBy (w.setCell ⟨rb, i, none⟩ u) (some rb) := grown_set' w rb i u
  have n1 := own_ne_block h.regs hb (by decide)
  have n2 := own_ne_block h.mem hb (by decide)
  have n3 := own_ne_block h.out hb (by decide)
  exact ⟨⟨_, set_block hb u⟩, h.regs.kept hg (Or.inr (fun e => n1 e.symm)), h.mem.kept hg (Or.inr (fun e => n2 e.symm)), h.out.kept hg (Or.inr (fun e => n3 e.symm)), h.rm, h.ro, h.mo, h.old.setCell hr u, h.lr, h.lm, h.lo⟩
theorem ZM.drew (h : ZM w0 D rb gr cr mb cm m ao co w) : ZM w0 D rb gr cr mb cm m ao co w.drew := ⟨h.rbox, h.regs, h.mem, h.out, h.rm, h.ro, h.mo, h.old.drewN 1, h.lr, h.lm, h.lo⟩
end
/-- The guest as an argument or a result of the document's stepped: its slices lie in memory of their own. -/
structure ZA (w0 : World) (D : Nat → Prop) (gr cr mb cm : Nat) (m : Mach) (ao : Option Addr) (co : Nat) (w : World) : Prop where
  regs : w.ownsRow 0 3 1 (.slice (some ⟨gr, 0, none⟩) 8 cr) 8 (m.regs.map (Value.int .i64))
  mem : w.ownsRow 0 3 1 (.slice (some ⟨mb, 0, none⟩) 256 cm) 256 (m.mem.map (Value.int .i64))
  out : w.ownsRow 0 3 1 (.slice ao m.out.length co) m.out.length (m.out.map (Value.int .i64))
  rm : gr ≠ mb
  ro : (Value.slice ao m.out.length co).ownBlock ≠ some gr
  mo : (Value.slice ao m.out.length co).ownBlock ≠ some mb
  old : OutF D w0 w
  lr : D gr ∨ w0.heap.size ≤ gr
  lm : D mb ∨ w0.heap.size ≤ mb
  lo : ∀ g, (Value.slice ao m.out.length co).ownBlock = some g → D g ∨ w0.heap.size ≤ g
theorem ZM.za {w0 w : World} {D : Nat → Prop} {rb gr cr mb cm : Nat} {m : Mach} {ao : Option Addr} {co : Nat} (h : ZM w0 D rb gr cr mb cm m ao co w) : ZA w0 D gr cr mb cm m ao co w := ⟨h.regs, h.mem, h.out, h.rm, h.ro, h.mo, h.old, h.lr, h.lm, h.lo⟩
theorem ZA.kept {w0 w w' : World} {D : Nat → Prop} {gr cr mb cm : Nat} {m : Mach} {ao : Option Addr} {co : Nat} (h : ZA w0 D gr cr mb cm m ao co w) (hb : Below w.heap.size w w') : ZA w0 D gr cr mb cm m ao co w' :=
  ⟨own_below h.regs hb (Nat.le_refl _), own_below h.mem hb (Nat.le_refl _), own_below h.out hb (Nat.le_refl _), h.rm, h.ro, h.mo, h.old.trans (OutF.of hb (fun _ => False)) (fun _ q => q.elim), h.lr, h.lm, h.lo⟩
theorem ZA.lt {w0 w : World} {D : Nat → Prop} {gr cr mb cm : Nat} {m : Mach} {ao : Option Addr} {co : Nat} (h : ZA w0 D gr cr mb cm m ao co w) : gr < w.heap.size ∧ mb < w.heap.size := ⟨(h.regs.lt gr rfl).2, (h.mem.lt mb rfl).2⟩
/-- The boxes are laid. -/
theorem ZA.start {w0 w : World} {D : Nat → Prop} {gr cr mb cm : Nat} {m : Mach} {ao : Option Addr} {co : Nat} (h : ZA w0 D gr cr mb cm m ao co w) : ZSt w0 D (w.heap.size + 1) w.heap.size gr cr mb cm m ao co ((w.alloc (.cells #[.slice (some ⟨gr, 0, none⟩) 8 cr, .int .i64 m.pc, .int .i64 m.back, .bool m.ints, .bool m.wait, .int .i64 m.table, .int .i64 m.count, .int .i64 m.fin, .slice (some ⟨mb, 0, none⟩) 256 cm, .slice ao m.out.length co, .int .i64 m.ready, .int .i64 m.want] 24 (0, 0))).alloc (.cells #[.slice none 0 0, .int .i64 0, .int .i64 0, .bool false, .bool false, .int .i64 0, .int .i64 0, .int .i64 0, .slice none 0 0, .slice none 0 0, .int .i64 0, .int .i64 0] 24 (0, 0))) := by
  have k := h.kept (below_alloc2 w (.cells #[.slice (some ⟨gr, 0, none⟩) 8 cr, .int .i64 m.pc, .int .i64 m.back, .bool m.ints, .bool m.wait, .int .i64 m.table, .int .i64 m.count, .int .i64 m.fin, .slice (some ⟨mb, 0, none⟩) 256 cm, .slice ao m.out.length co, .int .i64 m.ready, .int .i64 m.want] 24 (0, 0)) (.cells #[.slice none 0 0, .int .i64 0, .int .i64 0, .bool false, .bool false, .int .i64 0, .int .i64 0, .int .i64 0, .slice none 0 0, .slice none 0 0, .int .i64 0, .int .i64 0] 24 (0, 0)))
  exact ⟨(alloc_lt (by simp)).trans (alloc_at rfl), alloc_at (by simp), k.regs, k.mem, k.out, by omega, k.rm, k.ro, k.mo, k.old, Or.inr h.old.size, k.lr, k.lm, k.lo⟩
def ZdPost (w0 : World) (D : Nat → Prop) (gr cr mb cm : Nat) (r : Mach × Int) (e : Ending) (w' : World) : Prop := ∃ ao co, e = .returned (.tuple #[.agg #[.slice (some ⟨gr, 0, none⟩) 8 cr, .int .i64 r.1.pc, .int .i64 r.1.back, .bool r.1.ints, .bool r.1.wait, .int .i64 r.1.table, .int .i64 r.1.count, .int .i64 r.1.fin, .slice (some ⟨mb, 0, none⟩) 256 cm, .slice ao r.1.out.length co, .int .i64 r.1.ready, .int .i64 r.1.want], .int .i64 r.2]) ∧ ZA w0 D gr cr mb cm r.1 ao co w'
end Go.Proofs.Ytbenfbfbohecmaa
