/- A guest's core and its memory in a world: what each change leaves. No condition beyond the readings. -/
import Derived.Test.YtbenfbfbohecmaaMo
namespace Go.Proofs.Ytbenfbfbohecmaa
open Go Go.RowKit Go.ChangeShapes Go.WideShapes Go.Deep
set_option linter.unusedVariables false

/-- The core lies in block cb, its registers in block gr, its memory in the blocks F; of what was there at w0 only the blocks D are changed. -/
structure GSt (St : World → (Nat → Prop) → List Int → Bool → Prop) (w0 : World) (D : Nat → Prop) (cb gr cr : Nat) (vm : Value) (m : Mach) (wrote : Int) (x : Bool) (ao : Option Addr) (co : Nat) (F : Nat → Prop) (w : World) : Prop where
  box : w.heap[cb]? = some (.cells #[.slice (some ⟨gr, 0, none⟩) 8 cr, .int .i64 m.pc, .int .i64 m.back, .bool m.ints, .bool m.wait, .int .i64 m.table, .int .i64 m.count, .int .i64 m.fin, vm, .slice ao m.out.length co, .int .i64 m.ready, .int .i64 m.want, .int .i64 wrote] 37 (0, 0))
  regs : w.ownsRow 0 3 1 (.slice (some ⟨gr, 0, none⟩) 8 cr) 8 (m.regs.map (Value.int .i64))
  out : w.ownsRow 0 3 1 (.slice ao m.out.length co) m.out.length (m.out.map (Value.int .i64))
  mem : St w F m.mem x
  ro : (Value.slice ao m.out.length co).ownBlock ≠ some gr
  fc : ¬ F cb
  fr : ¬ F gr
  fo : ∀ g, (Value.slice ao m.out.length co).ownBlock = some g → ¬ F g
  old : OutF D w0 w
  dc : D cb ∨ w0.heap.size ≤ cb
  dr : D gr ∨ w0.heap.size ≤ gr
  df : ∀ g, F g → D g ∨ w0.heap.size ≤ g
  dq : ∀ g, (Value.slice ao m.out.length co).ownBlock = some g → D g ∨ w0.heap.size ≤ g
def GS (St : World → (Nat → Prop) → List Int → Bool → Prop) (w0 : World) (D : Nat → Prop) (cb gr cr : Nat) (vm : Value) (m : Mach) (wrote : Int) (x : Bool) (w : World) : Prop := ∃ ao co F, GSt St w0 D cb gr cr vm m wrote x ao co F w

theorem grown_set' (w : World) (g i : Nat) (v : Value) : w.grownBy (w.setCell ⟨g, i, none⟩ v) (some g) :=
  ⟨rfl, rfl, rfl, by simp [World.setCell], fun k _ hk => Below.heap_setCell _ _ _ _ (fun e => hk (by rw [e]))⟩

section
variable {t fL fS : Nat} {v : Value} {St : World → (Nat → Prop) → List Int → Bool → Prop} {w0 w : World} {D : Nat → Prop} {cb gr cr : Nat} {vm : Value} {m : Mach} {wrote : Int} {x : Bool} {ao : Option Addr} {co : Nat} {F : Nat → Prop}

theorem GSt.gs (h : GSt St w0 D cb gr cr vm m wrote x ao co F w) : GS St w0 D cb gr cr vm m wrote x w := ⟨ao, co, F, h⟩
theorem GSt.clt (h : GSt St w0 D cb gr cr vm m wrote x ao co F w) : cb < w.heap.size := (Array.getElem?_eq_some_iff.1 h.box).1
theorem GSt.rlt (h : GSt St w0 D cb gr cr vm m wrote x ao co F w) : gr < w.heap.size := (h.regs.lt gr rfl).2
theorem GSt.rne (h : GSt St w0 D cb gr cr vm m wrote x ao co F w) : gr ≠ cb := by
  intro e
  subst e
  exact own_ne_block h.regs h.box (by decide) rfl
theorem GSt.one (h : GSt St w0 D cb gr cr vm m wrote x ao co F w) : (Value.slice ao m.out.length co).ownBlock ≠ some cb := (own_ne_block h.out h.box (by decide)).symm
theorem GSt.rlen (h : GSt St w0 D cb gr cr vm m wrote x ao co F w) : m.regs.length = 8 := by have := h.regs.1; simpa using this
theorem GSt.reg_at (h : GSt St w0 D cb gr cr vm m wrote x ao co F w) {a : Nat} (ha : a < 8) : w.cell? ⟨gr, a, none⟩ = some (.int .i64 (m.reg a)) := by
  rw [h.regs.cellAt a (by omega)]
  have hl := h.rlen
  unfold Mach.reg
  rw [List.getElem?_map, Int.toNat_natCast, List.getElem?_eq_getElem (by omega), List.getD_eq_getElem?_getD, List.getElem?_eq_getElem (by omega)]
  rfl
theorem GSt.reg_free (h : GSt St w0 D cb gr cr vm m wrote x ao co F w) (a : Nat) : w.frozen? ⟨gr, a, none⟩ = false := h.regs.frozenAt a

theorem GSt.kept (hM : MemI t fL fS v St) (h : GSt St w0 D cb gr cr vm m wrote x ao co F w) {w' : World} (hb : ∀ g, g < w.heap.size → w'.heap[g]? = w.heap[g]?) (hs : w.heap.size ≤ w'.heap.size) (ho : OutF D w0 w') : GSt St w0 D cb gr cr vm m wrote x ao co F w' :=
  ⟨(hb _ h.clt).trans h.box, by
    obtain ⟨h1, h2⟩ := h.regs
    refine ⟨h1, ?_⟩
    rcases h2 with h2 | ⟨g, cap, cur, hv, hg, hh, r⟩
    · exact Or.inl h2
    · exact Or.inr ⟨g, cap, cur, hv, hg, (hb _ (Array.getElem?_eq_some_iff.1 hh).1).trans hh, r⟩, by
    obtain ⟨h1, h2⟩ := h.out
    refine ⟨h1, ?_⟩
    rcases h2 with h2 | ⟨g, cap, cur, hv, hg, hh, r⟩
    · exact Or.inl h2
    · exact Or.inr ⟨g, cap, cur, hv, hg, (hb _ (Array.getElem?_eq_some_iff.1 hh).1).trans hh, r⟩,
    hM.stay _ _ _ _ _ h.mem (fun g hg => hb g (hM.lt _ _ _ _ h.mem g hg)) hs, h.ro, h.fc, h.fr, h.fo, ho, h.dc, h.dr, h.df, h.dq⟩
theorem GSt.alloc (hM : MemI t fL fS v St) (h : GSt St w0 D cb gr cr vm m wrote x ao co F w) (o : Obj) : GSt St w0 D cb gr cr vm m wrote x ao co F (w.alloc o) :=
  h.kept hM (fun g hg => Below.heap_alloc _ _ _ hg) (by simp) (h.old.alloc o)
theorem GSt.drewN (hM : MemI t fL fS v St) (h : GSt St w0 D cb gr cr vm m wrote x ao co F w) (n : Nat) : GSt St w0 D cb gr cr vm m wrote x ao co F (w.drewN n) :=
  h.kept hM (fun g hg => rfl) (Nat.le_refl _) (h.old.drewN n)
theorem GSt.drew (hM : MemI t fL fS v St) (h : GSt St w0 D cb gr cr vm m wrote x ao co F w) : GSt St w0 D cb gr cr vm m wrote x ao co F w.drew := h.drewN hM 1
theorem GSt.below (hM : MemI t fL fS v St) (h : GSt St w0 D cb gr cr vm m wrote x ao co F w) {w' : World} (hb : Below w.heap.size w w') : GSt St w0 D cb gr cr vm m wrote x ao co F w' :=
  h.kept hM (fun g hg => hb.block g hg) hb.size (h.old.trans (OutF.of hb (fun _ => False)) (fun _ q => q.elim))

/-- A store into the core's box. -/
theorem GSt.put (hM : MemI t fL fS v St) (h : GSt St w0 D cb gr cr vm m wrote x ao co F w) (i : Nat) (u : Value) (m' : Mach) (wrote' : Int)
    (hb : (#[.slice (some ⟨gr, 0, none⟩) 8 cr, .int .i64 m.pc, .int .i64 m.back, .bool m.ints, .bool m.wait, .int .i64 m.table, .int .i64 m.count, .int .i64 m.fin, vm, .slice ao m.out.length co, .int .i64 m.ready, .int .i64 m.want, .int .i64 wrote] : Array Value).setIfInBounds i u = #[.slice (some ⟨gr, 0, none⟩) 8 cr, .int .i64 m'.pc, .int .i64 m'.back, .bool m'.ints, .bool m'.wait, .int .i64 m'.table, .int .i64 m'.count, .int .i64 m'.fin, vm, .slice ao m.out.length co, .int .i64 m'.ready, .int .i64 m'.want, .int .i64 wrote'])
    (hr : m'.regs = m.regs) (hm : m'.mem = m.mem) (ho : m'.out = m.out) : GSt St w0 D cb gr cr vm m' wrote' x ao co F (w.setCell ⟨cb, i, none⟩ u) := by
  have hg : w.grownBy (w.setCell ⟨cb, i, none⟩ u) (some cb) := grown_set' w cb i u
  refine ⟨?_, ?_, ?_, ?_, by rw [ho]; exact h.ro, h.fc, h.fr, by rw [ho]; exact h.fo, h.old.setCell h.dc u, h.dc, h.dr, h.df, by rw [ho]; exact h.dq⟩
  · rw [ho, ← hb]; exact set_block h.box u
  · rw [hr]; exact h.regs.kept hg (Or.inr (by have := h.rne; simp [Value.ownBlock]; exact this))
  · rw [ho]; exact h.out.kept hg (Or.inr h.one)
  · rw [hm]; exact hM.stay _ _ _ _ _ h.mem (fun g hF => Below.heap_setCell _ _ _ _ (fun e => h.fc (by have e' : g = cb := e; rw [← e']; exact hF))) (by simp [World.setCell])
/-- A store into a register. -/
theorem GSt.setReg (hM : MemI t fL fS v St) (h : GSt St w0 D cb gr cr vm m wrote x ao co F w) (a : Nat) (z : Int) : GSt St w0 D cb gr cr vm (m.setReg a z) wrote x ao co F (w.setCell ⟨gr, a, none⟩ (.int .i64 z)) := by
  obtain ⟨hs, hg⟩ := h.regs.stored a (.int .i64 z)
  refine ⟨?_, ?_, ?_, ?_, h.ro, h.fc, h.fr, h.fo, h.old.setCell h.dr _, h.dc, h.dr, h.df, h.dq⟩
  · exact (Below.heap_setCell _ _ _ _ (fun e => h.rne e.symm)).trans h.box
  · show World.ownsRow _ _ _ _ _ _ ((m.regs.set (a : Int).toNat z).map _)
    rw [List.map_set, Int.toNat_natCast]; exact hs
  · exact h.out.kept hg (Or.inr h.ro)
  · exact hM.stay _ _ _ _ _ h.mem (fun g hF => Below.heap_setCell _ _ _ _ (fun e => h.fr (by have e' : g = gr := e; rw [← e']; exact hF))) (by simp [World.setCell])
/-- What is told: a word more. -/
theorem GSt.tell (hM : MemI t fL fS v St) (h : GSt St w0 D cb gr cr vm m wrote x ao co F w) {w' : World} {z : Int} {a' : Option Addr} {cap : Nat} (hg : w.grownBy w' (Value.slice ao m.out.length co).ownBlock) (hn : w'.ownsRow 0 3 1 (.slice a' (m.out.length + 1) cap) (m.out.length + 1) (m.out.map (Value.int .i64) ++ [.int .i64 z])) (hnew : (Value.slice a' (m.out.length + 1) cap).ownBlock = (Value.slice ao m.out.length co).ownBlock ∨ (Value.slice a' (m.out.length + 1) cap).ownBlock = some w.heap.size) : GSt St w0 D cb gr cr vm { m with out := m.out ++ [z] } wrote x a' cap F (w'.setCell ⟨cb, 9, none⟩ (.slice a' (m.out.length + 1) cap)) := by
  have hcb : w'.heap[cb]? = w.heap[cb]? := hg.block cb h.clt (fun e => h.one e.symm)
  have hlen : (m.out ++ [z]).length = m.out.length + 1 := by simp
  have hgs : w'.grownBy (w'.setCell ⟨cb, 9, none⟩ (.slice a' (m.out.length + 1) cap)) (some cb) := grown_set' w' cb 9 _
  have hg1 : (Value.slice a' (m.out.length + 1) cap).ownBlock ≠ some cb := by
    rcases hnew with e | e
    · rw [e]; exact h.one
    · rw [e]; intro k; injection k with k; have := h.clt; omega
  have hg2 : (Value.slice a' (m.out.length + 1) cap).ownBlock ≠ some gr := by
    rcases hnew with e | e
    · rw [e]; exact h.ro
    · rw [e]; intro k; injection k with k; have := h.rlt; omega
  have hF1 : ∀ g, (Value.slice a' (m.out.length + 1) cap).ownBlock = some g → ¬ F g := by
    intro g hgq
    rcases hnew with e | e
    · rw [e] at hgq; exact h.fo _ hgq
    · rw [e] at hgq; injection hgq with hgq; intro k; have := hM.lt _ _ _ _ h.mem _ k; omega
  have hD : ∀ g, (Value.slice a' (m.out.length + 1) cap).ownBlock = some g → D g ∨ w0.heap.size ≤ g := by
    intro g hgq
    rcases hnew with e | e
    · rw [e] at hgq; exact h.dq _ hgq
    · rw [e] at hgq; injection hgq with hgq; exact Or.inr (by have := h.old.size; omega)
  refine ⟨?_, ?_, ?_, ?_, ?_, h.fc, h.fr, ?_, ?_, h.dc, h.dr, h.df, ?_⟩
  · have hb := set_block (i := 9) (hcb.trans h.box) (.slice a' (m.out ++ [z]).length cap)
    rw [hlen] at hb
    show _ = some (Obj.cells #[.slice (some ⟨gr, 0, none⟩) 8 cr, .int .i64 m.pc, .int .i64 m.back, .bool m.ints, .bool m.wait, .int .i64 m.table, .int .i64 m.count, .int .i64 m.fin, vm, .slice a' (m.out ++ [z]).length cap, .int .i64 m.ready, .int .i64 m.want, .int .i64 wrote] _ _)
    rw [hlen]
    exact hb
  · exact (h.regs.kept hg (Or.inr (fun e => h.ro e.symm))).kept hgs (Or.inr (by have := h.rne; simp [Value.ownBlock]; exact this))
  · show World.ownsRow _ _ _ _ (.slice _ (m.out ++ [z]).length _) (m.out ++ [z]).length ((m.out ++ [z]).map _)
    rw [hlen, List.map_append]
    exact hn.kept hgs (Or.inr hg1)
  · refine hM.stay _ _ _ _ _ h.mem (fun g hF => ?_) (Nat.le_trans hg.size hgs.size)
    refine (Below.heap_setCell _ _ _ _ (fun e => h.fc (by have e' : g = cb := e; rw [← e']; exact hF))).trans (hg.block g (hM.lt _ _ _ _ h.mem g hF) (fun e => h.fo _ e.symm hF))
  · show (Value.slice a' (m.out ++ [z]).length cap).ownBlock ≠ some gr
    rw [hlen]; exact hg2
  · show ∀ g, (Value.slice a' (m.out ++ [z]).length cap).ownBlock = some g → ¬ F g
    rw [hlen]; exact hF1
  · exact (h.old.grown hg (fun k hk => h.dq k hk)).setCell h.dc _
  · show ∀ g, (Value.slice a' (m.out ++ [z]).length cap).ownBlock = some g → D g ∨ w0.heap.size ≤ g
    rw [hlen]; exact hD
/-- A word that the memory has taken, or not. -/
theorem GSt.stored (h : GSt St w0 D cb gr cr vm m wrote x ao co F w) {w' : World} {F' : Nat → Prop} {mem' : List Int} {x' : Bool} (ho : OutF F w w') (hF : ∀ g, F' g → F g ∨ w.heap.size ≤ g) (hs : St w' F' mem' x') : GSt St w0 D cb gr cr vm { m with mem := mem' } wrote x' ao co F' w' := by
  have hlt := h.old.size
  refine ⟨ho.at h.box h.fc, own_out h.regs ho (fun g e => by simp [Value.ownBlock] at e; subst e; exact h.fr), own_out h.out ho (fun g e => h.fo g e), hs, h.ro, ?_, ?_, ?_, h.old.trans ho h.df, h.dc, h.dr, ?_, h.dq⟩
  · intro k
    rcases hF _ k with q | q
    · exact h.fc q
    · have := h.clt; omega
  · intro k
    rcases hF _ k with q | q
    · exact h.fr q
    · have := h.rlt; omega
  · intro g e k
    rcases hF _ k with q | q
    · exact h.fo g e q
    · have := (h.out.lt g e).2; omega
  · intro g k
    rcases hF _ k with q | q
    · exact h.df g q
    · exact Or.inr (by omega)
end
end Go.Proofs.Ytbenfbfbohecmaa
