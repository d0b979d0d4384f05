/- What the keep's laws about steps share: cpuTells, a step of a guest that may step, a guest in a box; a step of a known instruction, in plain Lean. No condition beyond the readings. -/
import Derived.Test.YtilcnlmapifdgaaDoorYKa
import Derived.Test.YtilcnlmapifdgaaDoorYSr
namespace Go.Proofs.YtilcnlmapifdgaaDoor
open Go Go.RowKit Go.ChangeShapes Go.WideShapes Go.Deep
set_option linter.unusedVariables false
attribute [local go_sem ↓] Go.wp_at_zero Go.wp_at_succ

/-- What a step that may be made leaves. -/
def GoodPost (r : Mach × Int) (w : World) (e : Ending) (w' : World) : Prop := ∃ ar cr am cm ao co, e = .returned (.tuple #[.agg #[.slice ar r.1.regs.length cr, .int .i64 r.1.pc, .int .i64 r.1.back, .bool r.1.ints, .bool r.1.wait, .int .i64 r.1.table, .int .i64 r.1.count, .int .i64 r.1.fin, .slice am r.1.mem.length cm, .slice ao r.1.out.length co, .int .i64 r.1.ready, .int .i64 r.1.want], .int .i64 r.2, .int .i64 0]) ∧ MachOwn w.heap.size w' r.1 (.slice ar r.1.regs.length cr) (.slice am r.1.mem.length cm) (.slice ao r.1.out.length co) ∧ Below w.heap.size w w'
theorem step_good (v vb : Value) (m : Mach) (irq : Bool) (b : List Int) (value : Int) (w : World) (hm : MachR w.heap.size w v m) (hb : Ints w.heap.size w vb b) (hv : WordZ value) (hok : MOk m) (hl : b.length = 0 ∨ b.length = 16) (hw : ∀ z ∈ b, WordZ z) (hc : m.count < 1099511627776) : Calls Tryd.prog 30 #[v, .bool irq, vb, .int .i64 value] w (GoodPost (stepM m irq b value) w) := by
  refine (step_any v vb m irq b value w hm hb hv.i64).mono ?_
  rintro e w' ⟨m', wr, c, ar, cr, am, cm, ao, co, hr, rfl, hmr, hB⟩
  have hg : ¬ (oddB value = true ∨ b.any oddB = true ∨ m.count = 1099511627776) := by
    rintro (h | h | h)
    · rw [odd_false hv] at h; cases h
    · rw [of_words hw] at h; cases h
    · omega
  obtain ⟨rfl, rfl, rfl⟩ := hr.det (Or.inr (Or.inr (Or.inr ⟨hok, hl, hg, rfl, rfl, rfl⟩)))
  exact ⟨ar, cr, am, cm, ao, co, rfl, hmr, hB⟩

/-- A guest in a box: its block's cells, what its slices read. -/
def BoxR (w : World) (g : Nat) (m : Mach) : Prop := ∃ ar cr am cm ao co, w.heap[g]? = some (.cells #[.slice ar m.regs.length cr, .int .i64 m.pc, .int .i64 m.back, .bool m.ints, .bool m.wait, .int .i64 m.table, .int .i64 m.count, .int .i64 m.fin, .slice am m.mem.length cm, .slice ao m.out.length co, .int .i64 m.ready, .int .i64 m.want] 29 (0, 0)) ∧ Ints w.heap.size w (.slice ar m.regs.length cr) m.regs ∧ Ints w.heap.size w (.slice am m.mem.length cm) m.mem ∧ Ints w.heap.size w (.slice ao m.out.length co) m.out
theorem BoxR.kept {w w' : World} {g : Nat} {m : Mach} (h : BoxR w g m) (hb : Below w.heap.size w w') : BoxR w' g m := by
  obtain ⟨ar, cr, am, cm, ao, co, h0, h1, h2, h3⟩ := h
  exact ⟨ar, cr, am, cm, ao, co, block_below hb h0 (Array.getElem?_eq_some_iff.1 h0).1, h1.to hb.size (same_below hb), h2.to hb.size (same_below hb), h3.to hb.size (same_below hb)⟩
def flatI : List Ins → List Value
  | [] => []
  | x :: l => .int .i64 x.op :: .int .i64 x.a :: .int .i64 x.b :: .int .i64 x.n :: flatI l
theorem flatI_get : ∀ (l : List Ins) (i : Nat) (h : i < l.length) (j : Nat) (hj : j < 4), (flatI l)[i * 4 + j]? = ([.int .i64 l[i].op, .int .i64 l[i].a, .int .i64 l[i].b, .int .i64 l[i].n] : List Value)[j]?
  | [], i, h, j, hj => absurd h (Nat.not_lt_zero _)
  | x :: l, 0, h, j, hj => by
    rcases j with _ | _ | _ | _ | j
    · rfl
    · rfl
    · rfl
    · rfl
    · omega
  | x :: l, i + 1, h, j, hj => by
    have := flatI_get l i (by simpa using h) j hj
    rw [show (i + 1) * 4 + j = (i * 4 + j) + 4 by omega]
    exact this
theorem insr_block {w : World} {g c : Nat} {l : List Ins} {t : TypeId} {fr : Nat × Nat} (h : w.heap[g]? = some (.cells (flatI l).toArray t fr)) (hl : l.length ≤ 1000) (hc : l.length ≤ c) : InsR w.heap.size w (.slice (some ⟨g, 0, none⟩) l.length c) l := by
  refine ⟨some ⟨g, 0, none⟩, c, rfl, hl, hc, fun i hi => ⟨g, 0, [.int .i64 l[i].op, .int .i64 l[i].a, .int .i64 l[i].b, .int .i64 l[i].n], rfl, (Array.getElem?_eq_some_iff.1 h).1, rfl, fun j hj => ?_, rfl⟩⟩
  have hj4 : j < 4 := hj
  have hc := cell_block h (0 + i * 4 + j)
  rw [hc]
  have hf := flatI_get l i hi j hj4
  rw [Nat.zero_add]
  simp only [List.getElem?_toArray]
  rw [hf, List.getElem?_eq_getElem hj]
/-- A guest in a box g, its registers in gr, its memory in mb. -/
structure KBox (g gr cr mb cm : Nat) (m : Mach) (ao : Option Addr) (co : Nat) (w : World) : Prop where
  box : w.heap[g]? = some (.cells #[.slice (some ⟨gr, 0, none⟩) 8 cr, .int .i64 m.pc, .int .i64 m.back, .bool m.ints, .bool m.wait, .int .i64 m.table, .int .i64 m.count, .int .i64 m.fin, .slice (some ⟨mb, 0, none⟩) 256 cm, .slice ao m.out.length co, .int .i64 m.ready, .int .i64 m.want] 29 (0, 0))
  regs : w.ownsRow 0 3 1 (.slice (some ⟨gr, 0, none⟩) 8 cr) 8 (m.regs.map (Value.int .i64))
  mem : w.ownsRow 0 3 1 (.slice (some ⟨mb, 0, none⟩) 256 cm) 256 (m.mem.map (Value.int .i64))
  out : w.ownsRow 0 3 1 (.slice ao m.out.length co) m.out.length (m.out.map (Value.int .i64))
  rm : gr ≠ mb
  ro : (Value.slice ao m.out.length co).ownBlock ≠ some gr
  mo : (Value.slice ao m.out.length co).ownBlock ≠ some mb
theorem KBox.blt {g gr cr mb cm : Nat} {m : Mach} {ao : Option Addr} {co : Nat} {w : World} (h : KBox g gr cr mb cm m ao co w) : g < w.heap.size := (Array.getElem?_eq_some_iff.1 h.box).1
theorem KBox.kept {g gr cr mb cm : Nat} {m : Mach} {ao : Option Addr} {co : Nat} {w w' : World} (h : KBox g gr cr mb cm m ao co w) (hb : Below w.heap.size w w') : KBox g gr cr mb cm m ao co w' :=
  ⟨block_below hb h.box h.blt, own_below h.regs hb (Nat.le_refl _), own_below h.mem hb (Nat.le_refl _), own_below h.out hb (Nat.le_refl _), h.rm, h.ro, h.mo⟩
theorem KBox.start {base g : Nat} {w w' : World} {m : Mach} {ar am ao : Option Addr} {cr cm co : Nat} (hok : MOk m) (hown : MachOwn base w m (.slice ar m.regs.length cr) (.slice am m.mem.length cm) (.slice ao m.out.length co)) (hg : g < base ∨ w.heap.size ≤ g) (hk : OutF (fun b => b = g) w w') (hx : w'.heap[g]? = some (.cells #[.slice ar 8 cr, .int .i64 m.pc, .int .i64 m.back, .bool m.ints, .bool m.wait, .int .i64 m.table, .int .i64 m.count, .int .i64 m.fin, .slice am 256 cm, .slice ao m.out.length co, .int .i64 m.ready, .int .i64 m.want] 29 (0, 0))) : ∃ gr mb, ar = some ⟨gr, 0, none⟩ ∧ am = some ⟨mb, 0, none⟩ ∧ KBox g gr cr mb cm m ao co w' := by
  have h8 := hok.regs
  have h256 := hok.mem
  obtain ⟨gr, rfl, gb⟩ := own_some0 hown.hr (by omega)
  obtain ⟨mb, rfl, mbb⟩ := own_some0 hown.hm (by omega)
  refine ⟨gr, mb, rfl, rfl, ?_⟩
  have up : ∀ {v : Value} {n : Nat} {xs : List Value}, w.ownsRow base 3 1 v n xs → w'.ownsRow 0 3 1 v n xs := fun h => own_base (own_out h hk (fun k hk e => by have := h.lt k hk; have e' : k = g := e; omega)) (Nat.zero_le _)
  obtain ⟨h1, h2, h3, a1, a2, a3, a4, a5, a6⟩ := hown
  have k1 := up h1
  have k2 := up h2
  have k3 := up h3
  rw [h8] at k1 a1 a2 a4 a5
  rw [h256] at k2 a1 a3 a4 a6
  refine ⟨hx, k1, k2, k3, ?_, ?_, ?_⟩
  · rcases a1 with a | a
    · exact absurd a (by simp [Value.ownBlock])
    · intro e; exact a (by simp [Value.ownBlock, e])
  · rcases a5 with a | a
    · intro e; rw [a] at e; cases e
    · intro e; exact a (by rw [e]; rfl)
  · rcases a6 with a | a
    · intro e; rw [a] at e; cases e
    · intro e; exact a (by rw [e]; rfl)
theorem encZ_word {op a b n : Int} (h : iCode op a b n = 0) : encZ op a b n = wordZ op a b n := by unfold encZ; rw [if_pos h]
theorem encZ_WordZ (op a b n : Int) : WordZ (encZ op a b n) := by
  by_cases h : iCode op a b n = 0
  · rw [encZ_word h]
    obtain ⟨h1, h2, h3, h4, h5, h6, h7, h8⟩ := iCode_rng h
    unfold wordZ WordZ; omega
  · unfold encZ; rw [if_neg h]; unfold WordZ; omega
end Go.Proofs.YtilcnlmapifdgaaDoor
