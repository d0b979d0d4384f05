/- What the keep's laws about steps share: cpuTells, a step of a guest that may step, a guest in a box; a step of a known instruction, in plain Lean. No condition beyond the readings. -/
import Derived.Test.YtojdpegkbndklaaKb
import Derived.Test.YtojdpegkbndklaaSr
namespace Go.Proofs.Ytojdpegkbndklaa
open Go Go.RowKit Go.ChangeShapes Go.WideShapes Go.Deep
set_option linter.unusedVariables false
attribute [local go_sem ↓] Go.wp_at_zero Go.wp_at_succ

set_option maxHeartbeats 4000000 in
set_option maxRecDepth 100000 in
theorem tells_cpu (w : World) : Calls Try.prog 14 #[] w fun e w' => e = .returned (.bool true) ∧ Below w.heap.size w w' := by
  have HN := Lib.hid (fun w => new_good (.slice none 0 0) [] w (Ints.nil _ _) (by decide) (by decide))
  have h8 : (imageM []).regs.length = 8 := rfl
  have h256 : (imageM []).mem.length = 256 := rfl
  generalize imageM [] = m0 at *
  go_enter Try.func14, Try.ntmps14
  go_wp2_with (go_at_call 19; refine (HN.out _).mono ?_; rintro e w2 ⟨ar, cr, am, cm, ao, co, he, hown, hb2⟩; rw [Mach.agg, h8, h256] at he; subst he)
  go_ret
  refine ⟨rfl, ?_⟩
  go_grown
  all_goals first | exact hb2 | exact hb2.size

theorem MachOwn.readsOk {base : Nat} {w : World} {m : Mach} {ar am ao : Option Addr} {cr cm co : Nat} (h : MachOwn base w m (.slice ar m.regs.length cr) (.slice am m.mem.length cm) (.slice ao m.out.length co)) (hok : MOk m) : Ints w.heap.size w (.slice ar m.regs.length cr) m.regs ∧ Ints w.heap.size w (.slice am m.mem.length cm) m.mem ∧ Ints w.heap.size w (.slice ao m.out.length co) m.out :=
  ⟨ints_of_owns h.hr (by rw [hok.regs]; omega) (fun z hz => (words_of hok.wr z hz).i64), ints_of_owns h.hm (by rw [hok.mem]; omega) (fun z hz => (words_of hok.wm z hz).i64), ints_of_owns h.ho (by have := hok.out; omega) (fun z hz => (words_of hok.wo z hz).i64)⟩
/-- What a step that may be made leaves. -/
def GoodPost (r : Mach × Int) (w : World) (e : Ending) (w' : World) : Prop := ∃ ar cr am cm ao co, e = .returned (.tuple #[.agg #[.slice ar r.1.regs.length cr, .int .i64 r.1.pc, .int .i64 r.1.back, .bool r.1.ints, .bool r.1.wait, .int .i64 r.1.table, .int .i64 r.1.count, .int .i64 r.1.fin, .slice am r.1.mem.length cm, .slice ao r.1.out.length co, .int .i64 r.1.ready, .int .i64 r.1.want], .int .i64 r.2, .int .i64 0]) ∧ MachOwn w.heap.size w' r.1 (.slice ar r.1.regs.length cr) (.slice am r.1.mem.length cm) (.slice ao r.1.out.length co) ∧ Below w.heap.size w w'
theorem step_good (v vb : Value) (m : Mach) (irq : Bool) (b : List Int) (value : Int) (w : World) (hm : MachR w.heap.size w v m) (hb : Ints w.heap.size w vb b) (hv : WordZ value) (hok : MOk m) (hl : b.length = 0 ∨ b.length = 16) (hw : ∀ z ∈ b, WordZ z) (hc : m.count < 1099511627776) : Calls Try.prog 11 #[v, .bool irq, vb, .int .i64 value] w (GoodPost (stepM m irq b value) w) := by
  refine (step_any v vb m irq b value w hm hb hv.i64).mono ?_
  rintro e w' ⟨m', wr, c, ar, cr, am, cm, ao, co, hr, rfl, hmr, hB⟩
  have hg : ¬ (oddB value = true ∨ b.any oddB = true ∨ m.count = 1099511627776) := by
    rintro (h | h | h)
    · rw [odd_false hv] at h; cases h
    · rw [of_words hw] at h; cases h
    · omega
  obtain ⟨rfl, rfl, rfl⟩ := hr.det (Or.inr (Or.inr (Or.inr ⟨hok, hl, hg, rfl, rfl, rfl⟩)))
  exact ⟨ar, cr, am, cm, ao, co, rfl, hmr, hB⟩

/-- A guest in a box: its block's cells, what its slices read. -/
def BoxR (w : World) (g : Nat) (m : Mach) : Prop := ∃ ar cr am cm ao co, w.heap[g]? = some (.cells #[.slice ar m.regs.length cr, .int .i64 m.pc, .int .i64 m.back, .bool m.ints, .bool m.wait, .int .i64 m.table, .int .i64 m.count, .int .i64 m.fin, .slice am m.mem.length cm, .slice ao m.out.length co, .int .i64 m.ready, .int .i64 m.want] 24 (0, 0)) ∧ Ints w.heap.size w (.slice ar m.regs.length cr) m.regs ∧ Ints w.heap.size w (.slice am m.mem.length cm) m.mem ∧ Ints w.heap.size w (.slice ao m.out.length co) m.out
theorem BoxR.kept {w w' : World} {g : Nat} {m : Mach} (h : BoxR w g m) (hb : Below w.heap.size w w') : BoxR w' g m := by
  obtain ⟨ar, cr, am, cm, ao, co, h0, h1, h2, h3⟩ := h
  exact ⟨ar, cr, am, cm, ao, co, block_below hb h0 (Array.getElem?_eq_some_iff.1 h0).1, h1.to hb.size (same_below hb), h2.to hb.size (same_below hb), h3.to hb.size (same_below hb)⟩
theorem set12 {w : World} {g : Nat} {c0 c1 c2 c3 c4 c5 c6 c7 c8 c9 c10 c11 v0 v1 v2 v3 v4 v5 v6 v7 v8 v9 v10 v11 : Value} {t : TypeId} {fr : Nat × Nat} (h : w.heap[g]? = some (.cells #[c0, c1, c2, c3, c4, c5, c6, c7, c8, c9, c10, c11] t fr)) : ((((((((((((w.setCell ⟨g, 0, none⟩ v0).setCell ⟨g, 1, none⟩ v1).setCell ⟨g, 2, none⟩ v2).setCell ⟨g, 3, none⟩ v3).setCell ⟨g, 4, none⟩ v4).setCell ⟨g, 5, none⟩ v5).setCell ⟨g, 6, none⟩ v6).setCell ⟨g, 7, none⟩ v7).setCell ⟨g, 8, none⟩ v8).setCell ⟨g, 9, none⟩ v9).setCell ⟨g, 10, none⟩ v10).setCell ⟨g, 11, none⟩ v11).heap[g]? = some (.cells #[v0, v1, v2, v3, v4, v5, v6, v7, v8, v9, v10, v11] t fr) := by
  have h12 := (set_block (i := 11) (set_block (i := 10) (set_block (i := 9) (set_block (i := 8) (set_block (i := 7) (set_block (i := 6) (set_block (i := 5) (set_block (i := 4) (set_block (i := 3) (set_block (i := 2) (set_block (i := 1) (set_block (i := 0) h v0) v1) v2) v3) v4) v5) v6) v7) v8) v9) v10) v11)
  simpa using h12
theorem below12 {B g : Nat} {a w : World} {v0 v1 v2 v3 v4 v5 v6 v7 v8 v9 v10 v11 : Value} (h : Below B a w) (hg : B ≤ g) : Below B a ((((((((((((w.setCell ⟨g, 0, none⟩ v0).setCell ⟨g, 1, none⟩ v1).setCell ⟨g, 2, none⟩ v2).setCell ⟨g, 3, none⟩ v3).setCell ⟨g, 4, none⟩ v4).setCell ⟨g, 5, none⟩ v5).setCell ⟨g, 6, none⟩ v6).setCell ⟨g, 7, none⟩ v7).setCell ⟨g, 8, none⟩ v8).setCell ⟨g, 9, none⟩ v9).setCell ⟨g, 10, none⟩ v10).setCell ⟨g, 11, none⟩ v11) := ((((((((((((h.setCell (p := ⟨g, 0, none⟩) hg v0).setCell (p := ⟨g, 1, none⟩) hg v1).setCell (p := ⟨g, 2, none⟩) hg v2).setCell (p := ⟨g, 3, none⟩) hg v3).setCell (p := ⟨g, 4, none⟩) hg v4).setCell (p := ⟨g, 5, none⟩) hg v5).setCell (p := ⟨g, 6, none⟩) hg v6).setCell (p := ⟨g, 7, none⟩) hg v7).setCell (p := ⟨g, 8, none⟩) hg v8).setCell (p := ⟨g, 9, none⟩) hg v9).setCell (p := ⟨g, 10, none⟩) hg v10).setCell (p := ⟨g, 11, none⟩) hg v11)

def flatI : List Ins → List Value
  | [] => []
  | x :: l => .int .i64 x.op :: .int .i64 x.a :: .int .i64 x.b :: .int .i64 x.n :: flatI l
theorem flatI_get : ∀ (l : List Ins) (i : Nat) (h : i < l.length) (j : Nat) (hj : j < 4), (flatI l)[i * 4 + j]? = ([.int .i64 l[i].op, .int .i64 l[i].a, .int .i64 l[i].b, .int .i64 l[i].n] : List Value)[j]?
  | [], i, h, j, hj => absurd h (Nat.not_lt_zero _)
  | x :: l, 0, h, j, hj => by
    rcases j with _ | _ | _ | _ | j
    · rfl
    · rfl
    · rfl
    · rfl
    · omega
  | x :: l, i + 1, h, j, hj => by
    have := flatI_get l i (by simpa using h) j hj
    rw [show (i + 1) * 4 + j = (i * 4 + j) + 4 by omega]
    exact this
theorem insr_block {w : World} {g c : Nat} {l : List Ins} {t : TypeId} {fr : Nat × Nat} (h : w.heap[g]? = some (.cells (flatI l).toArray t fr)) (hl : l.length ≤ 1000) (hc : l.length ≤ c) : InsR w.heap.size w (.slice (some ⟨g, 0, none⟩) l.length c) l := by
  refine ⟨some ⟨g, 0, none⟩, c, rfl, hl, hc, fun i hi => ⟨g, 0, [.int .i64 l[i].op, .int .i64 l[i].a, .int .i64 l[i].b, .int .i64 l[i].n], rfl, (Array.getElem?_eq_some_iff.1 h).1, rfl, fun j hj => ?_, rfl⟩⟩
  have hj4 : j < 4 := hj
  have hc := cell_block h (0 + i * 4 + j)
  rw [hc]
  have hf := flatI_get l i hi j hj4
  rw [Nat.zero_add]
  simp only [List.getElem?_toArray]
  rw [hf, List.getElem?_eq_getElem hj]
theorem ints_block {w : World} {g c : Nat} {zs : List Int} {t : TypeId} {fr : Nat × Nat} (h : w.heap[g]? = some (.cells (zs.map (Value.int .i64)).toArray t fr)) (hl : zs.length ≤ 1000) (hc : zs.length ≤ c) (hz : ∀ z ∈ zs, I64 z) : Ints w.heap.size w (.slice (some ⟨g, 0, none⟩) zs.length c) zs := by
  refine ⟨some ⟨g, 0, none⟩, c, rfl, by omega, hc, fun i hi => ⟨g, 0, .int .i64 zs[i], rfl, (Array.getElem?_eq_some_iff.1 h).1, ?_, rfl, hz _ (List.getElem_mem hi)⟩⟩
  have hc := cell_block h (0 + i)
  rw [hc, Nat.zero_add]
  simp [hi]
theorem gM_8 {rs : List Int} {l : List Ins} (hr : rs.length ≤ 8) (hl : l.length ≤ 256) : (gM rs (l.map Ins.enc)).regs.length = 8 := by
  show (blit (List.replicate 8 0) 0 (rs.map gf)).length = 8
  rw [blit_len (by simp; exact hr)]; rfl
theorem gM_256 {rs : List Int} {l : List Ins} (hl : l.length ≤ 256) : (gM rs (l.map Ins.enc)).mem.length = 256 := image_len _ (by simpa using hl)
/-- A guest in a box g, its registers in gr, its memory in mb. -/
structure KBox (g gr cr mb cm : Nat) (m : Mach) (ao : Option Addr) (co : Nat) (w : World) : Prop where
  box : w.heap[g]? = some (.cells #[.slice (some ⟨gr, 0, none⟩) 8 cr, .int .i64 m.pc, .int .i64 m.back, .bool m.ints, .bool m.wait, .int .i64 m.table, .int .i64 m.count, .int .i64 m.fin, .slice (some ⟨mb, 0, none⟩) 256 cm, .slice ao m.out.length co, .int .i64 m.ready, .int .i64 m.want] 24 (0, 0))
  regs : w.ownsRow 0 3 1 (.slice (some ⟨gr, 0, none⟩) 8 cr) 8 (m.regs.map (Value.int .i64))
  mem : w.ownsRow 0 3 1 (.slice (some ⟨mb, 0, none⟩) 256 cm) 256 (m.mem.map (Value.int .i64))
  out : w.ownsRow 0 3 1 (.slice ao m.out.length co) m.out.length (m.out.map (Value.int .i64))
  rm : gr ≠ mb
  ro : (Value.slice ao m.out.length co).ownBlock ≠ some gr
  mo : (Value.slice ao m.out.length co).ownBlock ≠ some mb
theorem KBox.blt {g gr cr mb cm : Nat} {m : Mach} {ao : Option Addr} {co : Nat} {w : World} (h : KBox g gr cr mb cm m ao co w) : g < w.heap.size := (Array.getElem?_eq_some_iff.1 h.box).1
theorem KBox.kept {g gr cr mb cm : Nat} {m : Mach} {ao : Option Addr} {co : Nat} {w w' : World} (h : KBox g gr cr mb cm m ao co w) (hb : Below w.heap.size w w') : KBox g gr cr mb cm m ao co w' :=
  ⟨block_below hb h.box h.blt, own_below h.regs hb (Nat.le_refl _), own_below h.mem hb (Nat.le_refl _), own_below h.out hb (Nat.le_refl _), h.rm, h.ro, h.mo⟩
theorem KBox.machR {g gr cr mb cm : Nat} {m : Mach} {ao : Option Addr} {co : Nat} {w : World} (h : KBox g gr cr mb cm m ao co w) (hok : MOk m) : MachR w.heap.size w (.agg #[.slice (some ⟨gr, 0, none⟩) 8 cr, .int .i64 m.pc, .int .i64 m.back, .bool m.ints, .bool m.wait, .int .i64 m.table, .int .i64 m.count, .int .i64 m.fin, .slice (some ⟨mb, 0, none⟩) 256 cm, .slice ao m.out.length co, .int .i64 m.ready, .int .i64 m.want]) m := by
  have h8 := hok.regs
  have h256 := hok.mem
  refine ⟨some ⟨gr, 0, none⟩, cr, some ⟨mb, 0, none⟩, cm, ao, co, by unfold Mach.agg; rw [h8, h256], ?_, ?_, ?_⟩
  · exact ints_of_owns (by rw [h8]; exact h.regs) (by omega) (fun z hz => (words_of hok.wr z hz).i64)
  · exact ints_of_owns (by rw [h256]; exact h.mem) (by omega) (fun z hz => (words_of hok.wm z hz).i64)
  · exact ints_of_owns h.out (by have := hok.out; omega) (fun z hz => (words_of hok.wo z hz).i64)
theorem KBox.start {base g : Nat} {w w' : World} {m : Mach} {ar am ao : Option Addr} {cr cm co : Nat} (hok : MOk m) (hown : MachOwn base w m (.slice ar m.regs.length cr) (.slice am m.mem.length cm) (.slice ao m.out.length co)) (hg : g < base ∨ w.heap.size ≤ g) (hk : OutF (fun b => b = g) w w') (hx : w'.heap[g]? = some (.cells #[.slice ar 8 cr, .int .i64 m.pc, .int .i64 m.back, .bool m.ints, .bool m.wait, .int .i64 m.table, .int .i64 m.count, .int .i64 m.fin, .slice am 256 cm, .slice ao m.out.length co, .int .i64 m.ready, .int .i64 m.want] 24 (0, 0))) : ∃ gr mb, ar = some ⟨gr, 0, none⟩ ∧ am = some ⟨mb, 0, none⟩ ∧ KBox g gr cr mb cm m ao co w' := by
  have h8 := hok.regs
  have h256 := hok.mem
  obtain ⟨gr, rfl, gb⟩ := own_some0 hown.hr (by omega)
  obtain ⟨mb, rfl, mbb⟩ := own_some0 hown.hm (by omega)
  refine ⟨gr, mb, rfl, rfl, ?_⟩
  have up : ∀ {v : Value} {n : Nat} {xs : List Value}, w.ownsRow base 3 1 v n xs → w'.ownsRow 0 3 1 v n xs := fun h => own_base (own_out h hk (fun k hk e => by have := h.lt k hk; have e' : k = g := e; omega)) (Nat.zero_le _)
  obtain ⟨h1, h2, h3, a1, a2, a3, a4, a5, a6⟩ := hown
  have k1 := up h1
  have k2 := up h2
  have k3 := up h3
  rw [h8] at k1 a1 a2 a4 a5
  rw [h256] at k2 a1 a3 a4 a6
  refine ⟨hx, k1, k2, k3, ?_, ?_, ?_⟩
  · rcases a1 with a | a
    · exact absurd a (by simp [Value.ownBlock])
    · intro e; exact a (by simp [Value.ownBlock, e])
  · rcases a5 with a | a
    · intro e; rw [a] at e; cases e
    · intro e; exact a (by rw [e]; rfl)
  · rcases a6 with a | a
    · intro e; rw [a] at e; cases e
    · intro e; exact a (by rw [e]; rfl)
theorem out12 {F : Nat → Prop} {g : Nat} {a w : World} {v0 v1 v2 v3 v4 v5 v6 v7 v8 v9 v10 v11 : Value} (h : OutF F a w) (hg : F g) : OutF F a ((((((((((((w.setCell ⟨g, 0, none⟩ v0).setCell ⟨g, 1, none⟩ v1).setCell ⟨g, 2, none⟩ v2).setCell ⟨g, 3, none⟩ v3).setCell ⟨g, 4, none⟩ v4).setCell ⟨g, 5, none⟩ v5).setCell ⟨g, 6, none⟩ v6).setCell ⟨g, 7, none⟩ v7).setCell ⟨g, 8, none⟩ v8).setCell ⟨g, 9, none⟩ v9).setCell ⟨g, 10, none⟩ v10).setCell ⟨g, 11, none⟩ v11) := ((((((((((((h.setCell (g := g) (i := 0) (Or.inl hg) v0).setCell (g := g) (i := 1) (Or.inl hg) v1).setCell (g := g) (i := 2) (Or.inl hg) v2).setCell (g := g) (i := 3) (Or.inl hg) v3).setCell (g := g) (i := 4) (Or.inl hg) v4).setCell (g := g) (i := 5) (Or.inl hg) v5).setCell (g := g) (i := 6) (Or.inl hg) v6).setCell (g := g) (i := 7) (Or.inl hg) v7).setCell (g := g) (i := 8) (Or.inl hg) v8).setCell (g := g) (i := 9) (Or.inl hg) v9).setCell (g := g) (i := 10) (Or.inl hg) v10).setCell (g := g) (i := 11) (Or.inl hg) v11)
/-- A box that a guest is written to, behind a step. -/
theorem KBox.again {base g : Nat} {w : World} {c0 c1 c2 c3 c4 c5 c6 c7 c8 c9 c10 c11 : Value} {m : Mach} {ar am ao : Option Addr} {cr cm co : Nat} {O : Obj} (hok : MOk m) (hown : MachOwn base w m (.slice ar m.regs.length cr) (.slice am m.mem.length cm) (.slice ao m.out.length co)) (hg : g < base) (hx : w.heap[g]? = some (.cells #[c0, c1, c2, c3, c4, c5, c6, c7, c8, c9, c10, c11] 24 (0, 0))) : ∃ gr' cr' mb' cm' ao' co', KBox g gr' cr' mb' cm' m ao' co' (((((((((((((w.setCell ⟨g, 0, none⟩ (.slice ar 8 cr)).setCell ⟨g, 1, none⟩ (.int .i64 m.pc)).setCell ⟨g, 2, none⟩ (.int .i64 m.back)).setCell ⟨g, 3, none⟩ (.bool m.ints)).setCell ⟨g, 4, none⟩ (.bool m.wait)).setCell ⟨g, 5, none⟩ (.int .i64 m.table)).setCell ⟨g, 6, none⟩ (.int .i64 m.count)).setCell ⟨g, 7, none⟩ (.int .i64 m.fin)).setCell ⟨g, 8, none⟩ (.slice am 256 cm)).setCell ⟨g, 9, none⟩ (.slice ao m.out.length co)).setCell ⟨g, 10, none⟩ (.int .i64 m.ready)).setCell ⟨g, 11, none⟩ (.int .i64 m.want)).alloc O) := by
  have hlt := (Array.getElem?_eq_some_iff.1 hx).1
  have hs : ((((((((((((w.setCell ⟨g, 0, none⟩ (.slice ar 8 cr)).setCell ⟨g, 1, none⟩ (.int .i64 m.pc)).setCell ⟨g, 2, none⟩ (.int .i64 m.back)).setCell ⟨g, 3, none⟩ (.bool m.ints)).setCell ⟨g, 4, none⟩ (.bool m.wait)).setCell ⟨g, 5, none⟩ (.int .i64 m.table)).setCell ⟨g, 6, none⟩ (.int .i64 m.count)).setCell ⟨g, 7, none⟩ (.int .i64 m.fin)).setCell ⟨g, 8, none⟩ (.slice am 256 cm)).setCell ⟨g, 9, none⟩ (.slice ao m.out.length co)).setCell ⟨g, 10, none⟩ (.int .i64 m.ready)).setCell ⟨g, 11, none⟩ (.int .i64 m.want)).heap[g]? = _ := set12 hx
  have ho : OutF (fun b => b = g) w ((((((((((((w.setCell ⟨g, 0, none⟩ (.slice ar 8 cr)).setCell ⟨g, 1, none⟩ (.int .i64 m.pc)).setCell ⟨g, 2, none⟩ (.int .i64 m.back)).setCell ⟨g, 3, none⟩ (.bool m.ints)).setCell ⟨g, 4, none⟩ (.bool m.wait)).setCell ⟨g, 5, none⟩ (.int .i64 m.table)).setCell ⟨g, 6, none⟩ (.int .i64 m.count)).setCell ⟨g, 7, none⟩ (.int .i64 m.fin)).setCell ⟨g, 8, none⟩ (.slice am 256 cm)).setCell ⟨g, 9, none⟩ (.slice ao m.out.length co)).setCell ⟨g, 10, none⟩ (.int .i64 m.ready)).setCell ⟨g, 11, none⟩ (.int .i64 m.want)) := out12 (OutF.refl _ w) rfl
  obtain ⟨gr, mb, e1, e2, h⟩ := KBox.start hok hown (Or.inl hg) (ho.alloc O) ((alloc_lt (Nat.lt_of_lt_of_le hlt ho.size)).trans hs)
  exact ⟨gr, cr, mb, cm, ao, co, h⟩
theorem below_again {B g : Nat} {a w : World} {v0 v1 v2 v3 v4 v5 v6 v7 v8 v9 v10 v11 : Value} {O : Obj} (h : Below B a w) (hg : B ≤ g) (hs : B ≤ a.heap.size) : Below B a (((((((((((((w.setCell ⟨g, 0, none⟩ v0).setCell ⟨g, 1, none⟩ v1).setCell ⟨g, 2, none⟩ v2).setCell ⟨g, 3, none⟩ v3).setCell ⟨g, 4, none⟩ v4).setCell ⟨g, 5, none⟩ v5).setCell ⟨g, 6, none⟩ v6).setCell ⟨g, 7, none⟩ v7).setCell ⟨g, 8, none⟩ v8).setCell ⟨g, 9, none⟩ v9).setCell ⟨g, 10, none⟩ v10).setCell ⟨g, 11, none⟩ v11).alloc O) := (below12 h hg).alloc (Nat.le_trans hs (below12 h hg).size) O
theorem encZ_word {op a b n : Int} (h : iCode op a b n = 0) : encZ op a b n = wordZ op a b n := by unfold encZ; rw [if_pos h]
theorem dec_parts {op a b n : Int} (h : iCode op a b n = 0) : decOp (wordZ op a b n) = op ∧ decA (wordZ op a b n) = a ∧ decB (wordZ op a b n) = b ∧ decN (wordZ op a b n) = n := by
  obtain ⟨h1, h2, h3, h4, h5, h6, h7, h8⟩ := iCode_rng h
  unfold decOp decA decB decN wordZ
  refine ⟨?_, ?_, ?_, ?_⟩ <;> omega
theorem encZ_WordZ (op a b n : Int) : WordZ (encZ op a b n) := by
  by_cases h : iCode op a b n = 0
  · rw [encZ_word h]
    obtain ⟨h1, h2, h3, h4, h5, h6, h7, h8⟩ := iCode_rng h
    unfold wordZ WordZ; omega
  · unfold encZ; rw [if_neg h]; unfold WordZ; omega
/-- A step of a guest without a table that meets a known instruction. -/
theorem step_at {m : Mach} {op a b n v : Int} (hf : m.fin = 0) (hw : m.wait = false ∨ m.ints = false) (ht : m.table < 0) (hp : 0 ≤ m.pc ∧ m.pc < 256) (hmem : m.mem.getD m.pc.toNat 0 = encZ op a b n) (hc : iCode op a b n = 0) : stepM m false [] v = ({ (doM m op a b n v).1 with count := m.count + 1, fin := (doM m op a b n v).2.1 }, (doM m op a b n v).2.2) := by
  have e1 : irqM m false = m := by unfold irqM; rw [if_neg (fun h => by cases h.2)]
  have e2 : blockM m [] = m := if_pos rfl
  have e3 : enterM m = m := by unfold enterM; rw [if_neg (fun h => by rcases hw with k | k <;> (rw [k] at h; simp at h))]
  unfold stepM
  rw [e1, e2, e3]
  have hpl : placeZ m.table m.mem m.pc false = (m.pc, 0) := placeZ_flat (by omega) ht
  obtain ⟨d1, d2, d3, d4⟩ := dec_parts hc
  have hdc : decC (wordZ op a b n) = 0 := by unfold decC; rw [d1, d2, d3, d4]; exact hc
  have hn : nextZ m = (wordZ op a b n, 0) := by
    unfold nextZ
    rw [hpl]
    dsimp only
    rw [hmem, encZ_word hc, if_neg (by simp), if_neg (by simpa using hdc)]
  unfold execM
  rw [hn]
  dsimp only
  rw [if_neg (by simpa using hf), if_neg (by simp), d1, d2, d3, d4]
theorem gf_word (z : Int) : WordZ (gf z) := foldZ_bd _
theorem gM_ok {rs : List Int} {l : List Ins} (hr : rs.length ≤ 8) (hl : l.length ≤ 256) : MOk (gM rs (l.map Ins.enc)) := by
  have hil : ((l.map Ins.enc)).length = l.length := by simp
  refine ⟨?_, ?_, Nat.zero_le _, ?_, ?_, rfl, ?_, ?_, ?_, ?_, ?_, ?_, ?_⟩
  · show (blit (List.replicate 8 0) 0 (rs.map gf)).length = 8
    rw [blit_len (by simp; exact hr)]; rfl
  · exact image_len _ (by omega)
  · refine of_words (blit_word (fun z hz => ?_) (fun z hz => ?_))
    · have hz' : z ∈ List.replicate 8 (0 : Int) := hz
      rw [List.eq_of_mem_replicate hz']; unfold WordZ; omega
    · obtain ⟨y, -, rfl⟩ := List.mem_map.1 hz
      exact gf_word y
  · refine of_words (fun z hz => ?_)
    have hz' : z ∈ l.map Ins.enc ++ List.replicate (256 - (l.map Ins.enc).length) (0 : Int) := hz
    rcases List.mem_append.1 hz' with hz | hz
    · obtain ⟨y, -, rfl⟩ := List.mem_map.1 hz
      exact encZ_WordZ _ _ _ _
    · rw [List.eq_of_mem_replicate hz]; unfold WordZ; omega
  all_goals (show _ ∧ _; simp [gM, Mach.withRegs, imageM])
end Go.Proofs.Ytojdpegkbndklaa
