/- The contract of cpu.Copy. -/
import Derived.Test.YtiekilpddmdhnaaDoorCl
namespace Go.Proofs.YtiekilpddmdhnaaDoor
open Go Go.RowKit Go.ChangeShapes Go.WideShapes Go.Deep
set_option linter.unusedVariables false

attribute [local go_sem ↓] Go.wp_at_zero Go.wp_at_succ
/-- A guest, by its parts. -/
structure Mach where
  regs : List Int
  pc : Int
  back : Int
  ints : Bool
  wait : Bool
  table : Int
  count : Int
  fin : Int
  mem : List Int
  out : List Int
  ready : Int
  want : Int

/-- The value of a guest whose slices are vr, vm, vo. -/
def Mach.agg (m : Mach) (vr vm vo : Value) : Value := .agg #[vr, .int .i64 m.pc, .int .i64 m.back, .bool m.ints, .bool m.wait, .int .i64 m.table, .int .i64 m.count, .int .i64 m.fin, vm, vo, .int .i64 m.ready, .int .i64 m.want]

/-- Two values that share no block of the call's own. -/
def Apart (v v' : Value) : Prop := v.ownBlock = none ∨ v.ownBlock ≠ v'.ownBlock
theorem apart_of {w w' : World} {b b' : Nat} {t t' : TypeId} {s s' : Nat} {v v' : Value} {n n' : Nat} {xs xs' : List Value} (h : w.ownsRow b t s v n xs) (h' : w'.ownsRow b' t' s' v' n' xs') (hle : w.heap.size ≤ b') : Apart v v' ∧ Apart v' v := by
  unfold Apart
  cases e : v.ownBlock with
  | none => exact ⟨Or.inl rfl, by cases e' : v'.ownBlock with
    | none => exact Or.inl rfl
    | some k => exact Or.inr (by simp)⟩
  | some k =>
    cases e' : v'.ownBlock with
    | none => exact ⟨Or.inr (by simp), Or.inl rfl⟩
    | some k' =>
      have h1 := (h.lt k e).2
      have h2 := (h'.lt k' e').1
      exact ⟨Or.inr (by simp; omega), Or.inr (by simp; omega)⟩
theorem own_base {w : World} {b b' : Nat} {t : TypeId} {s : Nat} {v : Value} {n : Nat} {xs : List Value} (h : w.ownsRow b t s v n xs) (hle : b' ≤ b) : w.ownsRow b' t s v n xs := by
  obtain ⟨h1, h2⟩ := h
  refine ⟨h1, ?_⟩
  rcases h2 with h2 | ⟨g, cap, cur, hv, hg, r⟩
  · exact Or.inl h2
  · exact Or.inr ⟨g, cap, cur, hv, by omega, r⟩
/-- What is owned stays owned where nothing that was there is written. -/
theorem own_below {B : Nat} {w w' : World} {b : Nat} {t : TypeId} {s : Nat} {v : Value} {n : Nat} {xs : List Value} (h : w.ownsRow b t s v n xs) (hb : Below B w w') (hB : w.heap.size ≤ B) : w'.ownsRow b t s v n xs := by
  obtain ⟨h1, h2⟩ := h
  refine ⟨h1, ?_⟩
  rcases h2 with h2 | ⟨g, cap, cur, hv, hg, hh, r⟩
  · exact Or.inl h2
  · exact Or.inr ⟨g, cap, cur, hv, hg, by rw [hb.block g (by have := (Array.getElem?_eq_some_iff.1 hh).1; omega)]; exact hh, r⟩

/-- A guest whose slices are the call's own, each in a block of its own. -/
structure MachOwn (base : Nat) (w : World) (m : Mach) (vr vm vo : Value) : Prop where
  hr : w.ownsRow base 3 1 vr m.regs.length (m.regs.map (Value.int .i64))
  hm : w.ownsRow base 3 1 vm m.mem.length (m.mem.map (Value.int .i64))
  ho : w.ownsRow base 3 1 vo m.out.length (m.out.map (Value.int .i64))
  rm : Apart vr vm
  ro : Apart vr vo
  mo : Apart vm vo
  mr : Apart vm vr
  or : Apart vo vr
  om : Apart vo vm
def CopyPost (w : World) (m : Mach) (e : Ending) (w' : World) : Prop := ∃ ar cr am cm ao co, e = .returned (m.agg (.slice ar m.regs.length cr) (.slice am m.mem.length cm) (.slice ao m.out.length co)) ∧ MachOwn w.heap.size w' m (.slice ar m.regs.length cr) (.slice am m.mem.length cm) (.slice ao m.out.length co) ∧ Below w.heap.size w w'

/-- What stands behind the three clones. -/
def CopyCut (w : World) (m : Mach) (wx : World) : Prop := ∃ ar cr am cm ao co, wx.heap[w.heap.size]? = some (.cells #[.slice ar m.regs.length cr, .int .i64 m.pc, .int .i64 m.back, .bool m.ints, .bool m.wait, .int .i64 m.table, .int .i64 m.count, .int .i64 m.fin, .slice am m.mem.length cm, .slice ao m.out.length co, .int .i64 m.ready, .int .i64 m.want] 38 (0, 0)) ∧
  wx.heap[w.heap.size + 1]? = some (.cells #[.slice none 0 0, .int .i64 0, .int .i64 0, .bool false, .bool false, .int .i64 0, .int .i64 0, .int .i64 0, .slice none 0 0, .slice none 0 0, .int .i64 0, .int .i64 0] 38 (0, 0)) ∧
  MachOwn w.heap.size wx m (.slice ar m.regs.length cr) (.slice am m.mem.length cm) (.slice ao m.out.length co) ∧ Below w.heap.size w wx

theorem MachOwn.set {base g i : Nat} {w : World} {m : Mach} {vr vm vo u : Value} {cs : Array Value} {t : TypeId} {fr : Nat × Nat} (h : MachOwn base w m vr vm vo) (hg : w.heap[g]? = some (.cells cs t fr)) (ht : 3 ≠ t) : MachOwn base (w.setCell ⟨g, i, none⟩ u) m vr vm vo :=
  ⟨own_set h.hr (own_ne_block h.hr hg ht) _, own_set h.hm (own_ne_block h.hm hg ht) _, own_set h.ho (own_ne_block h.ho hg ht) _, h.rm, h.ro, h.mo, h.mr, h.or, h.om⟩
/-- What stays while a result is laid, cell by cell. -/
structure SetInv (w0 : World) (m : Mach) (vr vm vo : Value) (w : World) : Prop where
  own : MachOwn w0.heap.size w m vr vm vo
  box : ∃ cs, w.heap[w0.heap.size + 1]? = some (.cells cs 38 (0, 0))
  below : Below w0.heap.size w0 w
theorem SetInv.mk' {w0 w : World} {m : Mach} {vr vm vo : Value} {cs : Array Value} (h : MachOwn w0.heap.size w m vr vm vo) (hb : w.heap[w0.heap.size + 1]? = some (.cells cs 38 (0, 0))) (hB : Below w0.heap.size w0 w) : SetInv w0 m vr vm vo w := ⟨h, ⟨cs, hb⟩, hB⟩
theorem SetInv.step {w0 w : World} {m : Mach} {vr vm vo : Value} (h : SetInv w0 m vr vm vo w) (i : Nat) (u : Value) : SetInv w0 m vr vm vo (w.setCell ⟨w0.heap.size + 1, i, none⟩ u) := by
  obtain ⟨ho, ⟨cs, hb⟩, hB⟩ := h
  exact ⟨ho.set hb (by decide), ⟨_, set_block hb u⟩, hB.setCell (by simp) u⟩

theorem copy_close {w W2 W2' w1 w2 w3 : World} (m : Mach) {vr vm vo : Value} {a1 a2 a3 : Option Addr} {c1 c2 c3 : Nat} (hd : W2' = W2.drew) (hs0 : W2.heap.size = w.heap.size + 2) (hb0 : Below w.heap.size w W2)
    (hx2 : W2.heap[w.heap.size + 1]? = some (.cells #[.slice none 0 0, .int .i64 0, .int .i64 0, .bool false, .bool false, .int .i64 0, .int .i64 0, .int .i64 0, .slice none 0 0, .slice none 0 0, .int .i64 0, .int .i64 0] 38 (0, 0)))
    (hx3 : w3.heap[w.heap.size]? = some (.cells #[vr, .int .i64 m.pc, .int .i64 m.back, .bool m.ints, .bool m.wait, .int .i64 m.table, .int .i64 m.count, .int .i64 m.fin, vm, vo, .int .i64 m.ready, .int .i64 m.want] 38 (0, 0)))
    (h1 : w1.ownsRow W2'.heap.size 3 1 (.slice a1 m.regs.length c1) m.regs.length (m.regs.map (Value.int .i64))) (k1 : Below W2'.heap.size W2' w1)
    (h2 : w2.ownsRow w1.heap.size 3 1 (.slice a2 m.mem.length c2) m.mem.length (m.mem.map (Value.int .i64))) (k2 : Below w1.heap.size w1 w2)
    (h3 : w3.ownsRow w2.heap.size 3 1 (.slice a3 m.out.length c3) m.out.length (m.out.map (Value.int .i64))) (k3 : Below w2.heap.size w2 w3) :
    CopyCut w m (((w3.setCell ⟨w.heap.size, 0, none⟩ (.slice a1 m.regs.length c1)).setCell ⟨w.heap.size, 8, none⟩ (.slice a2 m.mem.length c2)).setCell ⟨w.heap.size, 9, none⟩ (.slice a3 m.out.length c3)) := by
  subst hd
  have s0 : W2.drew.heap.size = w.heap.size + 2 := hs0
  have s1 := k1.size
  have s2 := k2.size
  have s3 := k3.size
  have y2 := block_below k3 (block_below k2 (block_below k1 hx2 (by omega)) (by omega)) (by omega)
  have o1 := own_below (own_below (own_base h1 (b' := w.heap.size) (by omega)) k2 (Nat.le_refl _)) k3 (Nat.le_refl _)
  have o2 := own_below (own_base h2 (b' := w.heap.size) (by omega)) k3 (Nat.le_refl _)
  have o3 := own_base h3 (b' := w.heap.size) (by omega)
  have set3 : ∀ {v : Value} {n : Nat} {xs : List Value}, w3.ownsRow w.heap.size 3 1 v n xs → (((w3.setCell ⟨w.heap.size, 0, none⟩ (.slice a1 m.regs.length c1)).setCell ⟨w.heap.size, 8, none⟩ (.slice a2 m.mem.length c2)).setCell ⟨w.heap.size, 9, none⟩ (.slice a3 m.out.length c3)).ownsRow w.heap.size 3 1 v n xs := fun h => own_set (own_set (own_set h (own_ne_block h hx3 (by decide)) _) (own_ne_block h hx3 (by decide)) _) (own_ne_block h hx3 (by decide)) _
  refine ⟨a1, c1, a2, c2, a3, c3, ?_, ?_, ⟨set3 o1, set3 o2, set3 o3, (apart_of h1 h2 (Nat.le_refl _)).1, (apart_of h1 h3 s2).1, (apart_of h2 h3 (Nat.le_refl _)).1, (apart_of h1 h2 (Nat.le_refl _)).2, (apart_of h1 h3 s2).2, (apart_of h2 h3 (Nat.le_refl _)).2⟩, ?_⟩
  · have := set_block (set_block (set_block hx3 (i := 0) (.slice a1 m.regs.length c1)) (i := 8) (.slice a2 m.mem.length c2)) (i := 9) (.slice a3 m.out.length c3)
    simpa using this
  · exact set_block_ne (set_block_ne (set_block_ne y2 (by omega) _) (by omega) _) (by omega) _
  · have hB : Below w.heap.size w w3 := (hb0.drew.trans (k1.mono (by omega))).trans ((k2.mono (by omega)).trans (k3.mono (by omega)))
    exact ((hB.setCell (by simp) _).setCell (by simp) _).setCell (by simp) _

end Go.Proofs.YtiekilpddmdhnaaDoor
