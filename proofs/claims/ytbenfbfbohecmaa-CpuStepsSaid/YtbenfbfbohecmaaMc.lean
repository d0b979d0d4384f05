/- The contract of cpu.Copy. -/
import Derived.Test.YtbenfbfbohecmaaCl
namespace Go.Proofs.Ytbenfbfbohecmaa
open Go Go.RowKit Go.ChangeShapes Go.WideShapes Go.Deep
set_option linter.unusedVariables false

attribute [local go_sem ↓] Go.wp_at_zero Go.wp_at_succ
/-- A guest, by its parts. -/
structure Mach where
  regs : List Int
  pc : Int
  back : Int
  ints : Bool
  wait : Bool
  table : Int
  count : Int
  fin : Int
  mem : List Int
  out : List Int
  ready : Int
  want : Int

/-- The value of a guest whose slices are vr, vm, vo. -/
def Mach.agg (m : Mach) (vr vm vo : Value) : Value := .agg #[vr, .int .i64 m.pc, .int .i64 m.back, .bool m.ints, .bool m.wait, .int .i64 m.table, .int .i64 m.count, .int .i64 m.fin, vm, vo, .int .i64 m.ready, .int .i64 m.want]

/-- Two values that share no block of the call's own. -/
def Apart (v v' : Value) : Prop := v.ownBlock = none ∨ v.ownBlock ≠ v'.ownBlock
theorem apart_of {w w' : World} {b b' : Nat} {t t' : TypeId} {s s' : Nat} {v v' : Value} {n n' : Nat} {xs xs' : List Value} (h : w.ownsRow b t s v n xs) (h' : w'.ownsRow b' t' s' v' n' xs') (hle : w.heap.size ≤ b') : Apart v v' ∧ Apart v' v := by
  unfold Apart
  cases e : v.ownBlock with
  | none => exact ⟨Or.inl rfl, by cases e' : v'.ownBlock with
    | none => exact Or.inl rfl
    | some k => exact Or.inr (by simp)⟩
  | some k =>
    cases e' : v'.ownBlock with
    | none => exact ⟨Or.inr (by simp), Or.inl rfl⟩
    | some k' =>
      have h1 := (h.lt k e).2
      have h2 := (h'.lt k' e').1
      exact ⟨Or.inr (by simp; omega), Or.inr (by simp; omega)⟩
theorem own_base {w : World} {b b' : Nat} {t : TypeId} {s : Nat} {v : Value} {n : Nat} {xs : List Value} (h : w.ownsRow b t s v n xs) (hle : b' ≤ b) : w.ownsRow b' t s v n xs := by
  obtain ⟨h1, h2⟩ := h
  refine ⟨h1, ?_⟩
  rcases h2 with h2 | ⟨g, cap, cur, hv, hg, r⟩
  · exact Or.inl h2
  · exact Or.inr ⟨g, cap, cur, hv, by omega, r⟩
/-- What is owned stays owned where nothing that was there is written. -/
theorem own_below {B : Nat} {w w' : World} {b : Nat} {t : TypeId} {s : Nat} {v : Value} {n : Nat} {xs : List Value} (h : w.ownsRow b t s v n xs) (hb : Below B w w') (hB : w.heap.size ≤ B) : w'.ownsRow b t s v n xs := by
  obtain ⟨h1, h2⟩ := h
  refine ⟨h1, ?_⟩
  rcases h2 with h2 | ⟨g, cap, cur, hv, hg, hh, r⟩
  · exact Or.inl h2
  · exact Or.inr ⟨g, cap, cur, hv, hg, by rw [hb.block g (by have := (Array.getElem?_eq_some_iff.1 hh).1; omega)]; exact hh, r⟩

/-- A guest whose slices are the call's own, each in a block of its own. -/
structure MachOwn (base : Nat) (w : World) (m : Mach) (vr vm vo : Value) : Prop where
  hr : w.ownsRow base 3 1 vr m.regs.length (m.regs.map (Value.int .i64))
  hm : w.ownsRow base 3 1 vm m.mem.length (m.mem.map (Value.int .i64))
  ho : w.ownsRow base 3 1 vo m.out.length (m.out.map (Value.int .i64))
  rm : Apart vr vm
  ro : Apart vr vo
  mo : Apart vm vo
  mr : Apart vm vr
  or : Apart vo vr
  om : Apart vo vm
def CopyPost (w : World) (m : Mach) (e : Ending) (w' : World) : Prop := ∃ ar cr am cm ao co, e = .returned (m.agg (.slice ar m.regs.length cr) (.slice am m.mem.length cm) (.slice ao m.out.length co)) ∧ MachOwn w.heap.size w' m (.slice ar m.regs.length cr) (.slice am m.mem.length cm) (.slice ao m.out.length co) ∧ Below w.heap.size w w'

/-- What stands behind the three clones. -/
def CopyCut (w : World) (m : Mach) (wx : World) : Prop := ∃ ar cr am cm ao co, wx.heap[w.heap.size]? = some (.cells #[.slice ar m.regs.length cr, .int .i64 m.pc, .int .i64 m.back, .bool m.ints, .bool m.wait, .int .i64 m.table, .int .i64 m.count, .int .i64 m.fin, .slice am m.mem.length cm, .slice ao m.out.length co, .int .i64 m.ready, .int .i64 m.want] 24 (0, 0)) ∧
  wx.heap[w.heap.size + 1]? = some (.cells #[.slice none 0 0, .int .i64 0, .int .i64 0, .bool false, .bool false, .int .i64 0, .int .i64 0, .int .i64 0, .slice none 0 0, .slice none 0 0, .int .i64 0, .int .i64 0] 24 (0, 0)) ∧
  MachOwn w.heap.size wx m (.slice ar m.regs.length cr) (.slice am m.mem.length cm) (.slice ao m.out.length co) ∧ Below w.heap.size w wx

theorem MachOwn.set {base g i : Nat} {w : World} {m : Mach} {vr vm vo u : Value} {cs : Array Value} {t : TypeId} {fr : Nat × Nat} (h : MachOwn base w m vr vm vo) (hg : w.heap[g]? = some (.cells cs t fr)) (ht : 3 ≠ t) : MachOwn base (w.setCell ⟨g, i, none⟩ u) m vr vm vo :=
  ⟨own_set h.hr (own_ne_block h.hr hg ht) _, own_set h.hm (own_ne_block h.hm hg ht) _, own_set h.ho (own_ne_block h.ho hg ht) _, h.rm, h.ro, h.mo, h.mr, h.or, h.om⟩
/-- What stays while a result is laid, cell by cell. -/
structure SetInv (w0 : World) (m : Mach) (vr vm vo : Value) (w : World) : Prop where
  own : MachOwn w0.heap.size w m vr vm vo
  box : ∃ cs, w.heap[w0.heap.size + 1]? = some (.cells cs 24 (0, 0))
  below : Below w0.heap.size w0 w
theorem SetInv.mk' {w0 w : World} {m : Mach} {vr vm vo : Value} {cs : Array Value} (h : MachOwn w0.heap.size w m vr vm vo) (hb : w.heap[w0.heap.size + 1]? = some (.cells cs 24 (0, 0))) (hB : Below w0.heap.size w0 w) : SetInv w0 m vr vm vo w := ⟨h, ⟨cs, hb⟩, hB⟩
theorem SetInv.step {w0 w : World} {m : Mach} {vr vm vo : Value} (h : SetInv w0 m vr vm vo w) (i : Nat) (u : Value) : SetInv w0 m vr vm vo (w.setCell ⟨w0.heap.size + 1, i, none⟩ u) := by
  obtain ⟨ho, ⟨cs, hb⟩, hB⟩ := h
  exact ⟨ho.set hb (by decide), ⟨_, set_block hb u⟩, hB.setCell (by simp) u⟩

theorem copy_close {w W2 W2' w1 w2 w3 : World} (m : Mach) {vr vm vo : Value} {a1 a2 a3 : Option Addr} {c1 c2 c3 : Nat} (hd : W2' = W2.drew) (hs0 : W2.heap.size = w.heap.size + 2) (hb0 : Below w.heap.size w W2)
    (hx2 : W2.heap[w.heap.size + 1]? = some (.cells #[.slice none 0 0, .int .i64 0, .int .i64 0, .bool false, .bool false, .int .i64 0, .int .i64 0, .int .i64 0, .slice none 0 0, .slice none 0 0, .int .i64 0, .int .i64 0] 24 (0, 0)))
    (hx3 : w3.heap[w.heap.size]? = some (.cells #[vr, .int .i64 m.pc, .int .i64 m.back, .bool m.ints, .bool m.wait, .int .i64 m.table, .int .i64 m.count, .int .i64 m.fin, vm, vo, .int .i64 m.ready, .int .i64 m.want] 24 (0, 0)))
    (h1 : w1.ownsRow W2'.heap.size 3 1 (.slice a1 m.regs.length c1) m.regs.length (m.regs.map (Value.int .i64))) (k1 : Below W2'.heap.size W2' w1)
    (h2 : w2.ownsRow w1.heap.size 3 1 (.slice a2 m.mem.length c2) m.mem.length (m.mem.map (Value.int .i64))) (k2 : Below w1.heap.size w1 w2)
    (h3 : w3.ownsRow w2.heap.size 3 1 (.slice a3 m.out.length c3) m.out.length (m.out.map (Value.int .i64))) (k3 : Below w2.heap.size w2 w3) :
    CopyCut w m (((w3.setCell ⟨w.heap.size, 0, none⟩ (.slice a1 m.regs.length c1)).setCell ⟨w.heap.size, 8, none⟩ (.slice a2 m.mem.length c2)).setCell ⟨w.heap.size, 9, none⟩ (.slice a3 m.out.length c3)) := by
  subst hd
  have s0 : W2.drew.heap.size = w.heap.size + 2 := hs0
  have s1 := k1.size
  have s2 := k2.size
  have s3 := k3.size
  have y2 := block_below k3 (block_below k2 (block_below k1 hx2 (by omega)) (by omega)) (by omega)
  have o1 := own_below (own_below (own_base h1 (b' := w.heap.size) (by omega)) k2 (Nat.le_refl _)) k3 (Nat.le_refl _)
  have o2 := own_below (own_base h2 (b' := w.heap.size) (by omega)) k3 (Nat.le_refl _)
  have o3 := own_base h3 (b' := w.heap.size) (by omega)
  have set3 : ∀ {v : Value} {n : Nat} {xs : List Value}, w3.ownsRow w.heap.size 3 1 v n xs → (((w3.setCell ⟨w.heap.size, 0, none⟩ (.slice a1 m.regs.length c1)).setCell ⟨w.heap.size, 8, none⟩ (.slice a2 m.mem.length c2)).setCell ⟨w.heap.size, 9, none⟩ (.slice a3 m.out.length c3)).ownsRow w.heap.size 3 1 v n xs := fun h => own_set (own_set (own_set h (own_ne_block h hx3 (by decide)) _) (own_ne_block h hx3 (by decide)) _) (own_ne_block h hx3 (by decide)) _
  refine ⟨a1, c1, a2, c2, a3, c3, ?_, ?_, ⟨set3 o1, set3 o2, set3 o3, (apart_of h1 h2 (Nat.le_refl _)).1, (apart_of h1 h3 s2).1, (apart_of h2 h3 (Nat.le_refl _)).1, (apart_of h1 h2 (Nat.le_refl _)).2, (apart_of h1 h3 s2).2, (apart_of h2 h3 (Nat.le_refl _)).2⟩, ?_⟩
  · have := set_block (set_block (set_block hx3 (i := 0) (.slice a1 m.regs.length c1)) (i := 8) (.slice a2 m.mem.length c2)) (i := 9) (.slice a3 m.out.length c3)
    simpa using this
  · exact set_block_ne (set_block_ne (set_block_ne y2 (by omega) _) (by omega) _) (by omega) _
  · have hB : Below w.heap.size w w3 := (hb0.drew.trans (k1.mono (by omega))).trans ((k2.mono (by omega)).trans (k3.mono (by omega)))
    exact ((hB.setCell (by simp) _).setCell (by simp) _).setCell (by simp) _

set_option maxHeartbeats 4000000 in
set_option maxRecDepth 100000 in
theorem mcopy_any (m : Mach) (ar am ao : Option Addr) (cr cm co : Nat) (w : World)
    (hr : Ints w.heap.size w (.slice ar m.regs.length cr) m.regs) (hm : Ints w.heap.size w (.slice am m.mem.length cm) m.mem) (ho : Ints w.heap.size w (.slice ao m.out.length co) m.out) :
    Calls Try.prog 13 #[m.agg (.slice ar m.regs.length cr) (.slice am m.mem.length cm) (.slice ao m.out.length co)] w (CopyPost w m) := by
  have HR := Lib.hid hr
  have HM := Lib.hid hm
  have HO := Lib.hid ho
  clear hr hm ho
  obtain ⟨regs, pc, back, ints, wait, table, count, fin, mem, out, ready, want⟩ := m
  simp only [Mach.agg] at *
  go_enter Try.func13, Try.ntmps13
  go_upto_region 1 with fail
  generalize hW : (w.alloc _).alloc _ = W2
  have hx1 : W2.heap[w.heap.size]? = some (.cells #[.slice ar regs.length cr, .int .i64 pc, .int .i64 back, .bool ints, .bool wait, .int .i64 table, .int .i64 count, .int .i64 fin, .slice am mem.length cm, .slice ao out.length co, .int .i64 ready, .int .i64 want] 24 (0, 0)) := by rw [← hW]; exact (alloc_lt (by simp)).trans (alloc_at rfl)
  have hx2 : W2.heap[w.heap.size + 1]? = some (.cells #[.slice none 0 0, .int .i64 0, .int .i64 0, .bool false, .bool false, .int .i64 0, .int .i64 0, .int .i64 0, .slice none 0 0, .slice none 0 0, .int .i64 0, .int .i64 0] 24 (0, 0)) := by rw [← hW]; exact alloc_at (by simp)
  have hb0 : Below w.heap.size w W2 := by rw [← hW]; exact below_alloc2 _ _ _
  have hs0 : W2.heap.size = w.heap.size + 2 := by rw [← hW]; simp
  clear hW
  have c00 : W2.cell? ⟨w.heap.size, 0, none⟩ = some (.slice ar regs.length cr) := cell_block hx1 0
  have c08 : W2.cell? ⟨w.heap.size, 8, none⟩ = some (.slice am mem.length cm) := cell_block hx1 8
  have c09 : W2.cell? ⟨w.heap.size, 9, none⟩ = some (.slice ao out.length co) := cell_block hx1 9
  have HX1 := Lib.hid hx1
  have HX2 := Lib.hid hx2
  have HS0 := Lib.hid hs0
  clear hx1 hx2 hs0
  go_cut [] (fun wx => CopyCut w ⟨regs, pc, back, ints, wait, table, count, fin, mem, out, ready, want⟩ wx)
  case first =>
    go_region_with (first
      | (go_at_call_of 24 (Value.slice ar regs.length cr); refine (cloneI_any _ regs _ ?_).mono ?_; (exact HR.out.to (by have := HS0.out; simp; omega) (same_below hb0.drew)); rintro e w1 ⟨a1, cc1, rfl, hown1, hb1⟩; have HX11 := Lib.hid (block_below hb1 HX1.out (by have := HS0.out; simp; omega)); have c10 : w1.cell? ⟨w.heap.size, 0, none⟩ = some (.slice ar regs.length cr) := cell_block HX11.out 0; have c18 : w1.cell? ⟨w.heap.size, 8, none⟩ = some (.slice am mem.length cm) := cell_block HX11.out 8; have c19 : w1.cell? ⟨w.heap.size, 9, none⟩ = some (.slice ao out.length co) := cell_block HX11.out 9)
      | (go_at_call_of 24 (Value.slice am mem.length cm); refine (cloneI_any _ mem _ ?_).mono ?_; (exact HM.out.to (by have := HS0.out; have := hb1.size; simp at this; omega) ((same_below hb0.drew).trans ((same_below hb1).mono (by have := HS0.out; simp; omega)))); rintro e w2 ⟨a2, cc2, rfl, hown2, hb2⟩; have HX12 := Lib.hid (block_below hb2 HX11.out (by have := HS0.out; have := hb1.size; simp at this; omega)); have c20 : w2.cell? ⟨w.heap.size, 0, none⟩ = some (.slice ar regs.length cr) := cell_block HX12.out 0; have c28 : w2.cell? ⟨w.heap.size, 8, none⟩ = some (.slice am mem.length cm) := cell_block HX12.out 8; have c29 : w2.cell? ⟨w.heap.size, 9, none⟩ = some (.slice ao out.length co) := cell_block HX12.out 9)
      | (go_at_call_of 24 (Value.slice ao out.length co); refine (cloneI_any _ out _ ?_).mono ?_; (exact HO.out.to (by have := HS0.out; have := hb1.size; have := hb2.size; simp at *; omega) ((same_below hb0.drew).trans (((same_below hb1).mono (by have := HS0.out; simp; omega)).trans ((same_below hb2).mono (by have := HS0.out; have := hb1.size; simp at this; omega))))); rintro e w3 ⟨a3, cc3, rfl, hown3, hb3⟩; have HX13 := Lib.hid (block_below hb3 HX12.out (by have := HS0.out; have := hb1.size; have := hb2.size; simp at *; omega)); have c30 : w3.cell? ⟨w.heap.size, 0, none⟩ = some (.slice ar regs.length cr) := cell_block HX13.out 0; have c38 : w3.cell? ⟨w.heap.size, 8, none⟩ = some (.slice am mem.length cm) := cell_block HX13.out 8; have c39 : w3.cell? ⟨w.heap.size, 9, none⟩ = some (.slice ao out.length co) := cell_block HX13.out 9; have f30 := free_block HX13.out 0; have f38 := free_block HX13.out 8; have f39 := free_block HX13.out 9))
    all_goals (go_wp2_with fail; go_meet)
    all_goals exact copy_close ⟨regs, pc, back, ints, wait, table, count, fin, mem, out, ready, want⟩ rfl HS0.out hb0 HX2.out HX13.out hown1 hb1 hown2 hb2 hown3 hb3
  case rest =>
    obtain ⟨a1, c1, a2, c2, a3, c3, hx, hy, hown, hb⟩ := hcut
    simp only at *
    have HO := Lib.hid hown
    have HB := Lib.hid hb
    have q0 : wc.cell? ⟨w.heap.size, 0, none⟩ = some (.slice a1 regs.length c1) := cell_block hx 0
    have q1 : wc.cell? ⟨w.heap.size, 1, none⟩ = some (.int .i64 pc) := cell_block hx 1
    have q2 : wc.cell? ⟨w.heap.size, 2, none⟩ = some (.int .i64 back) := cell_block hx 2
    have q3 : wc.cell? ⟨w.heap.size, 3, none⟩ = some (.bool ints) := cell_block hx 3
    have q4 : wc.cell? ⟨w.heap.size, 4, none⟩ = some (.bool wait) := cell_block hx 4
    have q5 : wc.cell? ⟨w.heap.size, 5, none⟩ = some (.int .i64 table) := cell_block hx 5
    have q6 : wc.cell? ⟨w.heap.size, 6, none⟩ = some (.int .i64 count) := cell_block hx 6
    have q7 : wc.cell? ⟨w.heap.size, 7, none⟩ = some (.int .i64 fin) := cell_block hx 7
    have q8 : wc.cell? ⟨w.heap.size, 8, none⟩ = some (.slice a2 mem.length c2) := cell_block hx 8
    have q9 : wc.cell? ⟨w.heap.size, 9, none⟩ = some (.slice a3 out.length c3) := cell_block hx 9
    have q10 : wc.cell? ⟨w.heap.size, 10, none⟩ = some (.int .i64 ready) := cell_block hx 10
    have q11 : wc.cell? ⟨w.heap.size, 11, none⟩ = some (.int .i64 want) := cell_block hx 11
    have r0 : wc.cell? ⟨w.heap.size + 1, 0, none⟩ = some (.slice none 0 0) := cell_block hy 0
    have g0 := free_block hy 0
    have r1 : wc.cell? ⟨w.heap.size + 1, 1, none⟩ = some (.int .i64 0) := cell_block hy 1
    have g1 := free_block hy 1
    have r2 : wc.cell? ⟨w.heap.size + 1, 2, none⟩ = some (.int .i64 0) := cell_block hy 2
    have g2 := free_block hy 2
    have r3 : wc.cell? ⟨w.heap.size + 1, 3, none⟩ = some (.bool false) := cell_block hy 3
    have g3 := free_block hy 3
    have r4 : wc.cell? ⟨w.heap.size + 1, 4, none⟩ = some (.bool false) := cell_block hy 4
    have g4 := free_block hy 4
    have r5 : wc.cell? ⟨w.heap.size + 1, 5, none⟩ = some (.int .i64 0) := cell_block hy 5
    have g5 := free_block hy 5
    have r6 : wc.cell? ⟨w.heap.size + 1, 6, none⟩ = some (.int .i64 0) := cell_block hy 6
    have g6 := free_block hy 6
    have r7 : wc.cell? ⟨w.heap.size + 1, 7, none⟩ = some (.int .i64 0) := cell_block hy 7
    have g7 := free_block hy 7
    have r8 : wc.cell? ⟨w.heap.size + 1, 8, none⟩ = some (.slice none 0 0) := cell_block hy 8
    have g8 := free_block hy 8
    have r9 : wc.cell? ⟨w.heap.size + 1, 9, none⟩ = some (.slice none 0 0) := cell_block hy 9
    have g9 := free_block hy 9
    have r10 : wc.cell? ⟨w.heap.size + 1, 10, none⟩ = some (.int .i64 0) := cell_block hy 10
    have g10 := free_block hy 10
    have r11 : wc.cell? ⟨w.heap.size + 1, 11, none⟩ = some (.int .i64 0) := cell_block hy 11
    have g11 := free_block hy 11
    have HX := Lib.hid hx
    have HY := Lib.hid hy
    clear hx hy hown hb
    go_wp2
    refine bodyPost_ret (v := .agg #[.slice a1 regs.length c1, .int .i64 pc, .int .i64 back, .bool ints, .bool wait, .int .i64 table, .int .i64 count, .int .i64 fin, .slice a2 mem.length c2, .slice a3 out.length c3, .int .i64 ready, .int .i64 want]) (by simp [results, Try.results13, go_sem, r0, r1, r2, r3, r4, r5, r6, r7, r8, r9, r10, r11]) rfl ?_
    have hS := SetInv.mk' HO.out HY.out HB.out
    have hS' := (((((((((((hS.step 0 (.slice a1 regs.length c1)).step 1 (.int .i64 pc)).step 2 (.int .i64 back)).step 3 (.bool ints)).step 4 (.bool wait)).step 5 (.int .i64 table)).step 6 (.int .i64 count)).step 7 (.int .i64 fin)).step 8 (.slice a2 mem.length c2)).step 9 (.slice a3 out.length c3)).step 10 (.int .i64 ready)).step 11 (.int .i64 want)
    exact ⟨a1, c1, a2, c2, a3, c3, rfl, hS'.own, hS'.below⟩
end Go.Proofs.Ytbenfbfbohecmaa
