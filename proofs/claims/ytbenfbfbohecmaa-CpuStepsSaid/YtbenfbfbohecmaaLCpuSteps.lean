/- The law hourglasslaw.CpuSteps returns true at every machine, every answer of the world. No condition. -/
import Derived.Test.YtbenfbfbohecmaaRows
import Derived.Test.YtbenfbfbohecmaaOpen
import Derived.Test.YtbenfbfbohecmaaFacts
import Derived.WalkKit
import Derived.ProofKit
import Derived.OpenShut
import Derived.ShutString
import Derived.ChangeOld
import Derived.Below
import Derived.Test.YtbenfbfbohecmaaStf
import Derived.Test.YtbenfbfbohecmaaMs
import Derived.Test.YtbenfbfbohecmaaAp
import Derived.Test.YtbenfbfbohecmaaOp2
import Derived.Deep.RegionLaw
import Derived.Deep.RegionWith
namespace Go.Proofs.Ytbenfbfbohecmaa.lCpuSteps
open Go Go.RowKit Go.ChangeShapes Go.WideShapes Go.ChangeAt Go.Deep
open Go.ChangeMaps (open_string shut_string)
set_option linter.unusedVariables false

theorem step_append_all {P : Program} (w : World) {ops : Array Oper} {o : Oper} {a : Act} {K : Act → World → Prop} {Q : Exit → Act → World → Prop} {E : Prop} (hgd : o.guard = none) (s x : Operand) (t : TypeId)
    (ho : o.op = .call { callee := .builtin .append, args := #[s, x], argTypes := #[t, t] })
    (base : Nat) (e : TypeId) (z : Value) (bytes : Nat) (ht : P.underlying t = some (.slice e)) (hi : (P.info? e).map (fun i => (i.zero, i.size, i.bytes)) = some (some z, 1, bytes)) (hzs : z.cells.size = 1)
    (v : Value) (n : Nat) (xs : List Value) (hs : a.eval s = v) (hown : w.ownsRow base e 1 v n xs) (vx : Value) (m B : Nat) (news : List Value) (hxe : a.eval x = vx) (hx : SlV m B w vx news) (hone : ∀ u ∈ news, u.oneCell' = true)
    (hmax : n + news.length ≤ maxLen) (hbytes : (n + news.length) * bytes ≤ 140737488355328) (hbase : base ≤ w.heap.size)
    (h : ∀ a' c' w', w'.ownsRow base e 1 (.slice a' (n + news.length) c') (n + news.length) (xs ++ news) → w.grownBy w' v.ownBlock → K (a.put o.dst (.slice a' (n + news.length) c')) w') :
    if Region.wanted o (yielded ops a.tmps) = true then Oper.wp P o a w K Q else E := by
  rw [if_pos (by simp [Region.wanted, hgd])]
  obtain ⟨v', w', hr, h2, h3, h5⟩ := run_append_all (P := P) w t o.type base e z bytes ht hi hzs v n xs hown vx m B news hx hone hmax hbytes hbase
  obtain ⟨a', c', rfl⟩ := own_shape h2
  unfold Oper.wp
  simp [execOp, ho, resolve, invoke, builtin, hs, hxe, hr, Result.andThen]
  exact h a' c' w' h2 h3

theorem stepR_ok {m : Mach} {irq : Bool} {b : List Int} {value : Int} {m1 : Mach} {wr c : Int} (h : StepR m irq b value m1 wr c) : (∀ z ∈ m1.regs, I64 z) ∧ (∀ z ∈ m1.mem, I64 z) ∧ (∀ z ∈ m1.out, I64 z) ∧ m1.regs.length ≤ 256 ∧ m1.mem.length ≤ 256 ∧ m1.out.length ≤ 256 := by
  have hz : ∀ x : Mach, x = Mach.zero → (∀ z ∈ x.regs, I64 z) ∧ (∀ z ∈ x.mem, I64 z) ∧ (∀ z ∈ x.out, I64 z) ∧ x.regs.length ≤ 256 ∧ x.mem.length ≤ 256 ∧ x.out.length ≤ 256 := by
    rintro x rfl
    exact ⟨fun z hz => (by cases hz), fun z hz => (by cases hz), fun z hz => (by cases hz), by decide, by decide, by decide⟩
  rcases h with ⟨_, rfl, _⟩ | ⟨_, _, rfl, _⟩ | ⟨_, _, _, rfl, _⟩ | ⟨h0, h1, h2, rfl, _⟩
  · exact hz _ rfl
  · exact hz _ rfl
  · exact hz _ rfl
  · have hov : oddB value = false := by cases h : oddB value with
      | false => rfl
      | true => exact absurd (Or.inl h) h2
    have hob : b.any oddB = false := by cases h : b.any oddB with
      | false => rfl
      | true => exact absurd (Or.inr (Or.inl h)) h2
    have hc : m.count < 1099511627776 := by have h1 := h0.count; have h3 : ¬ m.count = 1099511627776 := fun h => h2 (Or.inr (Or.inr h)); omega
    have hk := stepM_ok h0 irq value h1 (words_of hob) (odd_iff hov) hc
    have l1 := hk.regs
    have l2 := hk.mem
    have l3 := hk.out
    exact ⟨fun z hz => (words_of hk.wr z hz).i64, fun z hz => (words_of hk.wm z hz).i64, fun z hz => (words_of hk.wo z hz).i64, by omega, by omega, by omega⟩
theorem mach_own {b b' : Nat} {w w' : World} {m : Mach} {vr vm vo : Value} (h : MachOwn b w m vr vm vo) (hb : Below w.heap.size w w') (hB : b' ≤ b) : MachOwn b' w' m vr vm vo :=
  ⟨own_base (own_below h.hr hb (Nat.le_refl _)) hB, own_base (own_below h.hm hb (Nat.le_refl _)) hB, own_base (own_below h.ho hb (Nat.le_refl _)) hB, h.rm, h.ro, h.mo, h.mr, h.or, h.om⟩
def IL (m1 : Mach) : Prop := (∀ z ∈ m1.regs, I64 z) ∧ (∀ z ∈ m1.mem, I64 z) ∧ (∀ z ∈ m1.out, I64 z) ∧ m1.regs.length ≤ 256 ∧ m1.mem.length ≤ 256 ∧ m1.out.length ≤ 256
theorem il_reads {base : Nat} {w : World} {m : Mach} {ar am ao : Option Addr} {cr cm co : Nat} (h : IL m) (ho : MachOwn base w m (.slice ar m.regs.length cr) (.slice am m.mem.length cm) (.slice ao m.out.length co)) : MachR w.heap.size w (.agg #[.slice ar m.regs.length cr, .int .i64 m.pc, .int .i64 m.back, .bool m.ints, .bool m.wait, .int .i64 m.table, .int .i64 m.count, .int .i64 m.fin, .slice am m.mem.length cm, .slice ao m.out.length co, .int .i64 m.ready, .int .i64 m.want]) m := by
  obtain ⟨i1, i2, i3, l1, l2, l3⟩ := h
  exact ho.reads i1 i2 i3 (by omega) (by omega) (by omega)
def CsRel (m : Mach) (irq : Bool) (b : List Int) (value : Int) (W2 : World) (s10 s11 s12 : Value) (wx : World) : Prop := ∃ (gb : Nat) (m1 : Mach) (wr c : Int) (r1 e1 o1 : Option Addr) (s1 f1 q1 : Nat), s10 = .pointer (some ⟨gb, 0, none⟩) ∧ s11 = .int .i64 wr ∧ s12 = .int .i64 c ∧ Hid (StepR m irq b value m1 wr c) ∧ Hid (wx.heap[gb]? = some (.cells #[.slice r1 m1.regs.length s1, .int .i64 m1.pc, .int .i64 m1.back, .bool m1.ints, .bool m1.wait, .int .i64 m1.table, .int .i64 m1.count, .int .i64 m1.fin, .slice e1 m1.mem.length f1, .slice o1 m1.out.length q1, .int .i64 m1.ready, .int .i64 m1.want] 24 (0, 0))) ∧ Hid (SInv W2 gb m1 (.slice r1 m1.regs.length s1) (.slice e1 m1.mem.length f1) (.slice o1 m1.out.length q1) wx)
theorem rel_new {m : Mach} {irq : Bool} {b : List Int} {value : Int} {W2 w3 : World} {m1 : Mach} {wr c : Int} {r1 e1 o1 : Option Addr} {s1 f1 q1 : Nat} (HST : Hid (StepR m irq b value m1 wr c)) (HOW : Hid (MachOwn W2.heap.size w3 m1 (.slice r1 m1.regs.length s1) (.slice e1 m1.mem.length f1) (.slice o1 m1.out.length q1))) (HB3 : Hid (Below W2.heap.size W2 w3)) : CsRel m irq b value W2 (.pointer (some ⟨w3.heap.size, 0, none⟩)) (.int .i64 wr) (.int .i64 c) (w3.alloc (.cells #[.slice r1 m1.regs.length s1, .int .i64 m1.pc, .int .i64 m1.back, .bool m1.ints, .bool m1.wait, .int .i64 m1.table, .int .i64 m1.count, .int .i64 m1.fin, .slice e1 m1.mem.length f1, .slice o1 m1.out.length q1, .int .i64 m1.ready, .int .i64 m1.want] 24 (0, 0))) :=
  ⟨_, m1, wr, c, r1, e1, o1, s1, f1, q1, rfl, rfl, rfl, HST, Lib.hid (alloc_at rfl), Lib.hid ⟨mach_own HOW.out (below_alloc _ _) (Nat.le_refl _), ⟨_, alloc_at rfl⟩, HB3.out.alloc HB3.out.size _⟩⟩
theorem rel_set {m : Mach} {irq : Bool} {b : List Int} {value : Int} {W2 w3 : World} {m1 : Mach} {wr c : Int} {r1 e1 o1 : Option Addr} {s1 f1 q1 : Nat} (HST : Hid (StepR m irq b value m1 wr c)) (HOW : Hid (MachOwn W2.heap.size w3 m1 (.slice r1 m1.regs.length s1) (.slice e1 m1.mem.length f1) (.slice o1 m1.out.length q1))) (HB3 : Hid (Below W2.heap.size W2 w3)) {g : Nat} (hg : W2.heap.size ≤ g) (HXZ : Hid (w3.heap[g]? = some (.cells #[.slice none 0 0, .int .i64 0, .int .i64 0, .bool false, .bool false, .int .i64 0, .int .i64 0, .int .i64 0, .slice none 0 0, .slice none 0 0, .int .i64 0, .int .i64 0] 24 (0, 0)))) : CsRel m irq b value W2 (.pointer (some ⟨g, 0, none⟩)) (.int .i64 wr) (.int .i64 c) ((((((((((((w3.setCell ⟨g, 0, none⟩ (.slice r1 m1.regs.length s1)).setCell ⟨g, 1, none⟩ (.int .i64 m1.pc)).setCell ⟨g, 2, none⟩ (.int .i64 m1.back)).setCell ⟨g, 3, none⟩ (.bool m1.ints)).setCell ⟨g, 4, none⟩ (.bool m1.wait)).setCell ⟨g, 5, none⟩ (.int .i64 m1.table)).setCell ⟨g, 6, none⟩ (.int .i64 m1.count)).setCell ⟨g, 7, none⟩ (.int .i64 m1.fin)).setCell ⟨g, 8, none⟩ (.slice e1 m1.mem.length f1)).setCell ⟨g, 9, none⟩ (.slice o1 m1.out.length q1)).setCell ⟨g, 10, none⟩ (.int .i64 m1.ready)).setCell ⟨g, 11, none⟩ (.int .i64 m1.want)) := by
  have b0 := HXZ.out
  have b1 : (w3.setCell ⟨g, 0, none⟩ (.slice r1 m1.regs.length s1)).heap[g]? = some (.cells #[.slice r1 m1.regs.length s1, .int .i64 0, .int .i64 0, .bool false, .bool false, .int .i64 0, .int .i64 0, .int .i64 0, .slice none 0 0, .slice none 0 0, .int .i64 0, .int .i64 0] 24 (0, 0)) := set_block b0 _
  have b2 : ((w3.setCell ⟨g, 0, none⟩ (.slice r1 m1.regs.length s1)).setCell ⟨g, 1, none⟩ (.int .i64 m1.pc)).heap[g]? = some (.cells #[.slice r1 m1.regs.length s1, .int .i64 m1.pc, .int .i64 0, .bool false, .bool false, .int .i64 0, .int .i64 0, .int .i64 0, .slice none 0 0, .slice none 0 0, .int .i64 0, .int .i64 0] 24 (0, 0)) := set_block b1 _
  have b3 : (((w3.setCell ⟨g, 0, none⟩ (.slice r1 m1.regs.length s1)).setCell ⟨g, 1, none⟩ (.int .i64 m1.pc)).setCell ⟨g, 2, none⟩ (.int .i64 m1.back)).heap[g]? = some (.cells #[.slice r1 m1.regs.length s1, .int .i64 m1.pc, .int .i64 m1.back, .bool false, .bool false, .int .i64 0, .int .i64 0, .int .i64 0, .slice none 0 0, .slice none 0 0, .int .i64 0, .int .i64 0] 24 (0, 0)) := set_block b2 _
  have b4 : ((((w3.setCell ⟨g, 0, none⟩ (.slice r1 m1.regs.length s1)).setCell ⟨g, 1, none⟩ (.int .i64 m1.pc)).setCell ⟨g, 2, none⟩ (.int .i64 m1.back)).setCell ⟨g, 3, none⟩ (.bool m1.ints)).heap[g]? = some (.cells #[.slice r1 m1.regs.length s1, .int .i64 m1.pc, .int .i64 m1.back, .bool m1.ints, .bool false, .int .i64 0, .int .i64 0, .int .i64 0, .slice none 0 0, .slice none 0 0, .int .i64 0, .int .i64 0] 24 (0, 0)) := set_block b3 _
  have b5 : (((((w3.setCell ⟨g, 0, none⟩ (.slice r1 m1.regs.length s1)).setCell ⟨g, 1, none⟩ (.int .i64 m1.pc)).setCell ⟨g, 2, none⟩ (.int .i64 m1.back)).setCell ⟨g, 3, none⟩ (.bool m1.ints)).setCell ⟨g, 4, none⟩ (.bool m1.wait)).heap[g]? = some (.cells #[.slice r1 m1.regs.length s1, .int .i64 m1.pc, .int .i64 m1.back, .bool m1.ints, .bool m1.wait, .int .i64 0, .int .i64 0, .int .i64 0, .slice none 0 0, .slice none 0 0, .int .i64 0, .int .i64 0] 24 (0, 0)) := set_block b4 _
  have b6 : ((((((w3.setCell ⟨g, 0, none⟩ (.slice r1 m1.regs.length s1)).setCell ⟨g, 1, none⟩ (.int .i64 m1.pc)).setCell ⟨g, 2, none⟩ (.int .i64 m1.back)).setCell ⟨g, 3, none⟩ (.bool m1.ints)).setCell ⟨g, 4, none⟩ (.bool m1.wait)).setCell ⟨g, 5, none⟩ (.int .i64 m1.table)).heap[g]? = some (.cells #[.slice r1 m1.regs.length s1, .int .i64 m1.pc, .int .i64 m1.back, .bool m1.ints, .bool m1.wait, .int .i64 m1.table, .int .i64 0, .int .i64 0, .slice none 0 0, .slice none 0 0, .int .i64 0, .int .i64 0] 24 (0, 0)) := set_block b5 _
  have b7 : (((((((w3.setCell ⟨g, 0, none⟩ (.slice r1 m1.regs.length s1)).setCell ⟨g, 1, none⟩ (.int .i64 m1.pc)).setCell ⟨g, 2, none⟩ (.int .i64 m1.back)).setCell ⟨g, 3, none⟩ (.bool m1.ints)).setCell ⟨g, 4, none⟩ (.bool m1.wait)).setCell ⟨g, 5, none⟩ (.int .i64 m1.table)).setCell ⟨g, 6, none⟩ (.int .i64 m1.count)).heap[g]? = some (.cells #[.slice r1 m1.regs.length s1, .int .i64 m1.pc, .int .i64 m1.back, .bool m1.ints, .bool m1.wait, .int .i64 m1.table, .int .i64 m1.count, .int .i64 0, .slice none 0 0, .slice none 0 0, .int .i64 0, .int .i64 0] 24 (0, 0)) := set_block b6 _
  have b8 : ((((((((w3.setCell ⟨g, 0, none⟩ (.slice r1 m1.regs.length s1)).setCell ⟨g, 1, none⟩ (.int .i64 m1.pc)).setCell ⟨g, 2, none⟩ (.int .i64 m1.back)).setCell ⟨g, 3, none⟩ (.bool m1.ints)).setCell ⟨g, 4, none⟩ (.bool m1.wait)).setCell ⟨g, 5, none⟩ (.int .i64 m1.table)).setCell ⟨g, 6, none⟩ (.int .i64 m1.count)).setCell ⟨g, 7, none⟩ (.int .i64 m1.fin)).heap[g]? = some (.cells #[.slice r1 m1.regs.length s1, .int .i64 m1.pc, .int .i64 m1.back, .bool m1.ints, .bool m1.wait, .int .i64 m1.table, .int .i64 m1.count, .int .i64 m1.fin, .slice none 0 0, .slice none 0 0, .int .i64 0, .int .i64 0] 24 (0, 0)) := set_block b7 _
  have b9 : (((((((((w3.setCell ⟨g, 0, none⟩ (.slice r1 m1.regs.length s1)).setCell ⟨g, 1, none⟩ (.int .i64 m1.pc)).setCell ⟨g, 2, none⟩ (.int .i64 m1.back)).setCell ⟨g, 3, none⟩ (.bool m1.ints)).setCell ⟨g, 4, none⟩ (.bool m1.wait)).setCell ⟨g, 5, none⟩ (.int .i64 m1.table)).setCell ⟨g, 6, none⟩ (.int .i64 m1.count)).setCell ⟨g, 7, none⟩ (.int .i64 m1.fin)).setCell ⟨g, 8, none⟩ (.slice e1 m1.mem.length f1)).heap[g]? = some (.cells #[.slice r1 m1.regs.length s1, .int .i64 m1.pc, .int .i64 m1.back, .bool m1.ints, .bool m1.wait, .int .i64 m1.table, .int .i64 m1.count, .int .i64 m1.fin, .slice e1 m1.mem.length f1, .slice none 0 0, .int .i64 0, .int .i64 0] 24 (0, 0)) := set_block b8 _
  have b10 : ((((((((((w3.setCell ⟨g, 0, none⟩ (.slice r1 m1.regs.length s1)).setCell ⟨g, 1, none⟩ (.int .i64 m1.pc)).setCell ⟨g, 2, none⟩ (.int .i64 m1.back)).setCell ⟨g, 3, none⟩ (.bool m1.ints)).setCell ⟨g, 4, none⟩ (.bool m1.wait)).setCell ⟨g, 5, none⟩ (.int .i64 m1.table)).setCell ⟨g, 6, none⟩ (.int .i64 m1.count)).setCell ⟨g, 7, none⟩ (.int .i64 m1.fin)).setCell ⟨g, 8, none⟩ (.slice e1 m1.mem.length f1)).setCell ⟨g, 9, none⟩ (.slice o1 m1.out.length q1)).heap[g]? = some (.cells #[.slice r1 m1.regs.length s1, .int .i64 m1.pc, .int .i64 m1.back, .bool m1.ints, .bool m1.wait, .int .i64 m1.table, .int .i64 m1.count, .int .i64 m1.fin, .slice e1 m1.mem.length f1, .slice o1 m1.out.length q1, .int .i64 0, .int .i64 0] 24 (0, 0)) := set_block b9 _
  have b11 : (((((((((((w3.setCell ⟨g, 0, none⟩ (.slice r1 m1.regs.length s1)).setCell ⟨g, 1, none⟩ (.int .i64 m1.pc)).setCell ⟨g, 2, none⟩ (.int .i64 m1.back)).setCell ⟨g, 3, none⟩ (.bool m1.ints)).setCell ⟨g, 4, none⟩ (.bool m1.wait)).setCell ⟨g, 5, none⟩ (.int .i64 m1.table)).setCell ⟨g, 6, none⟩ (.int .i64 m1.count)).setCell ⟨g, 7, none⟩ (.int .i64 m1.fin)).setCell ⟨g, 8, none⟩ (.slice e1 m1.mem.length f1)).setCell ⟨g, 9, none⟩ (.slice o1 m1.out.length q1)).setCell ⟨g, 10, none⟩ (.int .i64 m1.ready)).heap[g]? = some (.cells #[.slice r1 m1.regs.length s1, .int .i64 m1.pc, .int .i64 m1.back, .bool m1.ints, .bool m1.wait, .int .i64 m1.table, .int .i64 m1.count, .int .i64 m1.fin, .slice e1 m1.mem.length f1, .slice o1 m1.out.length q1, .int .i64 m1.ready, .int .i64 0] 24 (0, 0)) := set_block b10 _
  have b12 : ((((((((((((w3.setCell ⟨g, 0, none⟩ (.slice r1 m1.regs.length s1)).setCell ⟨g, 1, none⟩ (.int .i64 m1.pc)).setCell ⟨g, 2, none⟩ (.int .i64 m1.back)).setCell ⟨g, 3, none⟩ (.bool m1.ints)).setCell ⟨g, 4, none⟩ (.bool m1.wait)).setCell ⟨g, 5, none⟩ (.int .i64 m1.table)).setCell ⟨g, 6, none⟩ (.int .i64 m1.count)).setCell ⟨g, 7, none⟩ (.int .i64 m1.fin)).setCell ⟨g, 8, none⟩ (.slice e1 m1.mem.length f1)).setCell ⟨g, 9, none⟩ (.slice o1 m1.out.length q1)).setCell ⟨g, 10, none⟩ (.int .i64 m1.ready)).setCell ⟨g, 11, none⟩ (.int .i64 m1.want)).heap[g]? = some (.cells #[.slice r1 m1.regs.length s1, .int .i64 m1.pc, .int .i64 m1.back, .bool m1.ints, .bool m1.wait, .int .i64 m1.table, .int .i64 m1.count, .int .i64 m1.fin, .slice e1 m1.mem.length f1, .slice o1 m1.out.length q1, .int .i64 m1.ready, .int .i64 m1.want] 24 (0, 0)) := set_block b11 _
  refine ⟨g, m1, wr, c, r1, e1, o1, s1, f1, q1, rfl, rfl, rfl, HST, Lib.hid b12, Lib.hid ?_⟩
  repeat' (refine SInv.step hg _ _ ?_)
  exact ⟨HOW.out, ⟨_, HXZ.out⟩, HB3.out⟩

set_option maxHeartbeats 4000000 in
set_option maxRecDepth 100000 in
theorem walk1 (W : World) (m : Mach) (ar am ao : Option Addr) (cr cm co : Nat) (irq : Bool) (ba : Option Addr) (b : List Int) (bc : Nat) (value : Int) (hr : Ints W.heap.size W (.slice ar m.regs.length cr) m.regs) (hm : Ints W.heap.size W (.slice am m.mem.length cm) m.mem) (ho : Ints W.heap.size W (.slice ao m.out.length co) m.out) (hb : Ints W.heap.size W (.slice ba b.length bc) b) (hv : I64 value) : Calls Try.prog 3 #[.agg #[.slice ar m.regs.length cr, .int .i64 m.pc, .int .i64 m.back, .bool m.ints, .bool m.wait, .int .i64 m.table, .int .i64 m.count, .int .i64 m.fin, .slice am m.mem.length cm, .slice ao m.out.length co, .int .i64 m.ready, .int .i64 m.want], .bool irq, .slice ba b.length bc, .int .i64 value] W fun e W' => e = .returned (.bool true) ∧ Below W.heap.size W W' := by
  have HR := Lib.hid hr
  have HM := Lib.hid hm
  have HO := Lib.hid ho
  have HBB := Lib.hid hb
  have HV := Lib.hid hv
  have hlen := hb.len
  clear hr hm ho hb hv
  go_enter Try.func3, Try.ntmps3
  go_upto_region 2 with (go_at_call 4; refine (gcopy_any m ar am ao cr cm co _ (HR.out.to (by simp) (same_alloc _ _)) (HM.out.to (by simp) (same_alloc _ _)) (HO.out.to (by simp) (same_alloc _ _))).mono ?_; rintro e w1 ⟨br, dr, bm, dm, bo, d0, he, hown, hb1⟩; have hrd := hown.reads HR.out.i64 HM.out.i64 HO.out.i64 HR.out.len HM.out.len HO.out.len; rw [Mach.agg] at he hrd; subst he; have HK := Lib.hid hrd; have HX4 := Lib.hid (block_below hb1 (alloc_at (w := W) rfl) (by simp)); have HB1 := Lib.hid ((below_alloc W _).trans (hb1.mono (by simp))); clear hown hrd hb1)
  have HBW : Hid (Below W.heap.size W (w1.alloc (.cells #[.slice br m.regs.length dr, .int .i64 m.pc, .int .i64 m.back, .bool m.ints, .bool m.wait, .int .i64 m.table, .int .i64 m.count, .int .i64 m.fin, .slice bm m.mem.length dm, .slice bo m.out.length d0, .int .i64 m.ready, .int .i64 m.want] 24 (0, 0)))) := Lib.hid (HB1.out.alloc HB1.out.size _)
  have HX9 : Hid ((w1.alloc (.cells #[.slice br m.regs.length dr, .int .i64 m.pc, .int .i64 m.back, .bool m.ints, .bool m.wait, .int .i64 m.table, .int .i64 m.count, .int .i64 m.fin, .slice bm m.mem.length dm, .slice bo m.out.length d0, .int .i64 m.ready, .int .i64 m.want] 24 (0, 0))).heap[w1.heap.size]? = some (.cells #[.slice br m.regs.length dr, .int .i64 m.pc, .int .i64 m.back, .bool m.ints, .bool m.wait, .int .i64 m.table, .int .i64 m.count, .int .i64 m.fin, .slice bm m.mem.length dm, .slice bo m.out.length d0, .int .i64 m.ready, .int .i64 m.want] 24 (0, 0))) := Lib.hid (alloc_at rfl)
  have HX42 : Hid ((w1.alloc (.cells #[.slice br m.regs.length dr, .int .i64 m.pc, .int .i64 m.back, .bool m.ints, .bool m.wait, .int .i64 m.table, .int .i64 m.count, .int .i64 m.fin, .slice bm m.mem.length dm, .slice bo m.out.length d0, .int .i64 m.ready, .int .i64 m.want] 24 (0, 0))).heap[W.heap.size]? = some (.cells #[.slice ar m.regs.length cr, .int .i64 m.pc, .int .i64 m.back, .bool m.ints, .bool m.wait, .int .i64 m.table, .int .i64 m.count, .int .i64 m.fin, .slice am m.mem.length cm, .slice ao m.out.length co, .int .i64 m.ready, .int .i64 m.want] 24 (0, 0))) := Lib.hid ((alloc_lt (Array.getElem?_eq_some_iff.1 HX4.out).1).trans HX4.out)
  have HK2 : Hid (MachR (w1.alloc (.cells #[.slice br m.regs.length dr, .int .i64 m.pc, .int .i64 m.back, .bool m.ints, .bool m.wait, .int .i64 m.table, .int .i64 m.count, .int .i64 m.fin, .slice bm m.mem.length dm, .slice bo m.out.length d0, .int .i64 m.ready, .int .i64 m.want] 24 (0, 0))).heap.size (w1.alloc (.cells #[.slice br m.regs.length dr, .int .i64 m.pc, .int .i64 m.back, .bool m.ints, .bool m.wait, .int .i64 m.table, .int .i64 m.count, .int .i64 m.fin, .slice bm m.mem.length dm, .slice bo m.out.length d0, .int .i64 m.ready, .int .i64 m.want] 24 (0, 0))) (.agg #[.slice br m.regs.length dr, .int .i64 m.pc, .int .i64 m.back, .bool m.ints, .bool m.wait, .int .i64 m.table, .int .i64 m.count, .int .i64 m.fin, .slice bm m.mem.length dm, .slice bo m.out.length d0, .int .i64 m.ready, .int .i64 m.want]) m) := Lib.hid (HK.out.to (by simp) (same_alloc _ _))
  have g94 : ¬ w1.heap.size = W.heap.size := by have := (Array.getElem?_eq_some_iff.1 HX4.out).1; omega
  generalize hWW : World.alloc w1 _ = W2 at *
  generalize hg9 : w1.heap.size = g9 at *
  clear hWW hg9 HK HX4 HB1
  have HBVD : Hid (∀ w', Below W2.heap.size W2 w' → SlV 17592186043904 W2.heap.size w' (.slice ba b.length bc) (b.map (Value.int .i64))) := Lib.hid (fun w' hw => (HBB.out.to (B' := W2.heap.size) HBW.out.size (same_below (HBW.out.trans (hw.mono HBW.out.size)))).vals)
  have HDR : Hid (Below W2.heap.size W2 W2.drew) := Lib.hid (Below.refl _ _).drew
  have HLZ : Hid (∀ O, W2.heap.size ≤ (W2.drew.alloc O).heap.size) := Lib.hid (fun O => by simp)
  have HDZ : Hid (∀ O, Below W2.heap.size W2 (W2.drew.alloc O)) := Lib.hid (fun O => ((Below.refl _ _).drew).alloc (Nat.le_refl _) O)
  have l9 := (Array.getElem?_eq_some_iff.1 HX9.out).1
  have p0 : W2.cell? ⟨g9, 0, none⟩ = some (.slice br m.regs.length dr) := cell_block HX9.out 0
  have p1 : W2.cell? ⟨g9, 1, none⟩ = some (.int .i64 m.pc) := cell_block HX9.out 1
  have p2 : W2.cell? ⟨g9, 2, none⟩ = some (.int .i64 m.back) := cell_block HX9.out 2
  have p3 : W2.cell? ⟨g9, 3, none⟩ = some (.bool m.ints) := cell_block HX9.out 3
  have p4 : W2.cell? ⟨g9, 4, none⟩ = some (.bool m.wait) := cell_block HX9.out 4
  have p5 : W2.cell? ⟨g9, 5, none⟩ = some (.int .i64 m.table) := cell_block HX9.out 5
  have p6 : W2.cell? ⟨g9, 6, none⟩ = some (.int .i64 m.count) := cell_block HX9.out 6
  have p7 : W2.cell? ⟨g9, 7, none⟩ = some (.int .i64 m.fin) := cell_block HX9.out 7
  have p8 : W2.cell? ⟨g9, 8, none⟩ = some (.slice bm m.mem.length dm) := cell_block HX9.out 8
  have p9 : W2.cell? ⟨g9, 9, none⟩ = some (.slice bo m.out.length d0) := cell_block HX9.out 9
  have p10 : W2.cell? ⟨g9, 10, none⟩ = some (.int .i64 m.ready) := cell_block HX9.out 10
  have p11 : W2.cell? ⟨g9, 11, none⟩ = some (.int .i64 m.want) := cell_block HX9.out 11
  go_cut [10, 11, 12] from 16 (fun s10 s11 s12 wx => CsRel m irq b value W2 s10 s11 s12 wx)
  case first =>
    go_region_law (first
      | (refine step_append_all W2.drew rfl (.const (.slice none 0 0)) (.tmp 21) 22 rfl W2.heap.size 3 (.int .i64 0) 8 Try.underlying22 info_int rfl (.slice none 0 0) 0 [] rfl (World.ownsRow_nil _ _ _ _) (.slice ba b.length bc) 17592186043904 W2.heap.size (b.map (Value.int .i64)) rfl (HBVD.out _ HDR.out) (ints_one b) (by simp; unfold maxLen; omega) (by simp; omega) (Nat.le_refl _) ?_; intro a0 c0 w0 hown0 hgrow0; have HB0 : Hid (Below W2.heap.size W2 w0) := Lib.hid (HDR.out.grown hgrow0 (Nat.le_refl _) (fun k hk => by simp [Value.ownBlock] at hk)); have HZ0 : Hid True := Lib.hid trivial; have HI0 : Hid (Ints w0.heap.size w0 (.slice a0 b.length c0) b) := Lib.hid (ints_of_owns (by have h := hown0; rw [List.nil_append, List.length_map, Nat.zero_add] at h; exact h) hlen HBB.out.i64); have x9 := block_below HB0.out HX9.out l9; have z0 : w0.cell? ⟨g9, 0, none⟩ = some (.slice br m.regs.length dr) := cell_block x9 0; have z1 : w0.cell? ⟨g9, 1, none⟩ = some (.int .i64 m.pc) := cell_block x9 1; have z2 : w0.cell? ⟨g9, 2, none⟩ = some (.int .i64 m.back) := cell_block x9 2; have z3 : w0.cell? ⟨g9, 3, none⟩ = some (.bool m.ints) := cell_block x9 3; have z4 : w0.cell? ⟨g9, 4, none⟩ = some (.bool m.wait) := cell_block x9 4; have z5 : w0.cell? ⟨g9, 5, none⟩ = some (.int .i64 m.table) := cell_block x9 5; have z6 : w0.cell? ⟨g9, 6, none⟩ = some (.int .i64 m.count) := cell_block x9 6; have z7 : w0.cell? ⟨g9, 7, none⟩ = some (.int .i64 m.fin) := cell_block x9 7; have z8 : w0.cell? ⟨g9, 8, none⟩ = some (.slice bm m.mem.length dm) := cell_block x9 8; have z9 : w0.cell? ⟨g9, 9, none⟩ = some (.slice bo m.out.length d0) := cell_block x9 9; have z10 : w0.cell? ⟨g9, 10, none⟩ = some (.int .i64 m.ready) := cell_block x9 10; have z11 : w0.cell? ⟨g9, 11, none⟩ = some (.int .i64 m.want) := cell_block x9 11; have l90 := (Array.getElem?_eq_some_iff.1 x9).1; have HK0 := Lib.hid (HK2.out.to HB0.out.size (same_below HB0.out)); have e0 : 0 + (b.map (Value.int .i64)).length = b.length := (by simp); have e1 : (b.map (Value.int .i64)).length = b.length := List.length_map _; clear x9 hown0 hgrow0)
      | (refine step_append_all (W2.drew.alloc (.cells #[.slice none 0 0, .int .i64 0, .int .i64 0, .bool false, .bool false, .int .i64 0, .int .i64 0, .int .i64 0, .slice none 0 0, .slice none 0 0, .int .i64 0, .int .i64 0] 24 (0, 0))) rfl (.const (.slice none 0 0)) (.tmp 21) 22 rfl W2.heap.size 3 (.int .i64 0) 8 Try.underlying22 info_int rfl (.slice none 0 0) 0 [] rfl (World.ownsRow_nil _ _ _ _) (.slice ba b.length bc) 17592186043904 W2.heap.size (b.map (Value.int .i64)) rfl (HBVD.out _ (HDZ.out _)) (ints_one b) (by simp; unfold maxLen; omega) (by simp; omega) (HLZ.out _) ?_; intro a0 c0 w0 hown0 hgrow0; have HB0 : Hid (Below W2.heap.size W2 w0) := Lib.hid ((HDZ.out _).grown hgrow0 (HLZ.out _) (fun k hk => by simp [Value.ownBlock] at hk)); have HZ0 : Hid (w0.heap[W2.heap.size]? = some (.cells #[.slice none 0 0, .int .i64 0, .int .i64 0, .bool false, .bool false, .int .i64 0, .int .i64 0, .int .i64 0, .slice none 0 0, .slice none 0 0, .int .i64 0, .int .i64 0] 24 (0, 0))) := Lib.hid (block_grown hgrow0 (alloc_at rfl) (by simp [Value.ownBlock])); have HI0 : Hid (Ints w0.heap.size w0 (.slice a0 b.length c0) b) := Lib.hid (ints_of_owns (by have h := hown0; rw [List.nil_append, List.length_map, Nat.zero_add] at h; exact h) hlen HBB.out.i64); have x9 := block_below HB0.out HX9.out l9; have z0 : w0.cell? ⟨g9, 0, none⟩ = some (.slice br m.regs.length dr) := cell_block x9 0; have z1 : w0.cell? ⟨g9, 1, none⟩ = some (.int .i64 m.pc) := cell_block x9 1; have z2 : w0.cell? ⟨g9, 2, none⟩ = some (.int .i64 m.back) := cell_block x9 2; have z3 : w0.cell? ⟨g9, 3, none⟩ = some (.bool m.ints) := cell_block x9 3; have z4 : w0.cell? ⟨g9, 4, none⟩ = some (.bool m.wait) := cell_block x9 4; have z5 : w0.cell? ⟨g9, 5, none⟩ = some (.int .i64 m.table) := cell_block x9 5; have z6 : w0.cell? ⟨g9, 6, none⟩ = some (.int .i64 m.count) := cell_block x9 6; have z7 : w0.cell? ⟨g9, 7, none⟩ = some (.int .i64 m.fin) := cell_block x9 7; have z8 : w0.cell? ⟨g9, 8, none⟩ = some (.slice bm m.mem.length dm) := cell_block x9 8; have z9 : w0.cell? ⟨g9, 9, none⟩ = some (.slice bo m.out.length d0) := cell_block x9 9; have z10 : w0.cell? ⟨g9, 10, none⟩ = some (.int .i64 m.ready) := cell_block x9 10; have z11 : w0.cell? ⟨g9, 11, none⟩ = some (.int .i64 m.want) := cell_block x9 11; have l90 := (Array.getElem?_eq_some_iff.1 x9).1; have HK0 := Lib.hid (HK2.out.to HB0.out.size (same_below HB0.out)); have e0 : 0 + (b.map (Value.int .i64)).length = b.length := (by simp); have e1 : (b.map (Value.int .i64)).length = b.length := List.length_map _; clear x9 hown0 hgrow0)
      | (go_simp; go_at_call 5; refine (step_any _ _ m irq b value w0 HK0.out HI0.out HV.out).mono ?_; rintro e w3 ⟨m1, wr, c, r1, s1, e1, f1, o1, q1, hst, he, hown, hb3⟩; have HXZ : Hid (w3.heap[W2.heap.size]? = some (.cells #[.slice none 0 0, .int .i64 0, .int .i64 0, .bool false, .bool false, .int .i64 0, .int .i64 0, .int .i64 0, .slice none 0 0, .slice none 0 0, .int .i64 0, .int .i64 0] 24 (0, 0))) := Lib.hid (block_below hb3 HZ0.out (Array.getElem?_eq_some_iff.1 HZ0.out).1); have zr0 : w3.cell? ⟨W2.heap.size, 0, none⟩ = some (.slice none 0 0) := cell_block HXZ.out 0; have zg0 := free_block HXZ.out 0; have zr1 : w3.cell? ⟨W2.heap.size, 1, none⟩ = some (.int .i64 0) := cell_block HXZ.out 1; have zg1 := free_block HXZ.out 1; have zr2 : w3.cell? ⟨W2.heap.size, 2, none⟩ = some (.int .i64 0) := cell_block HXZ.out 2; have zg2 := free_block HXZ.out 2; have zr3 : w3.cell? ⟨W2.heap.size, 3, none⟩ = some (.bool false) := cell_block HXZ.out 3; have zg3 := free_block HXZ.out 3; have zr4 : w3.cell? ⟨W2.heap.size, 4, none⟩ = some (.bool false) := cell_block HXZ.out 4; have zg4 := free_block HXZ.out 4; have zr5 : w3.cell? ⟨W2.heap.size, 5, none⟩ = some (.int .i64 0) := cell_block HXZ.out 5; have zg5 := free_block HXZ.out 5; have zr6 : w3.cell? ⟨W2.heap.size, 6, none⟩ = some (.int .i64 0) := cell_block HXZ.out 6; have zg6 := free_block HXZ.out 6; have zr7 : w3.cell? ⟨W2.heap.size, 7, none⟩ = some (.int .i64 0) := cell_block HXZ.out 7; have zg7 := free_block HXZ.out 7; have zr8 : w3.cell? ⟨W2.heap.size, 8, none⟩ = some (.slice none 0 0) := cell_block HXZ.out 8; have zg8 := free_block HXZ.out 8; have zr9 : w3.cell? ⟨W2.heap.size, 9, none⟩ = some (.slice none 0 0) := cell_block HXZ.out 9; have zg9 := free_block HXZ.out 9; have zr10 : w3.cell? ⟨W2.heap.size, 10, none⟩ = some (.int .i64 0) := cell_block HXZ.out 10; have zg10 := free_block HXZ.out 10; have zr11 : w3.cell? ⟨W2.heap.size, 11, none⟩ = some (.int .i64 0) := cell_block HXZ.out 11; have zg11 := free_block HXZ.out 11; have lz := (Array.getElem?_eq_some_iff.1 HXZ.out).1; rw [Mach.agg] at he; subst he; have HST := Lib.hid hst; have HIL : Hid (IL m1) := Lib.hid (stepR_ok hst); have HOW : Hid (MachOwn W2.heap.size w3 m1 (.slice r1 m1.regs.length s1) (.slice e1 m1.mem.length f1) (.slice o1 m1.out.length q1)) := Lib.hid (mach_own hown (Below.refl _ _) HB0.out.size); have HB3 : Hid (Below W2.heap.size W2 w3) := Lib.hid (HB0.out.trans (hb3.mono HB0.out.size)); clear hown hst hb3)
      | (go_simp; go_at_call 5; refine (step_any _ _ m irq b value (w0.alloc (.cells #[.slice none 0 0, .int .i64 0, .int .i64 0, .bool false, .bool false, .int .i64 0, .int .i64 0, .int .i64 0, .slice none 0 0, .slice none 0 0, .int .i64 0, .int .i64 0] 24 (0, 0))) (HK0.out.to (by simp) (same_alloc _ _)) (HI0.out.to (by simp) (same_alloc _ _)) HV.out).mono ?_; rintro e w3 ⟨m1, wr, c, r1, s1, e1, f1, o1, q1, hst, he, hown, hb3⟩; have HXZ : Hid (w3.heap[w0.heap.size]? = some (.cells #[.slice none 0 0, .int .i64 0, .int .i64 0, .bool false, .bool false, .int .i64 0, .int .i64 0, .int .i64 0, .slice none 0 0, .slice none 0 0, .int .i64 0, .int .i64 0] 24 (0, 0))) := Lib.hid (block_below hb3 (alloc_at (w := w0) rfl) (by simp)); have zr0 : w3.cell? ⟨w0.heap.size, 0, none⟩ = some (.slice none 0 0) := cell_block HXZ.out 0; have zg0 := free_block HXZ.out 0; have zr1 : w3.cell? ⟨w0.heap.size, 1, none⟩ = some (.int .i64 0) := cell_block HXZ.out 1; have zg1 := free_block HXZ.out 1; have zr2 : w3.cell? ⟨w0.heap.size, 2, none⟩ = some (.int .i64 0) := cell_block HXZ.out 2; have zg2 := free_block HXZ.out 2; have zr3 : w3.cell? ⟨w0.heap.size, 3, none⟩ = some (.bool false) := cell_block HXZ.out 3; have zg3 := free_block HXZ.out 3; have zr4 : w3.cell? ⟨w0.heap.size, 4, none⟩ = some (.bool false) := cell_block HXZ.out 4; have zg4 := free_block HXZ.out 4; have zr5 : w3.cell? ⟨w0.heap.size, 5, none⟩ = some (.int .i64 0) := cell_block HXZ.out 5; have zg5 := free_block HXZ.out 5; have zr6 : w3.cell? ⟨w0.heap.size, 6, none⟩ = some (.int .i64 0) := cell_block HXZ.out 6; have zg6 := free_block HXZ.out 6; have zr7 : w3.cell? ⟨w0.heap.size, 7, none⟩ = some (.int .i64 0) := cell_block HXZ.out 7; have zg7 := free_block HXZ.out 7; have zr8 : w3.cell? ⟨w0.heap.size, 8, none⟩ = some (.slice none 0 0) := cell_block HXZ.out 8; have zg8 := free_block HXZ.out 8; have zr9 : w3.cell? ⟨w0.heap.size, 9, none⟩ = some (.slice none 0 0) := cell_block HXZ.out 9; have zg9 := free_block HXZ.out 9; have zr10 : w3.cell? ⟨w0.heap.size, 10, none⟩ = some (.int .i64 0) := cell_block HXZ.out 10; have zg10 := free_block HXZ.out 10; have zr11 : w3.cell? ⟨w0.heap.size, 11, none⟩ = some (.int .i64 0) := cell_block HXZ.out 11; have zg11 := free_block HXZ.out 11; have lz := (Array.getElem?_eq_some_iff.1 HXZ.out).1; rw [Mach.agg] at he; subst he; have HST := Lib.hid hst; have HIL : Hid (IL m1) := Lib.hid (stepR_ok hst); have HOW : Hid (MachOwn W2.heap.size w3 m1 (.slice r1 m1.regs.length s1) (.slice e1 m1.mem.length f1) (.slice o1 m1.out.length q1)) := Lib.hid (mach_own hown (Below.refl _ _) (Nat.le_trans HB0.out.size (by simp))); have HB3 : Hid (Below W2.heap.size W2 w3) := Lib.hid ((HB0.out.alloc HB0.out.size _).trans (hb3.mono (Nat.le_trans HB0.out.size (by simp)))); clear hown hst hb3)
      | (go_simp; go_at_call 5; refine (step_any _ _ m irq b value w0 HK0.out HI0.out HV.out).mono ?_; rintro e w3 ⟨m1, wr, c, r1, s1, e1, f1, o1, q1, hst, he, hown, hb3⟩; skip; rw [Mach.agg] at he; subst he; have HST := Lib.hid hst; have HIL : Hid (IL m1) := Lib.hid (stepR_ok hst); have HOW : Hid (MachOwn W2.heap.size w3 m1 (.slice r1 m1.regs.length s1) (.slice e1 m1.mem.length f1) (.slice o1 m1.out.length q1)) := Lib.hid (mach_own hown (Below.refl _ _) HB0.out.size); have HB3 : Hid (Below W2.heap.size W2 w3) := Lib.hid (HB0.out.trans (hb3.mono HB0.out.size)); clear hown hst hb3))
    all_goals (go_wp2_with fail; go_meet)
    all_goals (case rel => first | (have hx := HXZ.out; first | with_reducible exact rel_set HST HOW HB3 HB0.out.size HXZ | with_reducible exact rel_set HST HOW HB3 (Nat.le_refl _) HXZ) | with_reducible exact rel_new HST HOW HB3)
  case rest =>
  unfold CsRel at hcut
  obtain ⟨gb, m1, wr, c, r1, e1, o1, s1, f1, q1, rfl, rfl, rfl, HST, HXB, HSI⟩ := hcut
  have HM1 := Lib.hid (il_reads (stepR_ok HST.out) HSI.out.own)
  have HBC := Lib.hid HSI.out.below
  clear p0 p1 p2 p3 p4 p5 p6 p7 p8 p9 p10 p11
  have HBT := Lib.hid (HBW.out.trans (HBC.out.mono HBW.out.size))
  have x4 := block_below HBC.out HX42.out (Array.getElem?_eq_some_iff.1 HX42.out).1
  have x9 := block_below HBC.out HX9.out l9
  have p0 : wc.cell? ⟨W.heap.size, 0, none⟩ = some (.slice ar m.regs.length cr) := cell_block x4 0
  have p1 : wc.cell? ⟨W.heap.size, 1, none⟩ = some (.int .i64 m.pc) := cell_block x4 1
  have p2 : wc.cell? ⟨W.heap.size, 2, none⟩ = some (.int .i64 m.back) := cell_block x4 2
  have p3 : wc.cell? ⟨W.heap.size, 3, none⟩ = some (.bool m.ints) := cell_block x4 3
  have p4 : wc.cell? ⟨W.heap.size, 4, none⟩ = some (.bool m.wait) := cell_block x4 4
  have p5 : wc.cell? ⟨W.heap.size, 5, none⟩ = some (.int .i64 m.table) := cell_block x4 5
  have p6 : wc.cell? ⟨W.heap.size, 6, none⟩ = some (.int .i64 m.count) := cell_block x4 6
  have p7 : wc.cell? ⟨W.heap.size, 7, none⟩ = some (.int .i64 m.fin) := cell_block x4 7
  have p8 : wc.cell? ⟨W.heap.size, 8, none⟩ = some (.slice am m.mem.length cm) := cell_block x4 8
  have p9 : wc.cell? ⟨W.heap.size, 9, none⟩ = some (.slice ao m.out.length co) := cell_block x4 9
  have p10 : wc.cell? ⟨W.heap.size, 10, none⟩ = some (.int .i64 m.ready) := cell_block x4 10
  have p11 : wc.cell? ⟨W.heap.size, 11, none⟩ = some (.int .i64 m.want) := cell_block x4 11
  have l4c := (Array.getElem?_eq_some_iff.1 x4).1
  have HX4 := Lib.hid x4
  have HX9c := Lib.hid x9
  clear x4 x9 l9
  have HMA := Lib.hid (show MachR wc.heap.size wc (.agg #[.slice ar m.regs.length cr, .int .i64 m.pc, .int .i64 m.back, .bool m.ints, .bool m.wait, .int .i64 m.table, .int .i64 m.count, .int .i64 m.fin, .slice am m.mem.length cm, .slice ao m.out.length co, .int .i64 m.ready, .int .i64 m.want]) m from ⟨ar, cr, am, cm, ao, co, rfl, HR.out.to HBT.out.size (same_below HBT.out), HM.out.to HBT.out.size (same_below HBT.out), HO.out.to HBT.out.size (same_below HBT.out)⟩)
  have HSO := Lib.hid (sof_any (.agg #[.slice ar m.regs.length cr, .int .i64 m.pc, .int .i64 m.back, .bool m.ints, .bool m.wait, .int .i64 m.table, .int .i64 m.count, .int .i64 m.fin, .slice am m.mem.length cm, .slice ao m.out.length co, .int .i64 m.ready, .int .i64 m.want]) (.slice ba b.length bc) m irq b value wc HMA.out (HBB.out.to HBT.out.size (same_below HBT.out)) HV.out)
  go_upto_region 4 with (go_at_call 6; (with_reducible refine HSO.out.mono ?_); rintro e w4 ⟨m2, wr2, c2, r2, s2, e2, f2, o2, q2, hst, he, hown, hb4⟩; rw [Mach.agg] at he; subst he; obtain ⟨hm12, hw12, hc12⟩ := HST.out.det hst; subst hm12 hw12 hc12; obtain ⟨i1, i2, i3, l1, l2, l3⟩ := stepR_ok hst; have HOW := Lib.hid (by have h := hown.reads i1 i2 i3 (by omega) (by omega) (by omega); rw [Mach.agg] at h; exact h); have HB4 := Lib.hid hb4; clear hown hst i1 i2 i3 l1 l2 l3 hb4)
  have HW5 : Hid (Below wc.heap.size wc (w4.alloc (.cells #[.slice r2 m1.regs.length s2, .int .i64 m1.pc, .int .i64 m1.back, .bool m1.ints, .bool m1.wait, .int .i64 m1.table, .int .i64 m1.count, .int .i64 m1.fin, .slice e2 m1.mem.length f2, .slice o2 m1.out.length q2, .int .i64 m1.ready, .int .i64 m1.want] 24 (0, 0)))) := Lib.hid (HB4.out.alloc HB4.out.size _)
  have HX13 : Hid ((w4.alloc (.cells #[.slice r2 m1.regs.length s2, .int .i64 m1.pc, .int .i64 m1.back, .bool m1.ints, .bool m1.wait, .int .i64 m1.table, .int .i64 m1.count, .int .i64 m1.fin, .slice e2 m1.mem.length f2, .slice o2 m1.out.length q2, .int .i64 m1.ready, .int .i64 m1.want] 24 (0, 0))).heap[w4.heap.size]? = some (.cells #[.slice r2 m1.regs.length s2, .int .i64 m1.pc, .int .i64 m1.back, .bool m1.ints, .bool m1.wait, .int .i64 m1.table, .int .i64 m1.count, .int .i64 m1.fin, .slice e2 m1.mem.length f2, .slice o2 m1.out.length q2, .int .i64 m1.ready, .int .i64 m1.want] 24 (0, 0))) := Lib.hid (alloc_at rfl)
  have HM2 : Hid (MachR (w4.alloc (.cells #[.slice r2 m1.regs.length s2, .int .i64 m1.pc, .int .i64 m1.back, .bool m1.ints, .bool m1.wait, .int .i64 m1.table, .int .i64 m1.count, .int .i64 m1.fin, .slice e2 m1.mem.length f2, .slice o2 m1.out.length q2, .int .i64 m1.ready, .int .i64 m1.want] 24 (0, 0))).heap.size (w4.alloc (.cells #[.slice r2 m1.regs.length s2, .int .i64 m1.pc, .int .i64 m1.back, .bool m1.ints, .bool m1.wait, .int .i64 m1.table, .int .i64 m1.count, .int .i64 m1.fin, .slice e2 m1.mem.length f2, .slice o2 m1.out.length q2, .int .i64 m1.ready, .int .i64 m1.want] 24 (0, 0))) (.agg #[.slice r2 m1.regs.length s2, .int .i64 m1.pc, .int .i64 m1.back, .bool m1.ints, .bool m1.wait, .int .i64 m1.table, .int .i64 m1.count, .int .i64 m1.fin, .slice e2 m1.mem.length f2, .slice o2 m1.out.length q2, .int .i64 m1.ready, .int .i64 m1.want]) m1) := Lib.hid (HOW.out.to (by simp) (same_alloc _ _))
  generalize hWW : World.alloc w4 _ = w5 at *
  generalize hg13 : w4.heap.size = gd at *
  clear hWW hg13 p0 p1 p2 p3 p4 p5 p6 p7 p8 p9 p10 p11 HOW HB4
  have x4 := block_below HW5.out HX4.out l4c
  have x9 := block_below HW5.out HX9c.out (Array.getElem?_eq_some_iff.1 HX9c.out).1
  have xb := block_below HW5.out HXB.out (Array.getElem?_eq_some_iff.1 HXB.out).1
  have HS1 := Lib.hid (sameMachine_yes (.agg #[.slice r1 m1.regs.length s1, .int .i64 m1.pc, .int .i64 m1.back, .bool m1.ints, .bool m1.wait, .int .i64 m1.table, .int .i64 m1.count, .int .i64 m1.fin, .slice e1 m1.mem.length f1, .slice o1 m1.out.length q1, .int .i64 m1.ready, .int .i64 m1.want]) (.agg #[.slice r2 m1.regs.length s2, .int .i64 m1.pc, .int .i64 m1.back, .bool m1.ints, .bool m1.wait, .int .i64 m1.table, .int .i64 m1.count, .int .i64 m1.fin, .slice e2 m1.mem.length f2, .slice o2 m1.out.length q2, .int .i64 m1.ready, .int .i64 m1.want]) m1 w5 (HM1.out.to HW5.out.size (same_below HW5.out)) HM2.out)
  have p0 : w5.cell? ⟨gb, 0, none⟩ = some (.slice r1 m1.regs.length s1) := cell_block xb 0
  have p1 : w5.cell? ⟨gb, 1, none⟩ = some (.int .i64 m1.pc) := cell_block xb 1
  have p2 : w5.cell? ⟨gb, 2, none⟩ = some (.int .i64 m1.back) := cell_block xb 2
  have p3 : w5.cell? ⟨gb, 3, none⟩ = some (.bool m1.ints) := cell_block xb 3
  have p4 : w5.cell? ⟨gb, 4, none⟩ = some (.bool m1.wait) := cell_block xb 4
  have p5 : w5.cell? ⟨gb, 5, none⟩ = some (.int .i64 m1.table) := cell_block xb 5
  have p6 : w5.cell? ⟨gb, 6, none⟩ = some (.int .i64 m1.count) := cell_block xb 6
  have p7 : w5.cell? ⟨gb, 7, none⟩ = some (.int .i64 m1.fin) := cell_block xb 7
  have p8 : w5.cell? ⟨gb, 8, none⟩ = some (.slice e1 m1.mem.length f1) := cell_block xb 8
  have p9 : w5.cell? ⟨gb, 9, none⟩ = some (.slice o1 m1.out.length q1) := cell_block xb 9
  have p10 : w5.cell? ⟨gb, 10, none⟩ = some (.int .i64 m1.ready) := cell_block xb 10
  have p11 : w5.cell? ⟨gb, 11, none⟩ = some (.int .i64 m1.want) := cell_block xb 11
  have z0 : w5.cell? ⟨gd, 0, none⟩ = some (.slice r2 m1.regs.length s2) := cell_block HX13.out 0
  have z1 : w5.cell? ⟨gd, 1, none⟩ = some (.int .i64 m1.pc) := cell_block HX13.out 1
  have z2 : w5.cell? ⟨gd, 2, none⟩ = some (.int .i64 m1.back) := cell_block HX13.out 2
  have z3 : w5.cell? ⟨gd, 3, none⟩ = some (.bool m1.ints) := cell_block HX13.out 3
  have z4 : w5.cell? ⟨gd, 4, none⟩ = some (.bool m1.wait) := cell_block HX13.out 4
  have z5 : w5.cell? ⟨gd, 5, none⟩ = some (.int .i64 m1.table) := cell_block HX13.out 5
  have z6 : w5.cell? ⟨gd, 6, none⟩ = some (.int .i64 m1.count) := cell_block HX13.out 6
  have z7 : w5.cell? ⟨gd, 7, none⟩ = some (.int .i64 m1.fin) := cell_block HX13.out 7
  have z8 : w5.cell? ⟨gd, 8, none⟩ = some (.slice e2 m1.mem.length f2) := cell_block HX13.out 8
  have z9 : w5.cell? ⟨gd, 9, none⟩ = some (.slice o2 m1.out.length q2) := cell_block HX13.out 9
  have z10 : w5.cell? ⟨gd, 10, none⟩ = some (.int .i64 m1.ready) := cell_block HX13.out 10
  have z11 : w5.cell? ⟨gd, 11, none⟩ = some (.int .i64 m1.want) := cell_block HX13.out 11
  have HX4 := Lib.hid x4
  have HX9 := Lib.hid x9
  clear x4 x9 xb
  go_wp2_with fail
  (with_reducible refine HS1.out.mono ?_)
  rintro e w6 ⟨rfl, hb6⟩
  clear p0 p1 p2 p3 p4 p5 p6 p7 p8 p9 p10 p11 z0 z1 z2 z3 z4 z5 z6 z7 z8 z9 z10 z11
  have x4 := block_below hb6 HX4.out (Array.getElem?_eq_some_iff.1 HX4.out).1
  have x9 := block_below hb6 HX9.out (Array.getElem?_eq_some_iff.1 HX9.out).1
  have HB6 := Lib.hid hb6
  clear hb6
  have HBF := Lib.hid (HBT.out.trans ((HW5.out.trans (HB6.out.mono HW5.out.size)).mono HBT.out.size))
  have HBK := Lib.hid (HBC.out.trans ((HW5.out.trans (HB6.out.mono HW5.out.size)).mono HBC.out.size))
  have HS2 := Lib.hid (sameMachine_yes (.agg #[.slice br m.regs.length dr, .int .i64 m.pc, .int .i64 m.back, .bool m.ints, .bool m.wait, .int .i64 m.table, .int .i64 m.count, .int .i64 m.fin, .slice bm m.mem.length dm, .slice bo m.out.length d0, .int .i64 m.ready, .int .i64 m.want]) (.agg #[.slice ar m.regs.length cr, .int .i64 m.pc, .int .i64 m.back, .bool m.ints, .bool m.wait, .int .i64 m.table, .int .i64 m.count, .int .i64 m.fin, .slice am m.mem.length cm, .slice ao m.out.length co, .int .i64 m.ready, .int .i64 m.want]) m w6 (HK2.out.to HBK.out.size (same_below HBK.out)) ⟨ar, cr, am, cm, ao, co, rfl, HR.out.to HBF.out.size (same_below HBF.out), HM.out.to HBF.out.size (same_below HBF.out), HO.out.to HBF.out.size (same_below HBF.out)⟩)
  have p0 : w6.cell? ⟨g9, 0, none⟩ = some (.slice br m.regs.length dr) := cell_block x9 0
  have p1 : w6.cell? ⟨g9, 1, none⟩ = some (.int .i64 m.pc) := cell_block x9 1
  have p2 : w6.cell? ⟨g9, 2, none⟩ = some (.int .i64 m.back) := cell_block x9 2
  have p3 : w6.cell? ⟨g9, 3, none⟩ = some (.bool m.ints) := cell_block x9 3
  have p4 : w6.cell? ⟨g9, 4, none⟩ = some (.bool m.wait) := cell_block x9 4
  have p5 : w6.cell? ⟨g9, 5, none⟩ = some (.int .i64 m.table) := cell_block x9 5
  have p6 : w6.cell? ⟨g9, 6, none⟩ = some (.int .i64 m.count) := cell_block x9 6
  have p7 : w6.cell? ⟨g9, 7, none⟩ = some (.int .i64 m.fin) := cell_block x9 7
  have p8 : w6.cell? ⟨g9, 8, none⟩ = some (.slice bm m.mem.length dm) := cell_block x9 8
  have p9 : w6.cell? ⟨g9, 9, none⟩ = some (.slice bo m.out.length d0) := cell_block x9 9
  have p10 : w6.cell? ⟨g9, 10, none⟩ = some (.int .i64 m.ready) := cell_block x9 10
  have p11 : w6.cell? ⟨g9, 11, none⟩ = some (.int .i64 m.want) := cell_block x9 11
  have z0 : w6.cell? ⟨W.heap.size, 0, none⟩ = some (.slice ar m.regs.length cr) := cell_block x4 0
  have z1 : w6.cell? ⟨W.heap.size, 1, none⟩ = some (.int .i64 m.pc) := cell_block x4 1
  have z2 : w6.cell? ⟨W.heap.size, 2, none⟩ = some (.int .i64 m.back) := cell_block x4 2
  have z3 : w6.cell? ⟨W.heap.size, 3, none⟩ = some (.bool m.ints) := cell_block x4 3
  have z4 : w6.cell? ⟨W.heap.size, 4, none⟩ = some (.bool m.wait) := cell_block x4 4
  have z5 : w6.cell? ⟨W.heap.size, 5, none⟩ = some (.int .i64 m.table) := cell_block x4 5
  have z6 : w6.cell? ⟨W.heap.size, 6, none⟩ = some (.int .i64 m.count) := cell_block x4 6
  have z7 : w6.cell? ⟨W.heap.size, 7, none⟩ = some (.int .i64 m.fin) := cell_block x4 7
  have z8 : w6.cell? ⟨W.heap.size, 8, none⟩ = some (.slice am m.mem.length cm) := cell_block x4 8
  have z9 : w6.cell? ⟨W.heap.size, 9, none⟩ = some (.slice ao m.out.length co) := cell_block x4 9
  have z10 : w6.cell? ⟨W.heap.size, 10, none⟩ = some (.int .i64 m.ready) := cell_block x4 10
  have z11 : w6.cell? ⟨W.heap.size, 11, none⟩ = some (.int .i64 m.want) := cell_block x4 11
  clear x4 x9
  go_wp2_with fail
  (with_reducible refine HS2.out.mono ?_)
  rintro e w7 ⟨rfl, hb7⟩
  go_wp2
  go_ret
  exact ⟨ret_bool (by simp), HBF.out.trans (hb7.mono HBF.out.size)⟩

theorem walk (W : World) (v : Value) (m : Mach) (hm : MachR W.heap.size W v m ∧ I64 m.pc ∧ I64 m.back ∧ I64 m.table ∧ I64 m.count ∧ I64 m.fin ∧ I64 m.ready ∧ I64 m.want) (irq : Bool) (vb : Value) (b : List Int) (hb : Ints W.heap.size W vb b) (value : Int) (hv : -9223372036854775808 ≤ value ∧ value ≤ 9223372036854775807) : Calls Try.prog 3 #[v, .bool irq, vb, .int .i64 value] W fun e W' => e = .returned (.bool true) ∧ Below W.heap.size W W' := by
  obtain ⟨ar, cr, am, cm, ao, co, rfl, h1, h2, h3⟩ := hm.1
  obtain ⟨ba, bc, rfl, _⟩ := id hb
  exact walk1 W m ar am ao cr cm co irq ba b bc value h1 h2 h3 hb hv

set_option maxRecDepth 100000 in
theorem lifted (os : Os) (started : os.Started) (H : Type) (enc : TypeId × Value → H) :
    ReturnsInHanded {} Try.checked os 3 .any (Rows.cpuStepsSpec.pre6 enc Try.prog Try.f3 Rows.cpuStepsRow.domain false) (Rows.cpuStepsSpec.post enc Try.prog Try.f3 false true false false) := by
  refine returnsInHanded_of_change_sized (C := Try.checked) Facts.own started (by kernel_rfl) Try.func3
    (ChangeSpec.witness6 (enc := enc) (C := Try.checked) false ⟨#[], #[.agg #[.slice none 0 0, .int .i64 0, .int .i64 0, .bool false, .bool false, .int .i64 0, .int .i64 0, .int .i64 0, .slice none 0 0, .slice none 0 0, .int .i64 0, .int .i64 0], .bool false, .slice none 0 0, .int .i64 0], []⟩ 8 (by kernel_rfl) (by kernel_rfl) (by kernel_rfl) (by kernel_rfl)) ?_
  intro W base args ds gs before hval0 hW hcnd hsz0 _
  have hsz : (DataW.weightsEach Try.prog (Try.f3.params.toList ++ Rows.cpuStepsSpec.plain.varTypes Try.prog) (ds ++ gs)).all (· ≤ reachBytes) = true := hsz0
  have hval : ∀ (j : Nat) t v, Try.f3.params[j]? = some t → args[j]? = some v → Value.okWide Try.prog W .any base t v := hval0
  have hW' := hW
  obtain ⟨p, q, hA0, hV, rfl, hfz, hnd⟩ := hW
  have hA : DataW.TrodAll enc Try.prog W 0 (fun _ => true) true Try.f3.params.toList args.toList ds p := hA0
  rw [Try.params3] at hA hval hsz
  obtain ⟨v0, vs0, d0, ds0, p0, q0, hargs, rfl, rfl, h0, r0⟩ := trodAll_cons hA
  obtain ⟨v1, vs1, d1, ds1, p1, q1, rfl, rfl, rfl, h1, r1⟩ := trodAll_cons r0
  obtain ⟨v2, vs2, d2, ds2, p2, q2, rfl, rfl, rfl, h2, r2⟩ := trodAll_cons r1
  obtain ⟨v3, vs3, d3, ds3, p3, q3, rfl, rfl, rfl, h3, r3⟩ := trodAll_cons r2
  obtain ⟨rfl, rfl, rfl⟩ := trodAll_nil r3
  obtain rfl : args = #[v0, v1, v2, v3] := by cases args; simp_all
  obtain ⟨rfl, rfl⟩ := trodVars_none hV
  have k0 := h0
  have lt0 : ∀ x ∈ p0, x.block < W.heap.size := by obtain ⟨m, hm⟩ := k0; exact DataW.trod_lt m _ _ _ hm
  obtain ⟨x0_0, w0⟩ := open_machR (hval 0 24 v0 rfl rfl) h0 (fits_at hsz (j := 0) rfl rfl)
  have k1 := h1
  have lt1 : ∀ x ∈ p1, x.block < W.heap.size := by obtain ⟨m, hm⟩ := k1; exact DataW.trod_lt m _ _ _ hm
  obtain ⟨a1, rfl, rfl, rfl⟩ := open_bool Try.underlying4 (hval 1 4 v1 rfl rfl) h1
  have k2 := h2
  have lt2 : ∀ x ∈ p2, x.block < W.heap.size := by obtain ⟨m, hm⟩ := k2; exact DataW.trod_lt m _ _ _ hm
  obtain ⟨x2_0, w2⟩ := open_intsA (hval 2 22 v2 rfl rfl) h2 (fits_at hsz (j := 2) rfl rfl)
  have k3 := h3
  have lt3 : ∀ x ∈ p3, x.block < W.heap.size := by obtain ⟨m, hm⟩ := k3; exact DataW.trod_lt m _ _ _ hm
  obtain ⟨a3, rfl, rfl, rfl, w3⟩ := open_int Try.underlying3 (hval 3 3 v3 rfl rfl) h3
  clear hA0 hval0
  refine (walk W v0 x0_0 w0 a1 v2 x2_0 w2 a3 (Go.bounds_i64 w3)).mono fun e W' ⟨he, bel⟩ => ?_
  subst he
  exact ⟨_, rfl, _, _, _, [], _, [], hW', trodAll_mk1 (shut_bool Try.underlying4 _), (trodAll_cons_mk (Below.trod Facts.laidOut (by kernel_rfl) (of_decide_eq_true (by kernel_rfl)) k0 bel lt0) (trodAll_cons_mk (Below.trod Facts.laidOut (by kernel_rfl) (of_decide_eq_true (by kernel_rfl)) k1 bel lt1) (trodAll_cons_mk (Below.trod Facts.laidOut (by kernel_rfl) (of_decide_eq_true (by kernel_rfl)) k2 bel lt2) (trodAll_cons_mk (Below.trod Facts.laidOut (by kernel_rfl) (of_decide_eq_true (by kernel_rfl)) k3 bel lt3) trodAll_mk0)))), rfl, bel.frame _, fun h => by cases h⟩

theorem closed : joinedFacts Try.prog 3 Try.f3 Rows.cpuStepsSpec Rows.cpuStepsRow = true := by
  unfold joinedFacts
  rw [Facts.enters, Facts.lifts, Facts.made]
  kernel_rfl

theorem over : Rows.cpuStepsRow.holds Try.pinned (OpenSpec.ofChange Rows.cpuStepsSpec) :=
  OpenClaim.holds_of_wide 3 Try.f3 rfl rfl rfl rfl rfl rfl rfl ⟨rfl, rfl, rfl, rfl, rfl⟩ rfl rfl rfl rfl rfl (by kernel_rfl) Try.func3 closed
    (of_decide_eq_true (by kernel_rfl)) (by unfold Func.isWrapper; first | (rw [if_pos (by decide +kernel)]; kernel_rfl) | (rw [if_neg (by decide +kernel)]; exact ⟨rfl, rfl⟩))
    (fun os started H enc _ => lifted os started H enc)

theorem proved : Rows.CpuStepsSaid := over
#print axioms proved
end Go.Proofs.Ytbenfbfbohecmaa.lCpuSteps
