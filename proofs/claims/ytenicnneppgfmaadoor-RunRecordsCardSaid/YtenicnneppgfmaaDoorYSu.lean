/- Several texts joined, each with its own heading in the notes: What a tape's events do to a guest, in plain Lean: as the document looks them up (onM), as a player pops them (fwdM); both agree on events that rise. A core that starts from a guest of the call's own, and a core that is handed back as a guest. run. The contract of a player's Forward, over any memory. The document's onward: a guest's next instruction by the events of a tape. The document's guest that starts from slices of the call's own, and that is handed back. No condition beyond those of each row. -/
import Derived.Test.YtenicnneppgfmaaDoorYDe
import Derived.Test.YtenicnneppgfmaaDoorYRp
import Derived.Test.YtenicnneppgfmaaDoorYOi
import Derived.Test.YtenicnneppgfmaaDoorYSz
import Derived.Test.YtenicnneppgfmaaDoorYNw
import Derived.Test.YtenicnneppgfmaaDoorYSti
import Derived.StillTailTactics
import Derived.Deep.CutBlock
import Derived.Deep.CutRange
import Derived.Deep.LoopGhost
namespace Go.Proofs.YtenicnneppgfmaaDoor
set_option linter.unusedVariables false

/-- An event that may be, by itself. -/
structure EvG (x : Ev) : Prop where
  k1 : 1 ≤ x.kind
  k3 : x.kind ≤ 3
  a0 : 0 ≤ x.at_
  a1 : x.at_ < 3000
  b16 : x.kind = 2 → x.data.length = 16
  v1 : x.kind = 3 → x.data.length = 1
  wd : ∀ z ∈ x.data, WordZ z
/-- Events that may be, in their order. -/
structure EvL (l : List Ev) : Prop where
  good : ∀ x ∈ l, EvG x
  rise : l.Pairwise fun a b => 4 * a.at_ + a.kind < 4 * b.at_ + b.kind
theorem EvL.nil : EvL [] := ⟨fun x hx => (by cases hx), List.Pairwise.nil⟩
theorem EvL.tail {x : Ev} {l : List Ev} (h : EvL (x :: l)) : EvL l := ⟨fun y hy => h.good y (List.mem_cons_of_mem _ hy), (List.pairwise_cons.1 h.rise).2⟩
theorem EvL.head {x : Ev} {l : List Ev} (h : EvL (x :: l)) : EvG x := h.good x (List.mem_cons_self ..)
theorem EvL.lt {x : Ev} {l : List Ev} (h : EvL (x :: l)) : ∀ y ∈ l, 4 * x.at_ + x.kind < 4 * y.at_ + y.kind := (List.pairwise_cons.1 h.rise).1
/-- What an event says at a count. -/
def inStep (k : Int) (a : Bool × List Int × Int) (x : Ev) : Bool × List Int × Int :=
  if x.at_ ≠ k then a else if x.kind = 1 then (true, a.2.1, a.2.2) else if x.kind = 2 then (a.1, x.data, a.2.2) else (a.1, a.2.1, x.data.headD 0)
def inA (l : List Ev) (k : Int) : Bool × List Int × Int := l.foldl (inStep k) (false, [], 0)
/-- The document's step, by the events of a tape. -/
def onM (m : Mach) (l : List Ev) (k : Int) : Mach × Int := stepM m (inA l k).1 (inA l k).2.1 (inA l k).2.2
def appM (m : Mach) (x : Ev) : Mach := if x.kind = 1 then irqM m true else if x.kind = 2 then comesM m x.data else m
/-- What a player pops. -/
def popM (k : Int) : List Ev → Mach → Int → Mach × Int × List Ev
  | [], m, v => (m, v, [])
  | x :: l, m, v => if x.at_ = k then (if x.kind = 3 then popM k l m (x.data.headD 0) else popM k l (appM m x) v) else (m, v, x :: l)
def fwdM (m : Mach) (L : List Ev) : (Mach × Int) × List Ev := (execM (enterM (popM m.count L m 0).1) (popM m.count L m 0).2.1, (popM m.count L m 0).2.2)

theorem fold_none {k : Int} {l : List Ev} (h : ∀ x ∈ l, x.at_ ≠ k) (a : Bool × List Int × Int) : l.foldl (inStep k) a = a := by
  induction l generalizing a with
  | nil => rfl
  | cons x l ih =>
    rw [List.foldl_cons, show inStep k a x = a by unfold inStep; rw [if_pos (h x (List.mem_cons_self ..))]]
    exact ih (fun y hy => h y (List.mem_cons_of_mem _ hy)) a
theorem blockM_nil (m : Mach) : blockM m [] = m := by unfold blockM; rfl
theorem irqM_false (m : Mach) : irqM m false = m := by unfold irqM; rw [if_neg (by simp)]
theorem pop_eq (k : Int) : ∀ (L : List Ev), EvL L → (∀ x ∈ L, k ≤ x.at_) → ∀ (m : Mach) (irq : Bool) (b : List Int) (v : Int), (b = [] ∨ ∀ x ∈ L, x.at_ = k → x.kind = 3) → ((irq = false ∧ b = []) ∨ ∀ x ∈ L, x.at_ = k → 2 ≤ x.kind) →
    popM k L (blockM (irqM m irq) b) v = (blockM (irqM m (L.foldl (inStep k) (irq, b, v)).1) (L.foldl (inStep k) (irq, b, v)).2.1, (L.foldl (inStep k) (irq, b, v)).2.2, (popM k L (blockM (irqM m irq) b) v).2.2) ∧ ∃ pre, L = pre ++ (popM k L (blockM (irqM m irq) b) v).2.2 ∧ (∀ x ∈ pre, x.at_ = k) ∧ ∀ x ∈ (popM k L (blockM (irqM m irq) b) v).2.2, k + 1 ≤ x.at_ := by
  intro L
  induction L with
  | nil => intro _ _ m irq b v _ _; exact ⟨rfl, [], rfl, fun x hx => (by cases hx), fun x hx => (by cases hx)⟩
  | cons x l ih =>
    intro hs hk m irq b v hb hi
    have hg := hs.head
    have hlt := hs.lt
    have hkx := hk x (List.mem_cons_self ..)
    by_cases hx : x.at_ = k
    · have hst : ∀ (a' : Bool × List Int × Int), inStep k (irq, b, v) x = a' → (x :: l).foldl (inStep k) (irq, b, v) = l.foldl (inStep k) a' := by intro a' e; rw [List.foldl_cons, e]
      have hk' : ∀ y ∈ l, k ≤ y.at_ := fun y hy => hk y (List.mem_cons_of_mem _ hy)
      have hup : ∀ y ∈ l, y.at_ = k → x.kind < y.kind := fun y hy e => by have := hlt y hy; omega
      have h1 := hg.k1; have h3 := hg.k3
      have fin : ∀ (m' : Mach) (v' : Int) (irq' : Bool) (b' : List Int), popM k (x :: l) (blockM (irqM m irq) b) v = popM k l m' v' → m' = blockM (irqM m irq') b' → inStep k (irq, b, v) x = (irq', b', v') → (b' = [] ∨ ∀ z ∈ l, z.at_ = k → z.kind = 3) → ((irq' = false ∧ b' = []) ∨ ∀ z ∈ l, z.at_ = k → 2 ≤ z.kind) →
          popM k (x :: l) (blockM (irqM m irq) b) v = (blockM (irqM m ((x :: l).foldl (inStep k) (irq, b, v)).1) ((x :: l).foldl (inStep k) (irq, b, v)).2.1, ((x :: l).foldl (inStep k) (irq, b, v)).2.2, (popM k (x :: l) (blockM (irqM m irq) b) v).2.2) ∧ ∃ pre, x :: l = pre ++ (popM k (x :: l) (blockM (irqM m irq) b) v).2.2 ∧ (∀ z ∈ pre, z.at_ = k) ∧ ∀ z ∈ (popM k (x :: l) (blockM (irqM m irq) b) v).2.2, k + 1 ≤ z.at_ := by
        intro m' v' irq' b' e1 e2 e3 e4 e5
        rw [hst _ e3, e1, e2]
        obtain ⟨q1, pre, q2, q3, q4⟩ := ih hs.tail hk' m irq' b' v' e4 e5
        refine ⟨q1, x :: pre, by rw [List.cons_append, ← q2], ?_, q4⟩
        intro y hy
        rcases List.mem_cons.1 hy with rfl | hy
        · exact hx
        · exact q3 y hy
      rcases (show x.kind = 1 ∨ x.kind = 2 ∨ x.kind = 3 by omega) with h | h | h
      · obtain ⟨rfl, rfl⟩ : irq = false ∧ b = [] := by
          rcases hi with hi | hi
          · exact hi
          · have := hi x (List.mem_cons_self ..) hx; omega
        refine fin (irqM m true) v true [] ?_ (blockM_nil _).symm ?_ (Or.inl rfl) (Or.inr fun y hy e => by have := hup y hy e; omega)
        · rw [popM, if_pos hx, if_neg (by omega), blockM_nil, irqM_false]
          unfold appM; rw [if_pos h]
        · unfold inStep; rw [if_neg (fun e => e hx), if_pos h]
      · obtain rfl : b = [] := by
          rcases hb with hb | hb
          · exact hb
          · have := hb x (List.mem_cons_self ..) hx; omega
        refine fin (comesM (irqM m irq) x.data) v irq x.data ?_ ?_ ?_ (Or.inr fun y hy e => by have := hup y hy e; have := (hs.tail.good y hy).k3; omega) (Or.inr fun y hy e => by have := hup y hy e; omega)
        · rw [popM, if_pos hx, if_neg (by omega), blockM_nil]
          unfold appM; rw [if_neg (by omega), if_pos h]
        · unfold blockM; rw [if_neg (by have := hg.b16 h; omega)]
        · unfold inStep; rw [if_neg (fun e => e hx), if_neg (by omega), if_pos h]
      · refine fin (blockM (irqM m irq) b) (x.data.headD 0) irq b ?_ rfl ?_ (Or.inr fun y hy e => by have := hup y hy e; have := (hs.tail.good y hy).k3; omega) (Or.inr fun y hy e => by have := hup y hy e; omega)
        · rw [popM, if_pos hx, if_pos h]
        · unfold inStep; rw [if_neg (fun e => e hx), if_neg (by omega), if_neg (by omega)]
    · have hgt : k + 1 ≤ x.at_ := by omega
      have hall : ∀ y ∈ x :: l, k + 1 ≤ y.at_ := by
        intro y hy
        rcases List.mem_cons.1 hy with rfl | hy
        · exact hgt
        · have := hlt y hy; have := hg.k1; have := hg.k3; have := (hs.tail.good y hy).k1; have := (hs.tail.good y hy).k3; omega
      have e1 : popM k (x :: l) (blockM (irqM m irq) b) v = (blockM (irqM m irq) b, v, x :: l) := by rw [popM, if_neg hx]
      rw [e1, fold_none (fun y hy => by have := hall y hy; omega)]
      exact ⟨rfl, [], rfl, fun x hx => (by cases hx), hall⟩
/-- Whatever is popped, the rest is a rest. -/
theorem pop_rest (k : Int) : ∀ (L : List Ev) (m : Mach) (v : Int), ∃ pre, L = pre ++ (popM k L m v).2.2 := by
  intro L
  induction L with
  | nil => intro m v; exact ⟨[], rfl⟩
  | cons x l ih =>
    intro m v
    rw [popM]
    split
    · split
      · obtain ⟨pre, h⟩ := ih m (x.data.headD 0); exact ⟨x :: pre, by rw [List.cons_append, ← h]⟩
      · obtain ⟨pre, h⟩ := ih (appM m x) v; exact ⟨x :: pre, by rw [List.cons_append, ← h]⟩
    · exact ⟨[], rfl⟩
theorem appM_end {m : Mach} (h : m.fin ≠ 0) (x : Ev) : appM m x = m := by
  unfold appM irqM comesM
  split
  · rw [if_neg (fun e => h e.1)]
  · split
    · rw [if_pos (Or.inr h)]
    · rfl
theorem pop_end {m : Mach} (h : m.fin ≠ 0) (k : Int) : ∀ (L : List Ev) (v : Int), (popM k L m v).1 = m := by
  intro L
  induction L with
  | nil => intro v; rfl
  | cons x l ih =>
    intro v
    rw [popM]
    split
    · split
      · exact ih _
      · rw [appM_end h]; exact ih _
    · rfl
/-- Where a player stands in a tape. -/
structure Stands (l : List Ev) (m : Mach) (i : Nat) (L : List Ev) : Prop where
  pre : ∃ pre, l = pre ++ L ∧ (m.fin = 0 → m.count = i ∧ (∀ x ∈ pre, x.at_ < i) ∧ ∀ x ∈ L, (i : Int) ≤ x.at_)
theorem Stands.start {l : List Ev} (h : EvL l) {m : Mach} (hc : m.count = 0) : Stands l m 0 l := ⟨[], rfl, fun _ => ⟨hc, fun x hx => (by cases hx), fun x hx => (h.good x hx).a0⟩⟩
theorem EvL.drop {pre L : List Ev} (h : EvL (pre ++ L)) : EvL L := ⟨fun x hx => h.good x (List.mem_append_right _ hx), (List.pairwise_append.1 h.rise).2.1⟩
theorem inA_drop {pre L : List Ev} {k : Int} (h : ∀ x ∈ pre, x.at_ < k) : inA (pre ++ L) k = L.foldl (inStep k) (false, [], 0) := by
  unfold inA
  rw [List.foldl_append, fold_none (l := pre) (fun x hx => by have := h x hx; omega)]
theorem execM_count {m : Mach} (h : m.fin = 0) (v : Int) : (execM m v).1.count = m.count + 1 := by
  unfold execM
  rw [if_neg (fun e => e h)]
  split <;> rfl
theorem execM_end {m : Mach} (h : m.fin ≠ 0) (v : Int) : execM m v = (m, -1) := by unfold execM; rw [if_pos h]
theorem enterM_end {m : Mach} (h : m.fin ≠ 0) : enterM m = m := by unfold enterM; rw [if_neg (fun e => h e.2.2)]
/-- A player's step is the document's. -/
theorem Stands.step {l L : List Ev} {m : Mach} {i : Nat} (hl : EvL l) (h : Stands l m i L) : (fwdM m L).1 = onM m l i ∧ Stands l (onM m l i).1 (i + 1) (fwdM m L).2 := by
  obtain ⟨pre, rfl, hz⟩ := h.pre
  by_cases hf : m.fin = 0
  · obtain ⟨hc, hp, hL⟩ := hz hf
    have hin := inA_drop (L := L) (k := (i : Int)) hp
    obtain ⟨e1, pre2, e2, e3, e4⟩ := pop_eq (i : Int) L hl.drop hL m false [] 0 (Or.inl rfl) (Or.inl ⟨rfl, rfl⟩)
    rw [blockM_nil, irqM_false] at e1 e2 e4
    have hon : (fwdM m L).1 = onM m (pre ++ L) i := by
      unfold fwdM onM stepM
      rw [hc, e1, hin]
    refine ⟨hon, pre ++ pre2, ?_, ?_⟩
    · show pre ++ L = (pre ++ pre2) ++ (popM m.count L m 0).2.2
      rw [hc, List.append_assoc, ← e2]
    · intro _
      have hct : (onM m (pre ++ L) i).1.count = m.count + 1 := by
        unfold onM stepM
        have h1 := irqM_fin m (inA (pre ++ L) i).1
        have h2 := blockM_fin (irqM m (inA (pre ++ L) i).1) (inA (pre ++ L) i).2.1
        have h3 := enterM_fin (blockM (irqM m (inA (pre ++ L) i).1) (inA (pre ++ L) i).2.1)
        rw [execM_count (by rw [h3.1, h2.1, h1.1]; exact hf), h3.2, h2.2, h1.2]
      refine ⟨by rw [hct, hc]; rfl, ?_, ?_⟩
      · intro x hx
        rcases List.mem_append.1 hx with hx | hx
        · have := hp x hx; push_cast; omega
        · have := e3 x hx; push_cast; omega
      · show ∀ x ∈ (popM m.count L m 0).2.2, _
        rw [hc]; push_cast; exact e4
  · have hon : onM m (pre ++ L) i = (m, -1) := stepM_end hf _ _ _
    have hfw : (fwdM m L).1 = (m, -1) := by
      unfold fwdM
      rw [pop_end hf, enterM_end hf, execM_end hf]
    obtain ⟨pre2, e2⟩ := pop_rest m.count L m 0
    refine ⟨by rw [hon, hfw], pre ++ pre2, ?_, fun h0 => absurd h0 (by rw [hon]; exact hf)⟩
    show pre ++ L = (pre ++ pre2) ++ (popM m.count L m 0).2.2
    rw [List.append_assoc, ← e2]
/-- The guest of a tape at a count. -/
def runM (l : List Ev) (m : Mach) : Nat → Mach
  | 0 => m
  | i + 1 => (onM (runM l m i) l i).1
end Go.Proofs.YtenicnneppgfmaaDoor
namespace Go.Proofs.YtenicnneppgfmaaDoor
open Go Go.RowKit Go.ChangeShapes Go.WideShapes Go.Deep
set_option linter.unusedVariables false

theorem own_slice {w : World} {base : Nat} {a : Option Addr} {n c : Nat} {xs : List Value} (h : w.ownsRow base 3 1 (.slice a n c) n xs) (hn : n ≠ 0) : ∃ g, a = some ⟨g, 0, none⟩ ∧ base ≤ g := by
  rcases h.2 with ⟨-, h0⟩ | ⟨g, cap, cur, hv, hb, -⟩
  · exact absurd h0 hn
  · injection hv with e1 e2 e3
    exact ⟨g, e1, hb⟩
theorem gst_start {w2 w3 : World} {m : Mach} {ar am ao : Option Addr} {cr cm co : Nat} (hok : MOk m) (hown : MachOwn w2.heap.size w3 m (.slice ar m.regs.length cr) (.slice am m.mem.length cm) (.slice ao m.out.length co)) (hb : Below w2.heap.size w2 w3) : ∃ gr mb, ar = some ⟨gr, 0, none⟩ ∧ am = some ⟨mb, 0, none⟩ ∧ GSt (FlatSt mb cm) w2 (fun _ => False) w3.heap.size gr cr (.slice (some ⟨mb, 0, none⟩) 256 cm) m 0 false ao co (fun g => g = mb) (w3.alloc (.cells #[.slice (some ⟨gr, 0, none⟩) 8 cr, .int .i64 m.pc, .int .i64 m.back, .bool m.ints, .bool m.wait, .int .i64 m.table, .int .i64 m.count, .int .i64 m.fin, .slice (some ⟨mb, 0, none⟩) 256 cm, .slice ao m.out.length co, .int .i64 m.ready, .int .i64 m.want, .int .i64 0] 74 (0, 0))) := by
  have hr8 := hok.regs
  have hm256 := hok.mem
  obtain ⟨gr, rfl, gb⟩ := own_slice hown.hr (by omega)
  obtain ⟨mb, rfl, mbb⟩ := own_slice hown.hm (by omega)
  refine ⟨gr, mb, rfl, rfl, ?_⟩
  obtain ⟨h1, h2, h3, a1, a2, a3, a4, a5, a6⟩ := hown
  rw [hr8] at h1 a1 a2 a4 a5
  rw [hm256] at h2 a1 a3 a4 a6
  have lr := (h1.lt gr rfl).2
  have lm := (h2.lt mb rfl).2
  have ba : Below w3.heap.size w3 (w3.alloc (.cells #[.slice (some ⟨gr, 0, none⟩) 8 cr, .int .i64 m.pc, .int .i64 m.back, .bool m.ints, .bool m.wait, .int .i64 m.table, .int .i64 m.count, .int .i64 m.fin, .slice (some ⟨mb, 0, none⟩) 256 cm, .slice ao m.out.length co, .int .i64 m.ready, .int .i64 m.want, .int .i64 0] 74 (0, 0))) := below_alloc _ _
  have up : ∀ {v : Value} {n : Nat} {xs : List Value}, w3.ownsRow w2.heap.size 3 1 v n xs → (w3.alloc (.cells #[.slice (some ⟨gr, 0, none⟩) 8 cr, .int .i64 m.pc, .int .i64 m.back, .bool m.ints, .bool m.wait, .int .i64 m.table, .int .i64 m.count, .int .i64 m.fin, .slice (some ⟨mb, 0, none⟩) 256 cm, .slice ao m.out.length co, .int .i64 m.ready, .int .i64 m.want, .int .i64 0] 74 (0, 0))).ownsRow 0 3 1 v n xs := fun h => own_base (own_below h ba (Nat.le_refl _)) (Nat.zero_le _)
  have hne : gr ≠ mb := by
    rcases a1 with a | a
    · exact absurd a (by simp [Value.ownBlock])
    · intro e; exact a (by simp [Value.ownBlock, e])
  refine ⟨alloc_at rfl, up h1, up h3, ⟨rfl, rfl, hm256, up h2⟩, ?_, by omega, hne, ?_, (OutF.of hb _).trans (G := fun _ => False) (OutF.of ba _) (fun _ q => q.elim), Or.inr hb.size, Or.inr gb, fun g hg => Or.inr (by rw [hg]; exact mbb), fun g hg => Or.inr (h3.lt g hg).1⟩
  · rcases a5 with a | a
    · intro e; rw [a] at e; cases e
    · intro e; exact a (by rw [e]; rfl)
  · intro g hg e
    rcases a6 with a | a
    · rw [a] at hg; cases hg
    · exact a (by rw [hg, e]; rfl)
theorem flat_x {w0 : World} {D : Nat → Prop} {cb gr cr mb cm : Nat} {vm : Value} {m : Mach} {wr : Int} {x : Bool} {w : World} (h : GS (FlatSt mb cm) w0 D cb gr cr vm m wr x w) : x = false := by
  obtain ⟨ao, co, F, h⟩ := h
  exact h.mem.1

theorem own_reb {w : World} {base b2 : Nat} {t : TypeId} {s : Nat} {v : Value} {n : Nat} {xs : List Value} (h : w.ownsRow base t s v n xs) (hb : ∀ g, v.ownBlock = some g → b2 ≤ g) : w.ownsRow b2 t s v n xs := by
  obtain ⟨h1, h2⟩ := h
  refine ⟨h1, ?_⟩
  rcases h2 with h2 | ⟨g, cap, cur, rfl, hg, r⟩
  · exact Or.inl h2
  · exact Or.inr ⟨g, cap, cur, rfl, hb g rfl, r⟩
theorem GSt.sinv {w w0 w6 : World} {D : Nat → Prop} {cb gr dr mb dm g : Nat} {vm : Value} {mz : Mach} {wz : Int} {x : Bool} {az : Option Addr} {dz : Nat} {F : Nat → Prop} (h : GSt (FlatSt mb dm) w0 D cb gr dr vm mz wz x az dz F w6) (hD : ∀ k, D k → False) (hok : MOk mz) (hw : Below w.heap.size w w0) (hg : ∃ cs, w6.heap[g]? = some (.cells cs 30 (0, 0))) : SInv w g mz (.slice (some ⟨gr, 0, none⟩) 8 dr) (.slice (some ⟨mb, 0, none⟩) 256 dm) (.slice az mz.out.length dz) w6 := by
  have hs := hw.size
  have hF := h.mem.2.1
  subst hF
  refine ⟨⟨?_, ?_, own_reb h.out (fun k hk => ?_), ?_, ?_, ?_, ?_, ?_, ?_⟩, hg, hw.trans (h.old.below (fun k q => (hD k q).elim) hs)⟩
  · rw [hok.regs]; exact own_reb h.regs (fun k hk => by simp [Value.ownBlock] at hk; subst hk; rcases h.dr with q | q; exact (hD _ q).elim; omega)
  · rw [hok.mem]; exact own_reb h.mem.2.2.2 (fun k hk => by simp [Value.ownBlock] at hk; subst hk; rcases h.df _ rfl with q | q; exact (hD _ q).elim; omega)
  · rcases h.dq k hk with q | q
    · exact (hD _ q).elim
    · omega
  · exact Or.inr (by have := h.fr; simp [Value.ownBlock]; exact this)
  · exact Or.inr (fun e => h.ro e.symm)
  · exact Or.inr (fun e => h.fo mb e.symm rfl)
  · exact Or.inr (by have := h.fr; simp [Value.ownBlock]; exact fun e => this e.symm)
  · exact Or.inr h.ro
  · exact Or.inr (fun e => h.fo mb e rfl)
end Go.Proofs.YtenicnneppgfmaaDoor
namespace Go.Proofs.YtenicnneppgfmaaDoor
open Go Go.RowKit Go.ChangeShapes Go.WideShapes Go.Deep
set_option linter.unusedVariables false
attribute [local go_sem ↓] Go.wp_at_zero Go.wp_at_succ

set_option maxRecDepth 100000 in
theorem rflat_load {mb cm : Nat} {w : World} {F : Nat → Prop} {mem : List Int} {x : Bool} {at_ : Int} (h : FlatSt mb cm w F mem x) (h0 : 0 ≤ at_) (h1 : at_ < 256) : Calls Tryd.prog 157 #[.slice (some ⟨mb, 0, none⟩) 256 cm, .int .i64 at_] w fun e w' => e = .returned (.tuple #[.int .i64 (mem.getD at_.toNat 0), .bool true]) ∧ ∃ n, w' = w.drewN n := by
  obtain ⟨rfl, rfl, hl, ho⟩ := h
  obtain ⟨k, rfl⟩ := Int.eq_ofNat_of_zero_le h0
  have hk : k < 256 := by omega
  have c := own_cell hl ho hk
  rw [Int.toNat_natCast]
  generalize mem.getD k 0 = z at *
  clear ho hl h0
  go_enter Tryd.func157, Tryd.ntmps157
  go_wp2
  go_ret2
  exact ⟨rfl, 0, rfl⟩
set_option maxRecDepth 100000 in
theorem rflat_store {mb cm : Nat} {w : World} {F : Nat → Prop} {mem : List Int} {x : Bool} {at_ z : Int} (h : FlatSt mb cm w F mem x) (h0 : 0 ≤ at_) (h1 : at_ < 256) : Calls Tryd.prog 158 #[.slice (some ⟨mb, 0, none⟩) 256 cm, .int .i64 at_, .int .i64 z] w fun e w' => OutF F w w' ∧ ∃ F', (∀ g, F' g → F g ∨ w.heap.size ≤ g) ∧ ((e = .returned (.bool true) ∧ FlatSt mb cm w' F' (mem.set at_.toNat z) x) ∨ (e = .returned (.bool false) ∧ FlatSt mb cm w' F' mem true)) := by
  obtain ⟨rfl, rfl, hl, ho⟩ := h
  obtain ⟨k, rfl⟩ := Int.eq_ofNat_of_zero_le h0
  have hk : k < 256 := by omega
  have c := own_cell hl ho hk
  have f := ho.frozenAt k
  rw [Int.toNat_natCast]
  have HO := Lib.hid ho
  have HL := Lib.hid hl
  clear ho hl h0
  generalize mem.getD k 0 = z0 at *
  go_enter Tryd.func158, Tryd.ntmps158
  go_wp2
  go_ret
  refine ⟨OutF.setCell (F := fun g => g = mb) (OutF.refl _ w) (Or.inl rfl) _, fun g => g = mb, fun g hg => Or.inl hg, Or.inl ⟨rfl, rfl, rfl, by rw [List.length_set]; exact HL.out, ?_⟩⟩
  rw [List.map_set]
  exact (HO.out.stored k (.int .i64 z)).1
set_option maxRecDepth 100000 in
set_option maxRecDepth 1000000 in
theorem rflat_is (mb cm : Nat) : MemI 75 157 158 (.slice (some ⟨mb, 0, none⟩) 256 cm) (FlatSt mb cm) where
  nL := fun w => rfl
  mL := fun w => rfl
  eL := fun args w => rfl
  eS := fun args w => rfl
  nS := fun w => rfl
  mS := fun w => rfl
  load := fun w F mem x at_ h h0 h1 => rflat_load h h0 h1
  store := fun w F mem x at_ z h h0 h1 _ => rflat_store h h0 h1
  stay := fun w w' F mem x h hb hs => by
    obtain ⟨h1, rfl, h3, h4, h5⟩ := h
    refine ⟨h1, rfl, h3, h4, ?_⟩
    rcases h5 with h5 | ⟨g, cap, cur, hv, hg, hh, r⟩
    · exact Or.inl h5
    · refine Or.inr ⟨g, cap, cur, hv, hg, ?_, r⟩
      have e : mb = g := by injection hv with e1; injection e1 with e1; injection e1
      exact (hb g e.symm).trans hh
  lt := fun w F mem x h g hg => by
    obtain ⟨h1, rfl, h3, h4⟩ := h
    exact (h4.lt g (by rw [hg]; rfl)).2

/-- The blocks that a core's calls may change. -/
def Dn (cb gr : Nat) (ao : Option Addr) (n co : Nat) (F : Nat → Prop) (g : Nat) : Prop := g = cb ∨ g = gr ∨ F g ∨ (Value.slice ao n co).ownBlock = some g
section
variable {t fL fS : Nat} {v : Value} {St : World → (Nat → Prop) → List Int → Bool → Prop} {w0 w : World} {D : Nat → Prop} {cb gr cr : Nat} {vm : Value} {m : Mach} {wrote : Int} {x : Bool} {ao : Option Addr} {co : Nat} {F : Nat → Prop}
theorem GSt.base (h : GSt St w0 D cb gr cr vm m wrote x ao co F w) : GSt St w (Dn cb gr ao m.out.length co F) cb gr cr vm m wrote x ao co F w :=
  ⟨h.box, h.regs, h.out, h.mem, h.ro, h.fc, h.fr, h.fo, OutF.refl _ _, Or.inl (Or.inl rfl), Or.inl (Or.inr (Or.inl rfl)), fun g hg => Or.inl (Or.inr (Or.inr (Or.inl hg))), fun g hg => Or.inl (Or.inr (Or.inr (Or.inr hg)))⟩
theorem GSt.dn (h : GSt St w0 D cb gr cr vm m wrote x ao co F w) : ∀ g, Dn cb gr ao m.out.length co F g → D g ∨ w0.heap.size ≤ g := by
  rintro g (rfl | rfl | hg | hg)
  · exact h.dc
  · exact h.dr
  · exact h.df g hg
  · exact h.dq g hg
theorem GSt.back (h0 : GSt St w0 D cb gr cr vm m wrote x ao co F w) {m' : Mach} {wr' : Int} {x' : Bool} {ao' : Option Addr} {co' : Nat} {F' : Nat → Prop} {w' : World} (h : GSt St w (Dn cb gr ao m.out.length co F) cb gr cr vm m' wr' x' ao' co' F' w') : GSt St w0 D cb gr cr vm m' wr' x' ao' co' F' w' := by
  have hD := h0.dn
  have hs := h0.old.size
  exact ⟨h.box, h.regs, h.out, h.mem, h.ro, h.fc, h.fr, h.fo, h0.old.trans h.old hD, h0.dc, h0.dr, fun g hg => (h.df g hg).elim (hD g) (fun q => Or.inr (by omega)), fun g hg => (h.dq g hg).elim (hD g) (fun q => Or.inr (by omega))⟩
end

/-- A core, and a player's box beside it. -/
structure PSt (St : World → (Nat → Prop) → List Int → Bool → Prop) (w0 : World) (D : Nat → Prop) (pb cb gr cr : Nat) (vm : Value) (m : Mach) (wrote : Int) (x : Bool) (vl : Value) (ao : Option Addr) (co : Nat) (F : Nat → Prop) (w : World) : Prop where
  g : GSt St w0 D cb gr cr vm m wrote x ao co F w
  box : w.heap[pb]? = some (.cells #[vl] 103 (0, 0))
  nf : ¬ F pb
  db : D pb ∨ w0.heap.size ≤ pb
def PS (St : World → (Nat → Prop) → List Int → Bool → Prop) (w0 : World) (D : Nat → Prop) (pb cb gr cr : Nat) (vm : Value) (m : Mach) (wrote : Int) (x : Bool) (vl : Value) (w : World) : Prop := ∃ ao co F, PSt St w0 D pb cb gr cr vm m wrote x vl ao co F w
section
variable {t fL fS : Nat} {v : Value} {St : World → (Nat → Prop) → List Int → Bool → Prop} {w0 w : World} {D : Nat → Prop} {pb cb gr cr : Nat} {vm : Value} {m : Mach} {wrote : Int} {x : Bool} {vl : Value} {ao : Option Addr} {co : Nat} {F : Nat → Prop}
theorem PSt.plt (h : PSt St w0 D pb cb gr cr vm m wrote x vl ao co F w) : pb < w.heap.size := (Array.getElem?_eq_some_iff.1 h.box).1
theorem PSt.nc (h : PSt St w0 D pb cb gr cr vm m wrote x vl ao co F w) : pb ≠ cb := by
  intro e; subst e
  have h1 := h.box; have h2 := h.g.box
  rw [h1] at h2
  injection h2 with h2; injection h2 with h2 h3 h4
  exact absurd h3 (by decide)
theorem PSt.nd (h : PSt St w0 D pb cb gr cr vm m wrote x vl ao co F w) : ¬ Dn cb gr ao m.out.length co F pb := by
  rintro (e | e | e | e)
  · exact h.nc e
  · exact own_ne_block h.g.regs h.box (by decide) (by rw [e]; rfl)
  · exact h.nf e
  · exact own_ne_block h.g.out h.box (by decide) e.symm
/-- Behind a call of the core. -/
theorem PSt.ran (h : PSt St w0 D pb cb gr cr vm m wrote x vl ao co F w) {m' : Mach} {wr' : Int} {x' : Bool} {w' : World} (k : GS St w (Dn cb gr ao m.out.length co F) cb gr cr vm m' wr' x' w') : PS St w0 D pb cb gr cr vm m' wr' x' vl w' := by
  obtain ⟨ao', co', F', k⟩ := k
  refine ⟨ao', co', F', h.g.back k, k.old.at h.box h.nd, fun hf => ?_, h.db⟩
  rcases k.df pb hf with q | q
  · exact h.nd q
  · have := h.plt; omega
theorem PSt.ps (h : PSt St w0 D pb cb gr cr vm m wrote x vl ao co F w) : PS St w0 D pb cb gr cr vm m wrote x vl w := ⟨ao, co, F, h⟩
theorem PSt.alloc (hM : MemI t fL fS v St) (h : PSt St w0 D pb cb gr cr vm m wrote x vl ao co F w) (o : Obj) : PSt St w0 D pb cb gr cr vm m wrote x vl ao co F (w.alloc o) :=
  ⟨h.g.alloc hM o, alloc_lt h.plt |>.trans h.box, h.nf, h.db⟩
theorem PSt.drewN (hM : MemI t fL fS v St) (h : PSt St w0 D pb cb gr cr vm m wrote x vl ao co F w) (n : Nat) : PSt St w0 D pb cb gr cr vm m wrote x vl ao co F (w.drewN n) := ⟨h.g.drewN hM n, h.box, h.nf, h.db⟩
/-- A store into the player's box. -/
theorem PSt.put (hM : MemI t fL fS v St) (h : PSt St w0 D pb cb gr cr vm m wrote x vl ao co F w) (u : Value) : PSt St w0 D pb cb gr cr vm m wrote x u ao co F (w.setCell ⟨pb, 0, none⟩ u) := by
  have hn := h.nd
  have hg := h.g
  have hgr : w.grownBy (w.setCell ⟨pb, 0, none⟩ u) (some pb) := grown_set' w pb 0 u
  refine ⟨⟨set_block_ne hg.box (fun e => h.nc e.symm) _, own_set hg.regs (own_ne_block hg.regs h.box (by decide)) _, own_set hg.out (own_ne_block hg.out h.box (by decide)) _, ?_, hg.ro, hg.fc, hg.fr, hg.fo, hg.old.setCell h.db u, hg.dc, hg.dr, hg.df, hg.dq⟩, set_block h.box u, h.nf, h.db⟩
  exact hM.stay _ _ _ _ _ hg.mem (fun g hF => Below.heap_setCell w ⟨pb, 0, none⟩ u g (fun e => h.nf (by have e2 : g = pb := e; rw [← e2]; exact hF))) (by simp [World.setCell])
end

set_option maxHeartbeats 4000000 in
set_option maxRecDepth 100000 in
theorem apply_any {t fL fS : Nat} {v : Value} {St : World → (Nat → Prop) → List Int → Bool → Prop} (hM : MemI t fL fS v St) {w0 w : World} {D : Nat → Prop} {cb gr cr : Nat} {vm : Value} {m : Mach} {wrote : Int} {x : Bool} {ao : Option Addr} {co : Nat} {F : Nat → Prop} (h : GSt St w0 D cb gr cr vm m wrote x ao co F w) (hm : MOk m) (B : Nat) (y : Ev) (hy : EvG y) (h3 : y.kind ≠ 3) (ad : Option Addr) (cd : Nat) (hi : ∀ w', OutF D w0 w' → Ints B w' (.slice ad y.data.length cd) y.data) : Calls Tryd.prog 39 #[.pointer (some ⟨cb, 0, none⟩), .iface t v, .agg #[.int .i64 y.at_, .int .i64 y.kind, .slice ad y.data.length cd]] w (ComesPost St w0 D cb gr cr vm m wrote x (appM m y)) := by
  have c7 : w.cell? ⟨cb, 7, none⟩ = some (.int .i64 m.fin) := cell_block h.box 7
  have c4 : w.cell? ⟨cb, 4, none⟩ = some (.bool m.wait) := cell_block h.box 4
  have f4 := free_block h.box 4
  have lc := h.clt
  have HM := Lib.hid hM
  have HH := Lib.hid (h.alloc hM (.cells #[.int .i64 y.at_, .int .i64 y.kind, .slice ad y.data.length cd] 53 (0, 0)))
  have HMO := Lib.hid hm
  have HI := Lib.hid hi
  have H0 := Lib.hid h
  clear h hM hm hi
  by_cases hf : m.fin = 0
  · rw [hf] at c7
    rcases (show y.kind = 1 ∨ y.kind = 2 by have := hy.k1; have := hy.k3; omega) with hk | hk
    · have HE : Hid (appM m y = { m with wait := true }) := Lib.hid (by unfold appM irqM; rw [if_pos hk, if_pos ⟨hf, rfl⟩])
      have HOK2 : Hid (MOk ({ m with wait := true } : Mach)) := Lib.hid (by have := HMO.out.irq true; unfold irqM at this; rw [if_pos ⟨hf, rfl⟩] at this; exact this)
      rw [hk] at HH ⊢
      clear hf hk h3 hy
      go_enter Tryd.func39, Tryd.ntmps39
      go_wp2
      first | go_end0 | refine bodyPost_ret (results_none rfl _ _ _) rfl ?_
      exact ⟨_, x, rfl, ((H0.out.put HM.out 4 (.bool true) { m with wait := true } wrote rfl rfl rfl rfl).alloc HM.out _).gs, HOK2.out, rfl, Or.inl ⟨rfl, HE.out.symm⟩⟩
    · have HE : Hid (appM m y = comesM m y.data) := Lib.hid (by unfold appM; rw [if_neg (by omega), if_pos hk])
      have HCO := Lib.hid (comes_any HM.out HH.out HMO.out B (.slice ad y.data.length cd) y.data (hy.b16 hk) hy.wd HI.out)
      rw [hk] at HH HCO ⊢
      clear hf hk h3 hy
      go_enter Tryd.func39, Tryd.ntmps39
      go_wp2_with fail
      refine HCO.out.mono ?_
      rintro e w1 ⟨m1, x1, rfl, hg1, hm1, hc1, hor⟩
      have HG := Lib.hid hg1
      have HM1 := Lib.hid hm1
      have HC1 := Lib.hid hc1
      have HOR := Lib.hid hor
      clear hg1 hm1 hc1 hor
      go_wp2
      first | go_end0 | refine bodyPost_ret (results_none rfl _ _ _) rfl ?_
      exact ⟨m1, x1, rfl, HG.out, HM1.out, HC1.out, by rw [HE.out]; exact HOR.out⟩
  · have hfb : (m.fin != 0) = true := by rw [bne_iff_ne]; exact hf
    have HE := Lib.hid (appM_end hf y)
    clear hf h3 hy
    go_enter Tryd.func39, Tryd.ntmps39
    go_wp2
    first | go_end0 | refine bodyPost_ret (results_none rfl _ _ _) rfl ?_
    exact ⟨m, x, rfl, HH.out.gs, HMO.out, rfl, Or.inl ⟨rfl, HE.out.symm⟩⟩
end Go.Proofs.YtenicnneppgfmaaDoor
namespace Go.Proofs.YtenicnneppgfmaaDoor
open Go Go.RowKit Go.ChangeShapes Go.WideShapes Go.Deep
set_option linter.unusedVariables false
attribute [local go_sem ↓] Go.wp_at_zero Go.wp_at_succ

theorem OutF.same {D : Nat → Prop} {E : Nat} {w w' : World} (h : OutF D w w') (hE : E ≤ w.heap.size) (hD : ∀ g, g < E → ¬ D g) : Same E w w' :=
  fun b o hb => World.cell?_of_block (h.block b (by omega) (hD b hb))

end Go.Proofs.YtenicnneppgfmaaDoor
namespace Go.Proofs.YtenicnneppgfmaaDoor
open Go Go.RowKit Go.ChangeShapes Go.WideShapes Go.Deep
set_option linter.unusedVariables false
attribute [local go_sem ↓] Go.wp_at_zero Go.wp_at_succ

/-- The blocks of a guest's slices. -/
def Dz (gr mb : Nat) (ao : Option Addr) (n co : Nat) (g : Nat) : Prop := g = gr ∨ g = mb ∨ (Value.slice ao n co).ownBlock = some g
section
variable {w0 w : World} {D : Nat → Prop} {gr cr mb cm : Nat} {m : Mach} {ao : Option Addr} {co : Nat}
theorem ZA.base (h : ZA w0 D gr cr mb cm m ao co w) : ZA w (Dz gr mb ao m.out.length co) gr cr mb cm m ao co w :=
  ⟨h.regs, h.mem, h.out, h.rm, h.ro, h.mo, OutF.refl _ _, Or.inl (Or.inl rfl), Or.inl (Or.inr (Or.inl rfl)), fun g hg => Or.inl (Or.inr (Or.inr hg))⟩
theorem ZA.dz (h : ZA w0 D gr cr mb cm m ao co w) : ∀ g, Dz gr mb ao m.out.length co g → D g ∨ w0.heap.size ≤ g := by
  rintro g (rfl | rfl | hg)
  · exact h.lr
  · exact h.lm
  · exact h.lo g hg
theorem ZA.back (h0 : ZA w0 D gr cr mb cm m ao co w) {m' : Mach} {ao' : Option Addr} {co' : Nat} {w' : World} (h : ZA w (Dz gr mb ao m.out.length co) gr cr mb cm m' ao' co' w') : ZA w0 D gr cr mb cm m' ao' co' w' := by
  have hD := h0.dz
  have hs := h0.old.size
  exact ⟨h.regs, h.mem, h.out, h.rm, h.ro, h.mo, h0.old.trans h.old hD, h0.lr, h0.lm, fun g hg => (h.lo g hg).elim (hD g) (fun q => Or.inr (by omega))⟩
/-- A box of another type is none of a guest's slices. -/
theorem ZA.nd (h : ZA w0 D gr cr mb cm m ao co w) {g : Nat} {cs : Array Value} {t : TypeId} {fr : Nat × Nat} (hg : w.heap[g]? = some (.cells cs t fr)) (ht : 3 ≠ t) : ¬ Dz gr mb ao m.out.length co g := by
  rintro (e | e | e)
  · exact own_ne_block h.regs hg ht (by rw [e]; rfl)
  · exact own_ne_block h.mem hg ht (by rw [e]; rfl)
  · exact own_ne_block h.out hg ht e.symm
/-- A store into a box of another type. -/
theorem ZA.set (h : ZA w0 D gr cr mb cm m ao co w) {g : Nat} {cs : Array Value} {t : TypeId} {fr : Nat × Nat} (hg : w.heap[g]? = some (.cells cs t fr)) (ht : 3 ≠ t) (hd : D g ∨ w0.heap.size ≤ g) (i : Nat) (u : Value) : ZA w0 D gr cr mb cm m ao co (w.setCell ⟨g, i, none⟩ u) :=
  ⟨own_set h.regs (own_ne_block h.regs hg ht) u, own_set h.mem (own_ne_block h.mem hg ht) u, own_set h.out (own_ne_block h.out hg ht) u, h.rm, h.ro, h.mo, h.old.setCell hd u, h.lr, h.lm, h.lo⟩
end
end Go.Proofs.YtenicnneppgfmaaDoor
namespace Go.Proofs.YtenicnneppgfmaaDoor
open Go Go.RowKit Go.ChangeShapes Go.WideShapes Go.Deep
set_option linter.unusedVariables false

theorem za_start {w2 w3 : World} {m : Mach} {ar am ao : Option Addr} {cr cm co : Nat} (hok : MOk m) (hown : MachOwn w2.heap.size w3 m (.slice ar m.regs.length cr) (.slice am m.mem.length cm) (.slice ao m.out.length co)) (hb : Below w2.heap.size w2 w3) : ∃ gr mb, ar = some ⟨gr, 0, none⟩ ∧ am = some ⟨mb, 0, none⟩ ∧ ZA w2 (fun _ => False) gr cr mb cm m ao co w3 := by
  have hr8 := hok.regs
  have hm256 := hok.mem
  obtain ⟨gr, rfl, gb⟩ := own_slice hown.hr (by omega)
  obtain ⟨mb, rfl, mbb⟩ := own_slice hown.hm (by omega)
  refine ⟨gr, mb, rfl, rfl, ?_⟩
  obtain ⟨h1, h2, h3, a1, a2, a3, a4, a5, a6⟩ := hown
  rw [hr8] at h1 a1 a2 a4 a5
  rw [hm256] at h2 a1 a3 a4 a6
  have hne : gr ≠ mb := by
    rcases a1 with a | a
    · exact absurd a (by simp [Value.ownBlock])
    · intro e; exact a (by simp [Value.ownBlock, e])
  refine ⟨own_base h1 (Nat.zero_le _), own_base h2 (Nat.zero_le _), own_base h3 (Nat.zero_le _), hne, ?_, ?_, OutF.of hb _, Or.inr gb, Or.inr mbb, fun g hg => Or.inr (h3.lt g hg).1⟩
  · rcases a5 with a | a
    · intro e; rw [a] at e; cases e
    · intro e; exact a (by rw [e]; rfl)
  · rcases a6 with a | a
    · intro e; rw [a] at e; cases e
    · intro e; exact a (by rw [e]; rfl)
theorem ZA.sinv {w w0 w6 : World} {gr dr mb dm g : Nat} {mz : Mach} {az : Option Addr} {dz : Nat} (h : ZA w0 (fun _ => False) gr dr mb dm mz az dz w6) (hok : MOk mz) (hw : Below w.heap.size w w0) (hg : ∃ cs, w6.heap[g]? = some (.cells cs 30 (0, 0))) : SInv w g mz (.slice (some ⟨gr, 0, none⟩) 8 dr) (.slice (some ⟨mb, 0, none⟩) 256 dm) (.slice az mz.out.length dz) w6 := by
  have hs := hw.size
  refine ⟨⟨?_, ?_, own_reb h.out (fun k hk => ?_), ?_, ?_, ?_, ?_, ?_, ?_⟩, hg, hw.trans (h.old.below (fun k q => q.elim) hs)⟩
  · rw [hok.regs]; exact own_reb h.regs (fun k hk => by simp [Value.ownBlock] at hk; subst hk; rcases h.lr with q | q; exact q.elim; omega)
  · rw [hok.mem]; exact own_reb h.mem (fun k hk => by simp [Value.ownBlock] at hk; subst hk; rcases h.lm with q | q; exact q.elim; omega)
  · rcases h.lo k hk with q | q
    · exact q.elim
    · omega
  · exact Or.inr (by have := h.rm; simp [Value.ownBlock]; exact this)
  · exact Or.inr (fun e => h.ro e.symm)
  · exact Or.inr (fun e => h.mo e.symm)
  · exact Or.inr (by have := h.rm; simp [Value.ownBlock]; exact fun e => this e.symm)
  · exact Or.inr h.ro
  · exact Or.inr h.mo

end Go.Proofs.YtenicnneppgfmaaDoor
