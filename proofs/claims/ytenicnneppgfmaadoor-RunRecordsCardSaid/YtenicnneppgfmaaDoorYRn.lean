/- Several texts joined, each with its own heading in the notes: The contracts of evlog's reader: wrong, number, signed. Events read from bytes, whole, in plain Lean. The contract of evlog's event. The contract of evlog's event, of the kinds that have words. No condition beyond those of each row. -/
import Derived.Test.YtenicnneppgfmaaDoorYNu
import Derived.BigQuiet
namespace Go.Proofs.YtenicnneppgfmaaDoor
open Go Go.RowKit Go.ChangeShapes Go.WideShapes Go.Deep
set_option linter.unusedVariables false

theorem grown_set (w : World) (g i : Nat) (v : Value) : w.grownBy (w.setCell ⟨g, i, none⟩ v) (some g) :=
  ⟨rfl, rfl, rfl, by simp, fun k _ hne => Below.heap_setCell w _ v k (fun e => hne (by rw [e]))⟩
theorem grown_same {w w1 w2 : World} {r : Option Nat} (h : w.grownBy w1 r) (h2 : w1.grownBy w2 r) : w.grownBy w2 r :=
  ⟨h2.os.trans h.os, h2.tape.trans h.tape, h2.output.trans h.output, Nat.le_trans h.size h2.size, fun k hk hne => (h2.block k (Nat.lt_of_lt_of_le hk h.size) hne).trans (h.block k hk hne)⟩
theorem grown_drewN {w w1 : World} {r : Option Nat} (h : w.grownBy w1 r) (n : Nat) : w.grownBy (w1.drewN n) r := ⟨h.os, h.tape, h.output, h.size, h.block⟩
/-- The reader's box. -/
structure Rd (w0 : World) (g : Nat) (bs : List UInt8) (e : Int) (w : World) : Prop where
  box : ∃ a c, w.heap[g]? = some (.cells #[.slice a bs.length c, .int .i64 e] 145 (0, 0)) ∧ BytesR w0.heap.size w0 (.slice a bs.length c) bs
  ge : w0.heap.size ≤ g
  b : Below w0.heap.size w0 w
theorem Rd.drewN {w0 w : World} {g : Nat} {bs : List UInt8} {e : Int} (h : Rd w0 g bs e w) (n : Nat) : Rd w0 g bs e (w.drewN n) := ⟨h.box, h.ge, below_drewN h.b n⟩
theorem Rd.lt {w0 w : World} {g : Nat} {bs : List UInt8} {e : Int} (h : Rd w0 g bs e w) : g < w.heap.size := by obtain ⟨a, c, hx, _⟩ := h.box; exact (Array.getElem?_eq_some_iff.1 hx).1
theorem Rd.other {w0 w w' : World} {g : Nat} {r : Option Nat} {bs : List UInt8} {e : Int} (h : Rd w0 g bs e w) (hg : w.grownBy w' r) (hne : some g ≠ r) (hr : ∀ k, r = some k → w0.heap.size ≤ k) : Rd w0 g bs e w' := by
  obtain ⟨a, c, hx, hb⟩ := h.box
  exact ⟨⟨a, c, block_grown hg hx hne, hb⟩, h.ge, h.b.grown hg h.b.size (fun k hk => hr k hk)⟩
end Go.Proofs.YtenicnneppgfmaaDoor
namespace Go.Proofs.YtenicnneppgfmaaDoor
set_option linter.unusedVariables false

/-- The next number, where nothing is wrong as yet. -/
def numE (e : Int) (bs : List UInt8) : Int × Nat × List UInt8 := if e = 0 then numP 0 0 bs else (e, 0, bs)
theorem numE_zero (bs : List UInt8) : numE 0 bs = numP 0 0 bs := rfl
theorem numE_bad {e : Int} (h : e ≠ 0) (bs : List UInt8) : numE e bs = (e, 0, bs) := by unfold numE; rw [if_neg h]
theorem numE_lt {e e' : Int} {bs r : List UInt8} {v : Nat} (h : numE e bs = (e', v, r)) : v < 562949953421312 := by
  by_cases h0 : e = 0
  · subst h0
    rw [numE_zero] at h
    have hv : v < 128 ^ 7 := by
      rcases numP_err bs 0 0 with k | ⟨_, k⟩
      · rw [h] at k; simp only at k; subst k; exact numP_lt h
      · rw [h] at k; simp only at k; subst k; decide
    exact Nat.lt_of_lt_of_le hv (by decide)
  · rw [numE_bad h0] at h
    injection h with h1 h2
    injection h2 with h2 h3
    omega
theorem numE_keeps {e e' : Int} {bs r : List UInt8} {v : Nat} (h : numE e bs = (e', v, r)) (h0 : e ≠ 0) : e' = e ∧ v = 0 ∧ r = bs := by
  rw [numE_bad h0] at h
  injection h with h1 h2
  injection h2 with h2 h3
  exact ⟨h1.symm, h2.symm, h3.symm⟩
theorem zag_lt {v : Nat} (h : v < 562949953421312) : -562949953421312 ≤ zag v ∧ zag v ≤ 562949953421312 := by unfold zag; split <;> omega

/-- The next event: what is wrong, the event, what is left. -/
def evP (a : Int) (bs : List UInt8) : Int × Ev × List UInt8 :=
  let p := numP 0 0 bs
  if p.1 ≠ 0 then (p.1, ⟨a, 0, []⟩, p.2.2) else
  if p.2.1 % 4 = 0 then (3, ⟨a, 0, []⟩, p.2.2) else
  if p.2.1 % 4 = 1 then (0, ⟨a + ((p.2.1 / 4 : Nat) : Int), 1, []⟩, p.2.2) else
  if p.2.1 % 4 = 2 then ((blkP 16 [] 0 p.2.2).1, ⟨a + ((p.2.1 / 4 : Nat) : Int), 2, (blkP 16 [] 0 p.2.2).2.1⟩, (blkP 16 [] 0 p.2.2).2.2)
  else ((numP 0 0 p.2.2).1, ⟨a + ((p.2.1 / 4 : Nat) : Int), 3, [zag (numP 0 0 p.2.2).2.1]⟩, (numP 0 0 p.2.2).2.2)
/-- The words of a block, one run more. -/
structure BlkIn (r1 : List UInt8) (f : Nat) (acc : List Int) (last : Int) (e : Int) (bs : List UInt8) : Prop where
  eq : if e = 0 then blkP 16 [] 0 r1 = blkP f acc last bs else (blkP 16 [] 0 r1).1 = e ∧ (blkP 16 [] 0 r1).2.2 = bs
  len : acc.length ≤ 16
  fuel : e = 0 → 16 ≤ f + acc.length
  f16 : f ≤ 16
  lo : -((16 - (f : Int)) * 562949953421312) ≤ last
  hi : last ≤ (16 - (f : Int)) * 562949953421312
  i64 : ∀ z ∈ acc, I64 z
theorem BlkIn.start (r1 : List UInt8) : BlkIn r1 16 [] 0 0 r1 := ⟨by rw [if_pos rfl], by simp, by simp, by omega, by simp, by simp, by simp⟩
/-- What is wrong behind a run. -/
def runBad (acc : List Int) (k : Nat) (v last : Int) : Prop := k < 1 ∨ 16 - acc.length < k ∨ (0 < acc.length ∧ v = last)
/-- What is wrong behind a run, whatever was wrong ahead. -/
def RunE (acc : List Int) (k : Nat) (v last e2 e3 : Int) : Prop := (e2 ≠ 0 ∧ e3 = e2) ∨ (e2 = 0 ∧ runBad acc k v last ∧ e3 = 4) ∨ (e2 = 0 ∧ ¬ runBad acc k v last ∧ e3 = 0)
/-- The words behind a run. -/
def accE (acc : List Int) (k : Nat) (v e3 : Int) : List Int := if e3 = 0 then acc ++ List.replicate k v else acc
theorem BlkIn.step {r1 bs ra rb : List UInt8} {f k z : Nat} {acc : List Int} {last e1 e2 e3 : Int} (h : BlkIn r1 f acc last 0 bs) (hl : acc.length < 16) (h1 : numP 0 0 bs = (e1, k, ra)) (h2 : numE e1 ra = (e2, z, rb)) (h3 : RunE acc k (last + zag z) last e2 e3) : BlkIn r1 (f - 1) (accE acc k (last + zag z) e3) (last + zag z) e3 rb ∧ 0 < f := by
  have hf := h.fuel rfl
  obtain ⟨f', rfl⟩ : ∃ f', f = f' + 1 := ⟨f - 1, by omega⟩
  have he := h.eq
  rw [if_pos rfl] at he
  have hz := zag_lt (numE_lt h2)
  have hlo := h.lo; have hhi := h.hi; have h16 := h.f16; have hlen := h.len
  have hb1 : -((16 - ((f' + 1 - 1 : Nat) : Int)) * 562949953421312) ≤ last + zag z := by omega
  have hb2 : last + zag z ≤ (16 - ((f' + 1 - 1 : Nat) : Int)) * 562949953421312 := by omega
  have key : e3 ≠ 0 → (blkP 16 [] 0 r1).1 = e3 ∧ (blkP 16 [] 0 r1).2.2 = rb → BlkIn r1 (f' + 1 - 1) (accE acc k (last + zag z) e3) (last + zag z) e3 rb ∧ 0 < f' + 1 := by
    intro h4 h5
    unfold accE
    rw [if_neg h4]
    exact ⟨⟨by rw [if_neg h4]; exact h5, hlen, fun h => absurd h h4, by omega, hb1, hb2, h.i64⟩, by omega⟩
  rcases h3 with ⟨h3, rfl⟩ | ⟨rfl, hbad, rfl⟩ | ⟨rfl, hbad, rfl⟩
  · refine key h3 ?_
    rw [he]
    by_cases h0 : e1 = 0
    · subst h0
      rw [blkP_e2 (by omega) h1 h2 h3]; exact ⟨rfl, rfl⟩
    · obtain ⟨rfl, rfl, rfl⟩ := numE_keeps h2 h0
      rw [blkP_e1 (by omega) h1 h3]; exact ⟨rfl, rfl⟩
  · have h0 : e1 = 0 := by
      by_cases h0 : e1 = 0
      · exact h0
      · have := (numE_keeps h2 h0).1; omega
    subst h0
    refine key (by decide) ?_
    rw [he, blkP_e3 (by omega) h1 h2 (by unfold runBad at hbad; exact hbad)]; exact ⟨rfl, rfl⟩
  · have h0 : e1 = 0 := by
      by_cases h0 : e1 = 0
      · exact h0
      · have := (numE_keeps h2 h0).1; omega
    subst h0
    have hbad' := hbad
    unfold runBad at hbad'
    unfold accE
    rw [if_pos rfl]
    refine ⟨⟨by rw [if_pos rfl, he, blkP_go (by omega) h1 h2 hbad']; rfl, by simp; omega, fun _ => by simp; omega, by omega, hb1, hb2, ?_⟩, by omega⟩
    intro y hy
    rcases List.mem_append.1 hy with hy | hy
    · exact h.i64 y hy
    · rw [List.eq_of_mem_replicate hy]; unfold I64; omega
/-- Where the block ends. -/
theorem BlkIn.fin {r1 bs : List UInt8} {f : Nat} {acc : List Int} {last : Int} (h : BlkIn r1 f acc last 0 bs) (hl : ¬ acc.length < 16) : blkP 16 [] 0 r1 = (0, acc, bs) := by
  have he := h.eq
  rw [if_pos rfl] at he
  rw [he, blkP_full (by omega)]
/-- Events, one behind the other. -/
def evsP : Nat → Int → List UInt8 → Int × List Ev × List UInt8
  | 0, _, bs => (0, [], bs)
  | m + 1, a, bs => if (evP a bs).1 ≠ 0 then ((evP a bs).1, [], (evP a bs).2.2) else ((evsP m (evP a bs).2.1.at_ (evP a bs).2.2).1, (evP a bs).2.1 :: (evsP m (evP a bs).2.1.at_ (evP a bs).2.2).2.1, (evsP m (evP a bs).2.1.at_ (evP a bs).2.2).2.2)
theorem evsP_go {m : Nat} {a : Int} {bs r : List UInt8} {x : Ev} (h : evP a bs = (0, x, r)) : evsP (m + 1) a bs = ((evsP m x.at_ r).1, x :: (evsP m x.at_ r).2.1, (evsP m x.at_ r).2.2) := by
  rw [evsP, h, if_neg (by simp)]
end Go.Proofs.YtenicnneppgfmaaDoor
namespace Go.Proofs.YtenicnneppgfmaaDoor
open Go Go.RowKit Go.ChangeShapes Go.WideShapes Go.Deep
set_option linter.unusedVariables false

theorem Rd.c1 {w0 w : World} {g : Nat} {bs : List UInt8} {e : Int} (h : Rd w0 g bs e w) : w.cell? ⟨g, 1, none⟩ = some (.int .i64 e) := by
  obtain ⟨a, c, hx, _⟩ := h.box
  exact cell_block hx 1

/-- The reader, the result's box, the event's box and the event's words. -/
structure ESt (w0 w : World) (g gx : Nat) (x0 x1 : Int) (acc : List Int) (bs : List UInt8) (e : Int) (wr : World) : Prop where
  rd : Rd w0 g bs e wr
  rb : wr.heap[w.heap.size]? = some (.cells #[.int .i64 0, .int .i64 0, .slice none 0 0] 53 (0, 0))
  xb : ∃ a c, wr.heap[gx]? = some (.cells #[.int .i64 x0, .int .i64 x1, .slice a acc.length c] 53 (0, 0)) ∧ wr.ownsRow w.heap.size 3 1 (.slice a acc.length c) acc.length (acc.map (Value.int .i64))
  gb : w.grownBy wr (some g)
  lt : g < w.heap.size
  gx : w.heap.size < gx
theorem ESt.start {w0 w w1 : World} {g : Nat} {bs r : List UInt8} {e x0 x1 : Int} (h : Rd w0 g bs 0 w) (hr : Rd w0 g r e w1) (hg : (w.alloc (.cells #[.int .i64 0, .int .i64 0, .slice none 0 0] 53)).grownBy w1 (some g)) : ESt w0 w g w1.heap.size x0 x1 [] r e (w1.alloc (.cells #[.int .i64 x0, .int .i64 x1, .slice none 0 0] 53)) := by
  have hs := hg.size
  simp only [World.size_alloc] at hs
  have lt := h.lt
  refine ⟨hr.other (World.grownBy_alloc w1 _ none) (by simp) (by simp), ?_, ⟨none, 0, alloc_at rfl, World.ownsRow_nil _ _ _ _⟩, ?_, lt, by omega⟩
  · rw [alloc_lt (by omega), hg.block _ (by simp) (by simp; omega)]
    exact alloc_at rfl
  · refine ⟨hg.os, hg.tape, hg.output, by simp; omega, fun k hk hne => ?_⟩
    rw [alloc_lt (by omega), hg.block k (by simp; omega) hne, alloc_lt hk]
theorem ESt.drewN {w0 w wr : World} {g gx : Nat} {x0 x1 e : Int} {acc : List Int} {bs : List UInt8} (h : ESt w0 w g gx x0 x1 acc bs e wr) (n : Nat) : ESt w0 w g gx x0 x1 acc bs e (wr.drewN n) := ⟨h.rd.drewN n, h.rb, h.xb, grown_drewN h.gb n, h.lt, h.gx⟩
theorem ESt.y {w0 w wr : World} {g gx : Nat} {x0 x1 e : Int} {acc : List Int} {bs : List UInt8} (h : ESt w0 w g gx x0 x1 acc bs e wr) : wr.cell? ⟨g, 1, none⟩ = some (.int .i64 e) ∧ wr.cell? ⟨gx, 0, none⟩ = some (.int .i64 x0) ∧ wr.cell? ⟨gx, 1, none⟩ = some (.int .i64 x1) ∧ g < wr.heap.size ∧ gx < wr.heap.size ∧ w.heap.size < wr.heap.size ∧ (∀ i, wr.frozen? ⟨w.heap.size, i, none⟩ = false) ∧ (∀ i, wr.frozen? ⟨gx, i, none⟩ = false) := by
  obtain ⟨a, c, hx, ho⟩ := h.xb
  exact ⟨h.rd.c1, cell_block hx 0, cell_block hx 1, h.rd.lt, (Array.getElem?_eq_some_iff.1 hx).1, (Array.getElem?_eq_some_iff.1 h.rb).1, fun i => free_block h.rb i, fun i => free_block hx i⟩
theorem ESt.r {w0 w wr : World} {g gx : Nat} {x0 x1 e : Int} {acc : List Int} {bs : List UInt8} (h : ESt w0 w g gx x0 x1 acc bs e wr) : wr.cell? ⟨w.heap.size, 0, none⟩ = some (.int .i64 0) ∧ wr.cell? ⟨w.heap.size, 1, none⟩ = some (.int .i64 0) ∧ wr.cell? ⟨w.heap.size, 2, none⟩ = some (.slice none 0 0) ∧ wr.frozen? ⟨w.heap.size, 0, none⟩ = false ∧ wr.frozen? ⟨w.heap.size, 1, none⟩ = false ∧ wr.frozen? ⟨w.heap.size, 2, none⟩ = false :=
  ⟨cell_block h.rb 0, cell_block h.rb 1, cell_block h.rb 2, free_block h.rb 0, free_block h.rb 1, free_block h.rb 2⟩
theorem ESt.tab {w0 w wr : World} {g gx : Nat} {x0 x1 e : Int} {acc : List Int} {bs : List UInt8} (h : ESt w0 w g gx x0 x1 acc bs e wr) (ht : Tab w0) : Tab wr := ht.to h.rd.b
/-- The event is laid into the result's box. -/
theorem ESt.done {w0 w wr : World} {g gx : Nat} {x0 x1 e : Int} {acc : List Int} {bs : List UInt8} (h : ESt w0 w g gx x0 x1 acc bs e wr) {a : Option Addr} {c : Nat} (ho : wr.ownsRow w.heap.size 3 1 (.slice a acc.length c) acc.length (acc.map (Value.int .i64))) {W : World} (hW : W = ((wr.setCell ⟨w.heap.size, 0, none⟩ (.int .i64 x0)).setCell ⟨w.heap.size, 1, none⟩ (.int .i64 x1)).setCell ⟨w.heap.size, 2, none⟩ (.slice a acc.length c)) :
    W.heap[w.heap.size]? = some (.cells #[.int .i64 x0, .int .i64 x1, .slice a acc.length c] 53 (0, 0)) ∧ Rd w0 g bs e W ∧ w.grownBy W (some g) ∧ W.ownsRow w.heap.size 3 1 (.slice a acc.length c) acc.length (acc.map (Value.int .i64)) := by
  subst hW
  have lt := h.lt
  have b1 := set_block (i := 0) h.rb (.int .i64 x0)
  have b2 := set_block (i := 1) b1 (.int .i64 x1)
  have b3 := set_block (i := 2) b2 (.slice a acc.length c)
  have hg : wr.grownBy (((wr.setCell ⟨w.heap.size, 0, none⟩ (.int .i64 x0)).setCell ⟨w.heap.size, 1, none⟩ (.int .i64 x1)).setCell ⟨w.heap.size, 2, none⟩ (.slice a acc.length c)) (some w.heap.size) := grown_same (grown_same (grown_set _ _ _ _) (grown_set _ _ _ _)) (grown_set _ _ _ _)
  refine ⟨b3, h.rd.other hg (by simp; omega) (fun k hk => by injection hk with hk; have := h.rd.ge; omega), ⟨hg.os.trans h.gb.os, hg.tape.trans h.gb.tape, hg.output.trans h.gb.output, Nat.le_trans h.gb.size hg.size, fun k hk hne => (hg.block k (Nat.lt_of_lt_of_le hk h.gb.size) (by simp; omega)).trans (h.gb.block k hk hne)⟩, ho.kept hg ?_⟩
  exact Or.inr (fun e => own_ne_block ho h.rb (by decide) e.symm)

/-- What an event's reading answers. -/
def EvPostR (w0 : World) (g : Nat) (a : Int) (bs : List UInt8) (w : World) (en : Ending) (w' : World) : Prop := ∃ (x0 x1 : Int) (da : Option Addr) (dn dc : Nat), en = .returned (.agg #[.int .i64 x0, .int .i64 x1, .slice da dn dc]) ∧ Rd w0 g (evP a bs).2.2 (evP a bs).1 w' ∧ w.grownBy w' (some g) ∧
  ((evP a bs).1 = 0 → x0 = (evP a bs).2.1.at_ ∧ x1 = (evP a bs).2.1.kind ∧ w'.ownsRow w.heap.size 3 1 (.slice da dn dc) (evP a bs).2.1.data.length ((evP a bs).2.1.data.map (Value.int .i64)) ∧ (∀ z ∈ (evP a bs).2.1.data, I64 z) ∧ (evP a bs).2.1.data.length ≤ 16 ∧ a ≤ (evP a bs).2.1.at_ ∧ (evP a bs).2.1.at_ ≤ a + 140737488355328)

theorem EvPostR.mk {w0 : World} {g : Nat} {a : Int} {bs r : List UInt8} {w w' : World} {e x0 x1 : Int} {da : Option Addr} {dn dc : Nat} {x : Ev} (hp : evP a bs = (e, x, r)) (hr : Rd w0 g r e w') (hg : w.grownBy w' (some g)) (h : e = 0 → x0 = x.at_ ∧ x1 = x.kind ∧ w'.ownsRow w.heap.size 3 1 (.slice da dn dc) x.data.length (x.data.map (Value.int .i64)) ∧ (∀ z ∈ x.data, I64 z) ∧ x.data.length ≤ 16 ∧ a ≤ x.at_ ∧ x.at_ ≤ a + 140737488355328) : EvPostR w0 g a bs w (.returned (.agg #[.int .i64 x0, .int .i64 x1, .slice da dn dc])) w' := by
  unfold EvPostR
  rw [hp]
  exact ⟨x0, x1, da, dn, dc, rfl, hr, hg, h⟩

end Go.Proofs.YtenicnneppgfmaaDoor
namespace Go.Proofs.YtenicnneppgfmaaDoor
open Go Go.RowKit Go.ChangeShapes Go.WideShapes Go.Deep
set_option linter.unusedVariables false

theorem ESt.push {w0 w wr w' : World} {g gx : Nat} {x0 x1 e v : Int} {acc : List Int} {bs : List UInt8} (h : ESt w0 w g gx x0 x1 acc bs e wr) {a : Option Addr} {c : Nat} (hx : wr.heap[gx]? = some (.cells #[.int .i64 x0, .int .i64 x1, .slice a acc.length c] 53 (0, 0))) (ho : wr.ownsRow w.heap.size 3 1 (.slice a acc.length c) acc.length (acc.map (Value.int .i64))) {g1 cap : Nat} (hown : w'.ownsRow w.heap.size 3 1 (.slice (some ⟨g1, 0, none⟩) (acc.length + 1) cap) (acc.length + 1) (acc.map (Value.int .i64) ++ [.int .i64 v])) (hg : wr.grownBy w' (Value.slice a acc.length c).ownBlock) : ESt w0 w g gx x0 x1 (acc ++ [v]) bs e (w'.setCell ⟨gx, 2, none⟩ (.slice (some ⟨g1, 0, none⟩) (acc.length + 1) cap)) := by
  have lt := h.lt; have lx := h.gx; have hge := h.rd.ge
  have hrow : ∀ k, (Value.slice a acc.length c).ownBlock = some k → w.heap.size ≤ k := fun k hk => (ho.lt k hk).1
  have hx1 := block_grown hg hx (own_ne_block ho hx (by decide))
  have hr1 := block_grown hg h.rb (own_ne_block ho h.rb (by decide))
  have hgs : w'.grownBy (w'.setCell ⟨gx, 2, none⟩ (.slice (some ⟨g1, 0, none⟩) (acc.length + 1) cap)) (some gx) := grown_set _ _ _ _
  refine ⟨(h.rd.other hg (fun e => by have := hrow g e.symm; omega) (fun k hk => by have := hrow k hk; have := h.rd.b.size; have := h.gb.size; omega)).other hgs (by simp; omega) (fun k hk => by injection hk with hk; omega), block_grown hgs hr1 (by simp; omega), ⟨some ⟨g1, 0, none⟩, cap, ?_, ?_⟩, ?_, lt, lx⟩
  · have := set_block (i := 2) hx1 (.slice (some ⟨g1, 0, none⟩) (acc.length + 1) cap)
    rw [List.length_append]
    exact this
  · rw [List.length_append, List.map_append]
    exact hown.kept hgs (Or.inr (fun e => own_ne_block hown hx1 (by decide) e.symm))
  · refine ⟨hgs.os.trans (hg.os.trans h.gb.os), hgs.tape.trans (hg.tape.trans h.gb.tape), hgs.output.trans (hg.output.trans h.gb.output), Nat.le_trans h.gb.size (Nat.le_trans hg.size hgs.size), fun k hk hne => ?_⟩
    rw [hgs.block k (by have := hg.size; have := h.gb.size; omega) (by simp; omega), hg.block k (by have := h.gb.size; omega) (fun e => by have := hrow k e.symm; omega), h.gb.block k hk hne]
end Go.Proofs.YtenicnneppgfmaaDoor
