/- Several texts joined, each with its own heading in the notes: Reading predicates: what a Go value holds in memory, as plain Lean lists; how they are carried over worlds; how they come out of the reading of an argument. The readings of this program's argument types, as plain Lean data. Contracts of the small functions that many laws use: In, sameInts. Bit operations on 64-bit signed numbers as sums and remainders. No condition beyond those of each row. -/
import Derived.WalkKit
import Derived.ProofKit
import Derived.WalkLawsBesides
import Derived.WalkSpells
import Derived.LoopTactic
import Derived.Outline
import Derived.Lib.Hide
import Derived.Deep.Slices
import Derived.SizedLaws
import Derived.Lib.SmallJoins
import Derived.Test.YtpmdlmgmfggioaaChecked
import Derived.KernelRfl
import Derived.Deep.QuietTactic
import Derived.BigQuiet
import Derived.Deep.DeepMust
import Derived.Deep.DeepFit
import Derived.Deep.RegionHeld3
import Derived.StillTailTactics
import Derived.Deep.RegionLaw
import Derived.Deep.DrawnRows
import Derived.Deep.DeepCutAuto
namespace Go.Proofs.Ytpmdlmgmfggioaa
open Go Go.RowKit Go.ChangeShapes Go.WideShapes Go.Deep
set_option linter.unusedVariables false

/-- A whole number of 64 bits. -/
def I64 (z : Int) : Prop := -9223372036854775808 ≤ z ∧ z ≤ 9223372036854775807

/-- A slice of at most m elements, one cell each: element i reads by R. All cells lie in blocks below B. -/
def Sl1 {α : Type} (m B : Nat) (w : World) (R : Value → α → Prop) (v : Value) (xs : List α) : Prop :=
  ∃ a cap, v = .slice a xs.length cap ∧ xs.length ≤ m ∧ xs.length ≤ cap ∧
    ∀ i (h : i < xs.length), ∃ b off vi, a = some ⟨b, off, none⟩ ∧ b < B ∧ w.cell? ⟨b, off + i, none⟩ = some vi ∧ R vi xs[i]

/-- A slice of at most m elements of n cells each. -/
def SlN {α : Type} (n m B : Nat) (w : World) (R : List Value → α → Prop) (v : Value) (xs : List α) : Prop :=
  ∃ a cap, v = .slice a xs.length cap ∧ xs.length ≤ m ∧ xs.length ≤ cap ∧
    ∀ i (h : i < xs.length), ∃ b off cs, a = some ⟨b, off, none⟩ ∧ b < B ∧ cs.length = n ∧ (∀ j (hj : j < cs.length), w.cell? ⟨b, off + i * n + j, none⟩ = some cs[j]) ∧ R cs xs[i]

def IntV (v : Value) (z : Int) : Prop := v = .int .i64 z ∧ I64 z
def ByteV (v : Value) (z : UInt8) : Prop := v = .int .u8 z.toNat

def Ints (B : Nat) (w : World) (v : Value) (zs : List Int) : Prop := Sl1 17592186043904 B w IntV v zs
def RowsR (B : Nat) (w : World) (v : Value) (rs : List (List Int)) : Prop := Sl1 5864062014634 B w (Ints B w) v rs
def BytesR (B : Nat) (w : World) (v : Value) (zs : List UInt8) : Prop := Sl1 140737488351232 B w ByteV v zs

/-- Below block B the cells of w' are those of w. -/
def Same (B : Nat) (w w' : World) : Prop := ∀ b o, b < B → w'.cell? ⟨b, o, none⟩ = w.cell? ⟨b, o, none⟩

theorem Same.refl (B : Nat) (w : World) : Same B w w := fun _ _ _ => rfl
theorem Same.trans {B : Nat} {w w' w'' : World} (h : Same B w w') (k : Same B w' w'') : Same B w w'' := fun b o hb => (k b o hb).trans (h b o hb)
theorem Same.mono {B B' : Nat} {w w' : World} (h : Same B w w') (hB : B' ≤ B) : Same B' w w' := fun b o hb => h b o (Nat.lt_of_lt_of_le hb hB)
theorem same_below {B : Nat} {w w' : World} (h : Below B w w') : Same B w w' := fun b o hb => h.cell (p := ⟨b, o, none⟩) hb
theorem same_alloc (w : World) (O : Obj) : Same w.heap.size w (w.alloc O) := fun b _ hb => World.cell?_of_block (Below.heap_alloc w O b hb)
theorem below_alloc (w : World) (O : Obj) : Below w.heap.size w (w.alloc O) := (Below.refl _ _).alloc (Nat.le_refl _) O

theorem below_alloc2 (w : World) (O O' : Obj) : Below w.heap.size w ((w.alloc O).alloc O') := (below_alloc w O).alloc (by simp) O'
theorem below_drewN {B : Nat} {a w : World} (h : Below B a w) (n : Nat) : Below B a (w.drewN n) := ⟨h.os, h.tape, h.output, h.size, h.block⟩

theorem Sl1.to {α : Type} {m m' B B' : Nat} {w w' : World} {R R' : Value → α → Prop} {v : Value} {xs : List α} (hm : m ≤ m') (hB : B ≤ B') (hw : Same B w w') (hR : ∀ v x, R v x → R' v x) (h : Sl1 m B w R v xs) : Sl1 m' B' w' R' v xs := by
  obtain ⟨a, cap, hv, hl, hl2, hc⟩ := h
  refine ⟨a, cap, hv, by omega, hl2, fun i hi => ?_⟩
  obtain ⟨b, off, vi, ha, hb, hcell, hr⟩ := hc i hi
  exact ⟨b, off, vi, ha, by omega, by rw [hw _ _ hb]; exact hcell, hR _ _ hr⟩

theorem SlN.to {α : Type} {n m m' B B' : Nat} {w w' : World} {R R' : List Value → α → Prop} {v : Value} {xs : List α} (hm : m ≤ m') (hB : B ≤ B') (hw : Same B w w') (hR : ∀ v x, R v x → R' v x) (h : SlN n m B w R v xs) : SlN n m' B' w' R' v xs := by
  obtain ⟨a, cap, hv, hl, hl2, hc⟩ := h
  refine ⟨a, cap, hv, by omega, hl2, fun i hi => ?_⟩
  obtain ⟨b, off, cs, ha, hb, hcs, hcell, hr⟩ := hc i hi
  exact ⟨b, off, cs, ha, by omega, hcs, fun j hj => by rw [hw _ _ hb]; exact hcell j hj, hR _ _ hr⟩

/-- What is read in a world is read in another one. -/
def Imp (E : Nat) (w w' : World) : Prop := ∀ b o x, b < E → w.cell? ⟨b, o, none⟩ = some x → w'.cell? ⟨b, o, none⟩ = some x
theorem Same.imp {E : Nat} {w w' : World} (h : Same E w w') : Imp E w w' := fun b o x hb hx => by rw [h b o hb]; exact hx
theorem SlN.imp {α : Type} {n m B : Nat} {w w' : World} {R R' : List Value → α → Prop} {v : Value} {xs : List α} (hw : Imp B w w') (hR : ∀ v x, R v x → R' v x) (h : SlN n m B w R v xs) : SlN n m B w' R' v xs := by
  obtain ⟨a, cap, hv, hl, hl2, hc⟩ := h
  refine ⟨a, cap, hv, hl, hl2, fun i hi => ?_⟩
  obtain ⟨b, off, cs, ha, hb, hcs, hcell, hr⟩ := hc i hi
  exact ⟨b, off, cs, ha, hb, hcs, fun j hj => hw _ _ _ hb (hcell j hj), hR _ _ hr⟩
theorem Ints.imp {B : Nat} {w w' : World} {v : Value} {xs : List Int} (hw : Imp B w w') (h : Ints B w v xs) : Ints B w' v xs := by
  obtain ⟨a, cap, hv, hl, hl2, hc⟩ := h
  refine ⟨a, cap, hv, hl, hl2, fun i hi => ?_⟩
  obtain ⟨b, off, u, ha, hb, hcell, hr⟩ := hc i hi
  exact ⟨b, off, u, ha, hb, hw _ _ _ hb hcell, hr⟩
theorem Ints.to {B B' : Nat} {w w' : World} {v : Value} {xs : List Int} (hB : B ≤ B') (hw : Same B w w') (h : Ints B w v xs) : Ints B' w' v xs := Sl1.to (Nat.le_refl _) hB hw (fun _ _ h => h) h
theorem RowsR.to {B B' : Nat} {w w' : World} {v : Value} {xs : List (List Int)} (hB : B ≤ B') (hw : Same B w w') (h : RowsR B w v xs) : RowsR B' w' v xs := Sl1.to (Nat.le_refl _) hB hw (fun _ _ h => Ints.to hB hw h) h
theorem BytesR.to {B B' : Nat} {w w' : World} {v : Value} {xs : List UInt8} (hB : B ≤ B') (hw : Same B w w') (h : BytesR B w v xs) : BytesR B' w' v xs := Sl1.to (Nat.le_refl _) hB hw (fun _ _ h => h) h

/-- A nil slice has no elements. -/
theorem Sl1.nil {α : Type} (m B : Nat) (w : World) (R : Value → α → Prop) : Sl1 m B w R (.slice none 0 0) ([] : List α) := ⟨none, 0, rfl, Nat.zero_le _, Nat.zero_le _, fun i h => absurd h (Nat.not_lt_zero _)⟩
theorem Ints.nil (B : Nat) (w : World) : Ints B w (.slice none 0 0) [] := Sl1.nil _ _ _ _
theorem RowsR.nil (B : Nat) (w : World) : RowsR B w (.slice none 0 0) [] := Sl1.nil _ _ _ _
theorem SlN.nil {α : Type} (n m B : Nat) (w : World) (R : List Value → α → Prop) : SlN n m B w R (.slice none 0 0) ([] : List α) := ⟨none, 0, rfl, Nat.zero_le _, Nat.zero_le _, fun i h => absurd h (Nat.not_lt_zero _)⟩

/-- Out of what the call itself owns: a reading. -/
theorem sl1_of_owns {α : Type} {w : World} {base : Nat} {e : TypeId} {v : Value} {xs : List α} {vs : List Value} {m : Nat} {R : Value → α → Prop} (h : w.ownsRow base e 1 v xs.length vs) (hm : xs.length ≤ m) (hR : ∀ i (hi : i < xs.length) (hv : i < vs.length), R vs[i] xs[i]) : Sl1 m w.heap.size w R v xs := by
  obtain ⟨h0, h1⟩ := h
  rcases h1 with ⟨rfl, hz⟩ | ⟨g, cap, cur, rfl, hg, hh, hn, hc, hs, ht⟩
  · exact ⟨none, 0, by rw [hz], hm, by omega, fun i hi => by omega⟩
  · refine ⟨some ⟨g, 0, none⟩, cap, rfl, hm, hn, fun i hi => ?_⟩
    have hvl : i < vs.length := by omega
    refine ⟨g, 0, vs[i], rfl, (Array.getElem?_eq_some_iff.1 hh).1, ?_, hR i hi hvl⟩
    have hcs : i < cur.size := by omega
    simp only [World.cell?, hh, Nat.zero_add]
    have e1 : vs[i]? = cur[i]? := by
      rw [← ht, List.getElem?_take, if_pos (by omega), Array.getElem?_toList]
    rw [List.getElem?_eq_getElem hvl] at e1
    simp [← e1]

theorem ints_of_owns {w : World} {base : Nat} {e : TypeId} {v : Value} {zs : List Int} (h : w.ownsRow base e 1 v zs.length (zs.map (Value.int .i64))) (hm : zs.length ≤ 17592186043904) (hz : ∀ z ∈ zs, I64 z) : Ints w.heap.size w v zs :=
  sl1_of_owns h hm (fun i hi hv => ⟨by simp, hz _ (List.getElem_mem hi)⟩)

theorem Ints.i64 {B : Nat} {w : World} {v : Value} {zs : List Int} (h : Ints B w v zs) : ∀ z ∈ zs, I64 z := by
  intro z hz
  obtain ⟨i, hi, rfl⟩ := List.mem_iff_getElem.1 hz
  obtain ⟨_, _, _, _, _, hc⟩ := h
  obtain ⟨_, _, _, _, _, _, hr⟩ := hc i hi
  exact hr.2

theorem Ints.len {B : Nat} {w : World} {v : Value} {zs : List Int} (h : Ints B w v zs) : zs.length ≤ 17592186043904 := by
  obtain ⟨_, _, _, h, _⟩ := h
  exact h

theorem alloc_at {w : World} {o : Obj} {k : Nat} (h : k = w.heap.size) : (w.alloc o).heap[k]? = some o := by subst h; exact heap_alloc_new w o
theorem alloc_lt {w : World} {o : Obj} {k : Nat} (h : k < w.heap.size) : (w.alloc o).heap[k]? = w.heap[k]? := Below.heap_alloc w o k h

/-- 's == nil' at a slice that is not nil, and at the nil slice. -/
theorem eqnil_some {P : Program} {t e : TypeId} (ht : P.underlying t = some (.slice e)) (a : Addr) (n c : Nat) (w : World) : (binOp .eql t (.slice (some a) n c) (.slice none 0 0)).run P w = .ok (.bool false) w := by
  simp only [binOp]
  simp [Op.equal, Op.maxDepth, Lib.run_equalIn_slice_nil w 9999 t e (some a) n c 0 0 ht]
theorem eqnil_none {P : Program} {t e : TypeId} (ht : P.underlying t = some (.slice e)) (n c : Nat) (w : World) : (binOp .eql t (.slice none n c) (.slice none 0 0)).run P w = .ok (.bool true) w := by
  simp only [binOp]
  simp [Op.equal, Op.maxDepth, Lib.run_equalIn_slice_nil w 9999 t e none n c 0 0 ht]

/-! ### What the call itself makes -/
/-- .. at a step of a region that draws its order. -/
theorem step_push {P : Program} (wr : World) {ops : Array Oper} {o : Oper} {a : Act} {K : Act → World → Prop} {Q : Exit → Act → World → Prop} {E : Prop} (hgd : o.guard = none) (s x : Operand) (t : TypeId)
    (ho : o.op = .call { callee := .builtin .append, args := #[s, x], argTypes := #[t, t] })
    (base : Nat) (e : TypeId) (z : Value) (size bytes : Nat) (ht : P.underlying t = some (.slice e)) (hi : (P.info? e).map (fun i => (i.zero, i.size, i.bytes)) = some (some z, size, bytes))
    (hzs : z.cells.size = size) (hsz : 0 < size) (news : List Value) (hl : news.length = size) (h1 : ∀ u ∈ news, u.oneCell' = true)
    (v : Value) (n : Nat) (xs : List Value) (hs : a.eval s = v) (hown : wr.ownsRow base e size v n xs) {H : Nat} (hx : a.eval x = .slice (some ⟨H, 0, none⟩) 1 1) (hH : wr.heap.size = H)
    (hbytes : (n + 1) * bytes ≤ 140737488355328) (hn : n < 9223372036854775807) (hbase : base ≤ wr.heap.size)
    (h : ∀ g cap w', w'.ownsRow base e size (.slice (some ⟨g, 0, none⟩) (n + 1) cap) (n + 1) (xs ++ news) → wr.grownBy w' v.ownBlock → K (a.put o.dst (.slice (some ⟨g, 0, none⟩) (n + 1) cap)) w') :
    if Region.wanted o (yielded ops a.tmps) = true then Oper.wp P o a (wr.alloc (.cells news.toArray e)) K Q else E := by
  subst hH
  rw [if_pos (by simp [Region.wanted, hgd])]
  obtain ⟨i0, hi0, hz0, hz1, hz2⟩ := info_parts hi
  refine wp_append_own (w := wr.alloc (.cells news.toArray e)) s x t ho base e i0 z size bytes ht hi0 hz0 hz1 hz2 hzs hsz v n xs hs (hown.alloc _) ⟨wr.heap.size, 0, none⟩ 1 1 news hx (by omega) ?_ h1 (by unfold maxLen; omega) hbytes (by simp; omega) ?_
  · intro j u hj
    have e1 : (⟨wr.heap.size, 0, none⟩ : Addr).add j = ⟨wr.heap.size, j, none⟩ := by rw [add_plain]; simp
    rw [e1]
    simp only [World.cell?, heap_alloc_new]
    simpa using hj
  · intro v' w' k1 k2 _
    obtain ⟨g, cap, hv⟩ : ∃ g cap, v' = .slice (some ⟨g, 0, none⟩) (n + 1) cap := by
      rcases k1.2 with ⟨_, h0⟩ | ⟨g, cap, _, hv, _⟩
      · omega
      · exact ⟨g, cap, hv⟩
    rw [hv] at k1 ⊢
    refine h g cap w' k1 ⟨k2.os, k2.tape, k2.output, by have := k2.size; simp at this; omega, fun k hk hne => ?_⟩
    rw [k2.block k (by simp; omega) hne]
    exact alloc_lt hk

/-- Two slices of one's own, of other element types, share no block. -/
theorem own_ne {w : World} {base base' : Nat} {e e' : TypeId} {size size' : Nat} {v v' : Value} {n n' : Nat} {xs xs' : List Value} (h : w.ownsRow base e size v n xs) (h' : w.ownsRow base' e' size' v' n' xs') (he : e ≠ e') : v.ownBlock = none ∨ v.ownBlock ≠ v'.ownBlock := by
  rcases h.2 with ⟨rfl, _⟩ | ⟨g, cap, cur, rfl, _, hg, _⟩
  · exact Or.inl rfl
  · right
    rcases h'.2 with ⟨rfl, _⟩ | ⟨g', cap', cur', rfl, _, hg', _⟩
    · simp [Value.ownBlock]
    · intro hk
      simp only [Value.ownBlock, Option.some.injEq] at hk
      subst hk
      rw [hg] at hg'
      simp only [Option.some.injEq, Obj.cells.injEq] at hg'
      exact he hg'.2.1

theorem own_ne_block {w : World} {base : Nat} {e t : TypeId} {size : Nat} {v : Value} {n g : Nat} {xs : List Value} {cs : Array Value} {fr : Nat × Nat} (h : w.ownsRow base e size v n xs) (hg : w.heap[g]? = some (.cells cs t fr)) (he : e ≠ t) : some g ≠ v.ownBlock := by
  rcases h.2 with ⟨rfl, _⟩ | ⟨g', cap, cur, rfl, _, hg', _⟩
  · simp [Value.ownBlock]
  · intro hk
    simp only [Value.ownBlock, Option.some.injEq] at hk
    subst hk
    rw [hg] at hg'
    simp only [Option.some.injEq, Obj.cells.injEq] at hg'
    exact he hg'.2.1.symm

theorem own_shape {w : World} {base : Nat} {e : TypeId} {size : Nat} {v : Value} {n : Nat} {xs : List Value} (h : w.ownsRow base e size v n xs) : ∃ a cap, v = .slice a n cap := by
  rcases h.2 with ⟨rfl, h0⟩ | ⟨g, cap, _, hv, _⟩
  · exact ⟨none, 0, by rw [h0]⟩
  · exact ⟨_, cap, hv⟩

theorem block_below {B : Nat} {w w' : World} (h : Below B w w') {g : Nat} {o : Obj} (hg : w.heap[g]? = some o) (hB : g < B) : w'.heap[g]? = some o := (h.block g hB).trans hg
theorem cell_block {w : World} {g : Nat} {cs : Array Value} {t : TypeId} {fr : Nat × Nat} (h : w.heap[g]? = some (.cells cs t fr)) (i : Nat) : w.cell? ⟨g, i, none⟩ = cs[i]? := by simp [World.cell?, h]
theorem free_block {w : World} {g : Nat} {cs : Array Value} {t : TypeId} (h : w.heap[g]? = some (.cells cs t (0, 0))) (i : Nat) : w.frozen? ⟨g, i, none⟩ = false := by simp [World.frozen?, h]
theorem set_block {w : World} {g i : Nat} {cs : Array Value} {t : TypeId} {fr : Nat × Nat} (h : w.heap[g]? = some (.cells cs t fr)) (v : Value) : (w.setCell ⟨g, i, none⟩ v).heap[g]? = some (.cells (cs.setIfInBounds i v) t fr) := Joins.block_setCell h v
theorem set_block_ne {w : World} {g k i : Nat} {o : Obj} (h : w.heap[k]? = some o) (hne : k ≠ g) (v : Value) : (w.setCell ⟨g, i, none⟩ v).heap[k]? = some o := (Below.heap_setCell w ⟨g, i, none⟩ v k hne).trans h
theorem own_set {w : World} {base : Nat} {e : TypeId} {size : Nat} {v : Value} {n g i : Nat} {xs : List Value} (h : w.ownsRow base e size v n xs) (hne : some g ≠ v.ownBlock) (u : Value) : (w.setCell ⟨g, i, none⟩ u).ownsRow base e size v n xs := by
  obtain ⟨h1, h2⟩ := h
  refine ⟨h1, ?_⟩
  rcases h2 with h2 | ⟨g', cap, cur, hv, hg, hh, r⟩
  · exact Or.inl h2
  · refine Or.inr ⟨g', cap, cur, hv, hg, ?_, r⟩
    rw [Below.heap_setCell _ _ _ _ (by subst hv; intro hk; exact hne (by simp [Value.ownBlock, hk]))]
    exact hh
theorem below_grown {B : Nat} {a w w' : World} {base : Nat} {e : TypeId} {size : Nat} {v : Value} {n : Nat} {xs : List Value} (h : Below B a w) (hown : w.ownsRow base e size v n xs) (hg : w.grownBy w' v.ownBlock) (hB : B ≤ w.heap.size) (hb : B ≤ base) : Below B a w' :=
  h.grown hg hB (fun k hk => Nat.le_trans hb (hown.lt k hk).1)

/-! ### From the reading of an argument -/
/-- Each slice, string of a datum is within the reach. -/
def Fits {H : Type} (P : Program) (t : TypeId) (d : DataW H) : Prop := ∀ x ∈ d.weights P t, x ≤ reachBytes

section
variable {H : Type} {enc : TypeId × Value → H} {P : Program} {w : World} {held : Bool}

theorem fits_at {ts : List TypeId} {ds : List (DataW H)} (h : (DataW.weightsEach P ts ds).all (· ≤ reachBytes) = true) {j : Nat} {t : TypeId} {d : DataW H} (ht : ts[j]? = some t) (hd : ds[j]? = some d) : Fits P t d := by
  intro x hx
  have := List.all_eq_true.1 h _ (DataW.weights_mem_each ht hd x hx)
  simpa using this

theorem fits_slice {t e : TypeId} {elems spare : List (DataW H)} (ht : P.underlying t = some (.slice e)) (h : Fits P t (.slice elems spare)) : (elems.length + spare.length) * P.bytesOf e ≤ reachBytes ∧ (∀ d ∈ elems, Fits P e d) := by
  unfold Fits at h
  simp only [DataW.weights, ht] at h
  refine ⟨h _ (List.mem_cons_self ..), fun d hd x hx => h x (List.mem_cons_of_mem _ (List.mem_append_left _ ?_))⟩
  clear h
  induction elems with
  | nil => cases hd
  | cons y ys ih =>
    simp only [DataW.weightsAll, List.mem_append]
    rcases List.mem_cons.1 hd with rfl | hd
    · exact Or.inl hx
    · exact Or.inr (ih hd)

theorem fits_struct {t : TypeId} {fs : Array Field} {parts : List (DataW H)} (ht : P.underlying t = some (.struct fs)) (h : Fits P t (.agg parts)) : ∀ (j : Nat) (f : Field) (d : DataW H), fs[j]? = some f → parts[j]? = some d → Fits P f.type d := by
  intro j f d hf hd x hx
  refine h x ?_
  simp only [DataW.weights, ht]
  exact DataW.weights_mem_each (j := j) (by simp [hf]) hd x hx

theorem open_slN {α : Type} {t e : TypeId} (nc m bytes : Nat) (hnc : 0 < nc) (ht : P.underlying t = some (.slice e)) (hc : P.cellsOf e = nc) (hby : P.bytesOf e = bytes) (hmb : ∀ n, n * bytes ≤ reachBytes → n ≤ m) (R : List Value → α → Prop)
    (hR : ∀ n cs d p, DataW.trod enc P w 0 (fun _ => true) held n e cs = some (d, p) → cs.length = nc → Fits P e d → ∃ x, R cs x)
    {n : Nat} {v : Value} {d : DataW H} {p : List MemPlace} (h : DataW.trod enc P w 0 (fun _ => true) held n t [v] = some (d, p)) (hf : Fits P t d) : ∃ xs, SlN nc m w.heap.size w R v xs := by
  rcases open_slice ht h with ⟨h0, _⟩ | ⟨a, len, cap, m', n', D, Pl, h0, _, hl, hm, hmm, hx, hel⟩
  · injection h0 with h0 _
    subst h0
    exact ⟨[], SlN.nil _ _ _ _ _⟩
  · injection h0 with h0 _
    subst h0
    simp only [if_true] at hmm
    injection hx with hd hp
    subst hd
    obtain ⟨hw, hfe⟩ := fits_slice ht hf
    rw [hby] at hw
    rw [hc] at hel
    have hlen : len ≤ m := hmb _ (by
      refine Nat.le_trans (Nat.mul_le_mul_right _ ?_) hw
      simp)
    have hex : ∀ i, i < len → ∃ q : List Value × α, w.cells? 0 (a.add (i * nc)) nc = some q.1 ∧ q.1.length = nc ∧ R q.1 q.2 := fun i hi => by
      obtain ⟨cs', h1, h2⟩ := hel i (by omega)
      obtain ⟨_, hlen', _⟩ := World.cells?_some h1
      obtain ⟨x, hx⟩ := hR _ _ _ _ h2 hlen' (hfe _ (List.mem_map.2 ⟨i, by simpa using hi, rfl⟩))
      exact ⟨(cs', x), h1, hlen', hx⟩
    have hxs : ∃ qs : List (List Value × α), qs.length = len ∧ ∀ i (h : i < qs.length), w.cells? 0 (a.add (i * nc)) nc = some qs[i].1 ∧ qs[i].1.length = nc ∧ R qs[i].1 qs[i].2 := by
      clear hel hfe hw hf h hmm hlen hl
      induction len with
      | zero => exact ⟨[], rfl, fun i h => absurd h (Nat.not_lt_zero _)⟩
      | succ k ih =>
        obtain ⟨xs, h1, h2⟩ := ih (fun i hi => hex i (by omega))
        obtain ⟨x, hx⟩ := hex k (by omega)
        refine ⟨xs ++ [x], by simp [h1], fun i hi => ?_⟩
        rw [List.getElem_append]
        split
        · exact h2 i ‹_›
        · have : i = k := by simp at hi; omega
          subst this
          simpa using hx
    obtain ⟨qs, h1, h2⟩ := hxs
    subst h1
    refine ⟨qs.map (·.2), some a, cap, by simp, by simpa using hlen, by simpa using hl, fun i hi => ?_⟩
    have hi' : i < qs.length := by simpa using hi
    obtain ⟨k1, k2, k3⟩ := h2 i hi'
    have h00 := (h2 0 (by omega)).1
    obtain ⟨b, off, spot⟩ := a
    have hc0 := (World.cells?_some h00).2.2 0 hnc
    simp only [Nat.zero_mul, Addr.add, if_true] at hc0
    have hsp : spot = none := by
      have hlt0 : 0 < qs[0].1.length := by rw [(h2 0 (by omega)).2.1]; exact hnc
      rw [List.getElem?_eq_getElem hlt0] at hc0
      simpa using World.cell?_spot hc0
    subst hsp
    have hcs := (World.cells?_some k1).2.2
    have hcells : ∀ j (hj : j < qs[i].1.length), w.cell? ⟨b, off + i * nc + j, none⟩ = some qs[i].1[j] := by
      intro j hj
      have := hcs j (by omega)
      rw [add_plain, add_plain] at this
      rw [this, List.getElem?_eq_getElem hj]
    refine ⟨b, off, qs[i].1, rfl, ?_, k2, hcells, ?_⟩
    · have := hcells 0 (by omega)
      exact World.block_lt_of_cell? w _ this
    · simpa using k3

theorem open_intV {e : TypeId} (he : P.underlying e = some (.int .i64)) {n : Nat} {v : Value} {d : DataW H} {p : List MemPlace} (h : DataW.trod enc P w 0 (fun _ => true) held n e [v] = some (d, p)) : ∃ z, IntV v z := by
  obtain ⟨a, e0, _, wa⟩ := DataW.trod_int he h
  simp only [List.cons.injEq, and_true] at e0
  refine ⟨a, e0, ?_⟩
  simp [Lit.wf, IntKind.min, IntKind.max, IntKind.signed, IntKind.bits] at wa
  unfold I64
  omega

/-- A struct of one-cell fields, by its cells. -/
theorem open_cells {fs : Array Field} {t : TypeId} {cs : List Value} {n : Nat} {d : DataW H} {p : List MemPlace} (hs : P.underlying t = some (.struct fs)) (hone : oneCellFields P fs = true)
    (h : DataW.trod enc P w 0 (fun _ => true) held n t cs = some (d, p)) (hf : Fits P t d) :
    cs.length = P.cellsOf t ∧ ∃ k, ∀ (i : Nat) (f : Field), fs[i]? = some f → ∃ d' p', DataW.trod enc P w 0 (fun _ => true) held k f.type ((cs.drop i).take 1) = some (d', p') ∧ Fits P f.type d' := by
  obtain ⟨xs, k, _, hx, hl, hxl, hfs⟩ := DataW.trod_struct hs h
  refine ⟨hl, k, fun i f hi => ?_⟩
  obtain ⟨o, c⟩ := hone_of hone i f hi
  have h1 := hfs i f hi
  rw [o, c] at h1
  have hlt : i < xs.length := by rw [hxl]; exact (Array.getElem?_eq_some_iff.1 hi).1
  rw [List.getElem?_eq_getElem hlt] at h1
  simp only [Prod.mk.injEq] at hx
  refine ⟨xs[i].1, xs[i].2, h1, ?_⟩
  rw [hx.1] at hf
  exact fits_struct hs hf i f xs[i].1 hi (by simp [hlt])

theorem len4 {α : Type} {l : List α} (h : l.length = 4) : ∃ a b c d, l = [a, b, c, d] := by
  match l, h with
  | [a, b, c, d], _ => exact ⟨a, b, c, d, rfl⟩
end

end Go.Proofs.Ytpmdlmgmfggioaa
namespace Go.Proofs.Ytpmdlmgmfggioaa
open Go Go.RowKit Go.ChangeShapes Go.WideShapes Go.Deep
set_option linter.unusedVariables false

section
variable {H : Type} {enc : TypeId × Value → H} {w : World} {held : Bool}

/-- Frames: their words, and how many know each one. -/
def FramesR (B : Nat) (w : World) (v : Value) (rs : List (List Int)) (zs : List Int) : Prop := ∃ vd vr, v = .agg #[vd, vr] ∧ RowsR B w vd rs ∧ Ints B w vr zs

end
end Go.Proofs.Ytpmdlmgmfggioaa
namespace Go.Proofs.Ytpmdlmgmfggioaa
open Go Go.RowKit Go.ChangeShapes Go.WideShapes Go.Deep
set_option linter.unusedVariables false

theorem ret_bool {a b : Bool} (h : a = b) : Ending.returned (.bool a) = .returned (.bool b) := by rw [h]
theorem ret_int {k : IntKind} {a b : Int} (h : a = b) : Ending.returned (.int k a) = .returned (.int k b) := by rw [h]

/-- n new numbers, all 0. -/
def zeroInts (n : Nat) : Array Value := madeCells #[.int .i64 0] n
theorem zeroInts_size (n : Nat) : (zeroInts n).size = n := size_madeCells _ _
theorem zeroInts_list (n : Nat) : (zeroInts n).toList = List.replicate n (.int .i64 0) := toList_madeCells_one _ _
/-- n new slices, all nil. -/
def nilRows (n : Nat) : Array Value := madeCells #[.slice none 0 0] n
theorem nilRows_size (n : Nat) : (nilRows n).size = n := size_madeCells _ _
theorem nilRows_list (n : Nat) : (nilRows n).toList = List.replicate n (.slice none 0 0) := toList_madeCells_one _ _
theorem info_int : (Try.prog.info? 3).map (fun i => (i.zero, i.size, i.bytes)) = some (some (.int .i64 0), 1, 8) := by kernel_rfl
theorem info_ints : (Try.prog.info? 24).map (fun i => (i.zero, i.size, i.bytes)) = some (some (.slice none 0 0), 1, 24) := by kernel_rfl
theorem mk_ints (n : Int) (h0 : 0 ≤ n) (h1 : n ≤ 1000000) (w : World) : (Instr.makeSlice 24 (.int .i64 n) (.int .i64 n)).run Try.prog w = .ok (.slice (some ⟨w.heap.size, 0, none⟩) n.toNat n.toNat) (w.alloc (.cells (zeroInts n.toNat) 3)) := by
  obtain ⟨i0, hi, hz0, hz1, hz2⟩ := info_parts info_int
  have h := run_make (P := Try.prog) w 24 3 i0 (.int .i64 0) Try.underlying24 hi hz0 .i64 .i64 n n h0 (Int.le_refl _) (by rw [hz2]; omega) (by omega)
  rw [h, hz1, Nat.mul_one]
  rfl

theorem mk_rows (n : Int) (h0 : 0 ≤ n) (h1 : n ≤ 1000000) (w : World) : (Instr.makeSlice 38 (.int .i64 n) (.int .i64 n)).run Try.prog w = .ok (.slice (some ⟨w.heap.size, 0, none⟩) n.toNat n.toNat) (w.alloc (.cells (nilRows n.toNat) 24)) := by
  obtain ⟨i0, hi, hz0, hz1, hz2⟩ := info_parts info_ints
  have h := run_make (P := Try.prog) w 38 24 i0 (.slice none 0 0) Try.underlying38 hi hz0 .i64 .i64 n n h0 (Int.le_refl _) (by rw [hz2]; omega) (by omega)
  rw [h, hz1, Nat.mul_one]
  rfl

end Go.Proofs.Ytpmdlmgmfggioaa
namespace Go.Proofs.Ytpmdlmgmfggioaa
open Go Go.RowKit

theorem wrap_id {x : Int} (h : -9223372036854775808 ≤ x ∧ x ≤ 9223372036854775807) : wrap64 x = x := by unfold wrap64; omega
end Go.Proofs.Ytpmdlmgmfggioaa
