/- What a call leaves as it was, but for some blocks; a guest's core in memory. No condition beyond the readings. -/
import Derived.Test.YtbenfbfbohecmaaSz
import Derived.Deep.AppendLies
namespace Go.Proofs.Ytbenfbfbohecmaa
open Go Go.RowKit Go.ChangeShapes Go.WideShapes Go.Deep
set_option linter.unusedVariables false

/-- All blocks that were there are as they were, but for those of F. -/
structure OutF (F : Nat → Prop) (w w' : World) : Prop where
  os : w'.os = w.os
  tape : w'.tape = w.tape
  output : w'.output = w.output
  size : w.heap.size ≤ w'.heap.size
  block : ∀ g, g < w.heap.size → ¬ F g → w'.heap[g]? = w.heap[g]?
theorem OutF.refl (F : Nat → Prop) (w : World) : OutF F w w := ⟨rfl, rfl, rfl, Nat.le_refl _, fun _ _ _ => rfl⟩
theorem OutF.trans {F G : Nat → Prop} {a b c : World} (h : OutF F a b) (k : OutF G b c) (hG : ∀ g, G g → F g ∨ a.heap.size ≤ g) : OutF F a c :=
  ⟨k.os.trans h.os, k.tape.trans h.tape, k.output.trans h.output, Nat.le_trans h.size k.size, fun g hg hF =>
    (k.block g (Nat.lt_of_lt_of_le hg h.size) (fun x => (hG g x).elim hF (fun y => by omega))).trans (h.block g hg hF)⟩
theorem OutF.mono {F G : Nat → Prop} {a b : World} (h : OutF F a b) (hG : ∀ g, F g → G g) : OutF G a b :=
  ⟨h.os, h.tape, h.output, h.size, fun g hg hF => h.block g hg (fun x => hF (hG g x))⟩
theorem OutF.alloc {F : Nat → Prop} {a w : World} (h : OutF F a w) (o : Obj) : OutF F a (w.alloc o) :=
  h.trans (G := fun _ => False) ⟨rfl, rfl, rfl, by simp, fun g hg _ => Below.heap_alloc _ _ _ hg⟩ (fun _ x => x.elim)
theorem OutF.drewN {F : Nat → Prop} {a w : World} (h : OutF F a w) (n : Nat) : OutF F a (w.drewN n) := ⟨h.os, h.tape, h.output, h.size, h.block⟩
theorem OutF.setCell {F : Nat → Prop} {a w : World} (h : OutF F a w) {g i : Nat} (hp : F g ∨ a.heap.size ≤ g) (u : Value) : OutF F a (w.setCell ⟨g, i, none⟩ u) :=
  h.trans (G := fun k => k = g) ⟨rfl, rfl, rfl, by simp [World.setCell], fun k _ hk => Below.heap_setCell _ _ _ _ hk⟩ (fun k e => by subst e; exact hp)
theorem OutF.grown {F : Nat → Prop} {a w w' : World} {row : Option Nat} (h : OutF F a w) (hg : w.grownBy w' row) (hr : ∀ k, row = some k → F k ∨ a.heap.size ≤ k) : OutF F a w' :=
  h.trans (G := fun k => row = some k) ⟨hg.os, hg.tape, hg.output, hg.size, fun k hk hn => hg.block k hk (fun e => hn e.symm)⟩ hr
theorem OutF.below {F : Nat → Prop} {B : Nat} {w w' : World} (h : OutF F w w') (hF : ∀ g, F g → B ≤ g) (hB : B ≤ w.heap.size) : Below B w w' :=
  ⟨h.os, h.tape, h.output, h.size, fun g hg => h.block g (by omega) (fun x => by have := hF g x; omega)⟩
theorem OutF.of {w w' : World} (h : Below w.heap.size w w') (F : Nat → Prop) : OutF F w w' := ⟨h.os, h.tape, h.output, h.size, fun g hg _ => h.block g hg⟩
theorem OutF.at {F : Nat → Prop} {w w' : World} (h : OutF F w w') {g : Nat} {o : Obj} (hg : w.heap[g]? = some o) (hF : ¬ F g) : w'.heap[g]? = some o :=
  (h.block g (Array.getElem?_eq_some_iff.1 hg).1 hF).trans hg
theorem own_out {F : Nat → Prop} {w w' : World} {b : Nat} {t : TypeId} {s : Nat} {v : Value} {n : Nat} {xs : List Value} (h : w.ownsRow b t s v n xs) (k : OutF F w w') (hv : ∀ g, v.ownBlock = some g → ¬ F g) : w'.ownsRow b t s v n xs := by
  obtain ⟨h1, h2⟩ := h
  refine ⟨h1, ?_⟩
  rcases h2 with h2 | ⟨g, cap, cur, rfl, hg, hh, r⟩
  · exact Or.inl h2
  · exact Or.inr ⟨g, cap, cur, rfl, hg, k.at hh (hv g rfl), r⟩

/-- A memory of a guest: a value v of the dynamic type t; its calls Load and Store; how it lies in a world: the blocks F, the words mem, whether a store was refused. -/
structure MemI (t : TypeId) (fL fS : FuncId) (v : Value) (St : World → (Nat → Prop) → List Int → Bool → Prop) : Prop where
  nL : ∀ w, (nilAhead 188 t v "Load").run Try.prog w = .ok (some false) w
  mL : ∀ w, (method 188 t v "Load").run Try.prog w = .ok (fL, v) w
  eL : ∀ args w, (callFunc fL args).run Try.prog w = .ok (.enter fL args) w
  eS : ∀ args w, (callFunc fS args).run Try.prog w = .ok (.enter fS args) w
  nS : ∀ w, (nilAhead 188 t v "Store").run Try.prog w = .ok (some false) w
  mS : ∀ w, (method 188 t v "Store").run Try.prog w = .ok (fS, v) w
  load : ∀ w F mem x at_, St w F mem x → 0 ≤ at_ → at_ < 256 → Calls Try.prog fL #[v, .int .i64 at_] w fun e w' => e = .returned (.tuple #[.int .i64 (mem.getD at_.toNat 0), .bool true]) ∧ ∃ n, w' = w.drewN n
  store : ∀ w F mem x at_ z, St w F mem x → 0 ≤ at_ → at_ < 256 → WordZ z → Calls Try.prog fS #[v, .int .i64 at_, .int .i64 z] w fun e w' => OutF F w w' ∧ ∃ F', (∀ g, F' g → F g ∨ w.heap.size ≤ g) ∧ ((e = .returned (.bool true) ∧ St w' F' (mem.set at_.toNat z) x) ∨ (e = .returned (.bool false) ∧ St w' F' mem true))
  stay : ∀ w w' F mem x, St w F mem x → (∀ g, F g → w'.heap[g]? = w.heap[g]?) → w.heap.size ≤ w'.heap.size → St w' F mem x
  lt : ∀ w F mem x, St w F mem x → ∀ g, F g → g < w.heap.size
end Go.Proofs.Ytbenfbfbohecmaa
