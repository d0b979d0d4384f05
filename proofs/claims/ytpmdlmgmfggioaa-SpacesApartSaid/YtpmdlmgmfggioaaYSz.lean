/- Several texts joined, each with its own heading in the notes: A step of a guest, in plain Lean: what cpu. What a call leaves as it was, but for some blocks; a guest's core in memory. No condition beyond those of each row. -/
import Derived.Test.YtpmdlmgmfggioaaYCm
import Derived.Test.YtpmdlmgmfggioaaYMem
import Derived.Deep.AppendLies
namespace Go.Proofs.Ytpmdlmgmfggioaa
open Go Go.RowKit
set_option linter.unusedVariables false

def WordZ (z : Int) : Prop := -1099511627776 ≤ z ∧ z ≤ 1099511627776
theorem WordZ.i64 {z : Int} (h : WordZ z) : I64 z := by unfold WordZ at h; unfold I64; omega
theorem words_of {zs : List Int} (h : zs.any oddB = false) : ∀ z ∈ zs, WordZ z := by
  intro z hz
  cases ho : oddB z with
  | false => exact odd_iff ho
  | true =>
    have : zs.any oddB = true := List.any_eq_true.2 ⟨z, hz, ho⟩
    rw [h] at this; cases this
theorem of_words {zs : List Int} (h : ∀ z ∈ zs, WordZ z) : zs.any oddB = false := by
  cases e : zs.any oddB with
  | false => rfl
  | true =>
    obtain ⟨z, hz, ho⟩ := List.any_eq_true.1 e
    rw [odd_false (h z hz)] at ho; cases ho
def enterM (m : Mach) : Mach := if m.wait = true ∧ m.ints = true ∧ m.fin = 0 then { m with wait := false, ints := false, back := m.pc, pc := 8 } else m
/-- A page that is laid over memory. -/
def blit (mem : List Int) (k : Nat) (b : List Int) : List Int := mem.take k ++ b ++ mem.drop (k + b.length)
def comesM (m : Mach) (b : List Int) : Mach := if m.want < 0 ∨ m.fin ≠ 0 then m else { m with mem := blit m.mem (m.want * 16).toNat b, want := -1, ready := 1, wait := true }
def blockM (m : Mach) (b : List Int) : Mach := if b.length = 0 then m else comesM m b
theorem blit_len {mem : List Int} {k : Nat} {b : List Int} (h : k + b.length ≤ mem.length) : (blit mem k b).length = mem.length := by
  unfold blit; simp; omega
theorem blit_word {mem : List Int} {k : Nat} {b : List Int} {P : Int → Prop} (h : ∀ z ∈ mem, P z) (hb : ∀ z ∈ b, P z) : ∀ z ∈ blit mem k b, P z := by
  intro z hz
  unfold blit at hz
  rcases List.mem_append.1 hz with hz | hz
  · rcases List.mem_append.1 hz with hz | hz
    · exact h z (List.mem_of_mem_take hz)
    · exact hb z hz
  · exact h z (List.mem_of_mem_drop hz)
/-! ### A guest that may be stays one -/
theorem MOk.comes {m : Mach} (h : MOk m) {b : List Int} (hb : b.length = 16) (hw : ∀ z ∈ b, WordZ z) : MOk (comesM m b) := by
  unfold comesM; split
  · exact h
  · rename_i hn
    have h1 := h.want
    have h2 := h.mem
    exact ⟨h.regs, by show (blit _ _ _).length = 256; rw [blit_len (by omega)]; exact h.mem, h.out, h.wr, of_words (blit_word (words_of h.wm) hw), h.wo, h.pc, h.back, h.table, h.count, h.fin, by show (0:Int) ≤ 1 ∧ (1:Int) ≤ 1; omega, by show (-1:Int) ≤ -1 ∧ (-1:Int) < 16; omega⟩
theorem MOk.block {m : Mach} (h : MOk m) {b : List Int} (hb : b.length = 0 ∨ b.length = 16) (hw : ∀ z ∈ b, WordZ z) : MOk (blockM m b) := by
  unfold blockM; split
  · exact h
  · exact h.comes (by omega) hw
theorem MOk.enter {m : Mach} (h : MOk m) : MOk (enterM m) := by
  unfold enterM; split
  · exact ⟨h.regs, h.mem, h.out, h.wr, h.wm, h.wo, by show -1099511627776 ≤ (8:Int) ∧ (8:Int) ≤ 1099511627776; omega, h.pc, h.table, h.count, h.fin, h.ready, h.want⟩
  · exact h
theorem MOk.wants {m : Mach} (h : MOk m) {v : Int} (h0 : 0 ≤ v) (h1 : v < 16) : MOk { m with want := v, ready := 0 } :=
  ⟨h.regs, h.mem, h.out, h.wr, h.wm, h.wo, h.pc, h.back, h.table, h.count, h.fin, by show (0:Int) ≤ 0 ∧ (0:Int) ≤ 1; omega, by show -1 ≤ v ∧ v < 16; omega⟩
end Go.Proofs.Ytpmdlmgmfggioaa
namespace Go.Proofs.Ytpmdlmgmfggioaa
open Go Go.RowKit Go.ChangeShapes Go.WideShapes Go.Deep
set_option linter.unusedVariables false

/-- All blocks that were there are as they were, but for those of F. -/
structure OutF (F : Nat → Prop) (w w' : World) : Prop where
  os : w'.os = w.os
  tape : w'.tape = w.tape
  output : w'.output = w.output
  size : w.heap.size ≤ w'.heap.size
  block : ∀ g, g < w.heap.size → ¬ F g → w'.heap[g]? = w.heap[g]?
theorem OutF.refl (F : Nat → Prop) (w : World) : OutF F w w := ⟨rfl, rfl, rfl, Nat.le_refl _, fun _ _ _ => rfl⟩
theorem OutF.trans {F G : Nat → Prop} {a b c : World} (h : OutF F a b) (k : OutF G b c) (hG : ∀ g, G g → F g ∨ a.heap.size ≤ g) : OutF F a c :=
  ⟨k.os.trans h.os, k.tape.trans h.tape, k.output.trans h.output, Nat.le_trans h.size k.size, fun g hg hF =>
    (k.block g (Nat.lt_of_lt_of_le hg h.size) (fun x => (hG g x).elim hF (fun y => by omega))).trans (h.block g hg hF)⟩
theorem OutF.mono {F G : Nat → Prop} {a b : World} (h : OutF F a b) (hG : ∀ g, F g → G g) : OutF G a b :=
  ⟨h.os, h.tape, h.output, h.size, fun g hg hF => h.block g hg (fun x => hF (hG g x))⟩
theorem OutF.alloc {F : Nat → Prop} {a w : World} (h : OutF F a w) (o : Obj) : OutF F a (w.alloc o) :=
  h.trans (G := fun _ => False) ⟨rfl, rfl, rfl, by simp, fun g hg _ => Below.heap_alloc _ _ _ hg⟩ (fun _ x => x.elim)
theorem OutF.drewN {F : Nat → Prop} {a w : World} (h : OutF F a w) (n : Nat) : OutF F a (w.drewN n) := ⟨h.os, h.tape, h.output, h.size, h.block⟩
theorem OutF.setCell {F : Nat → Prop} {a w : World} (h : OutF F a w) {g i : Nat} (hp : F g ∨ a.heap.size ≤ g) (u : Value) : OutF F a (w.setCell ⟨g, i, none⟩ u) :=
  h.trans (G := fun k => k = g) ⟨rfl, rfl, rfl, by simp [World.setCell], fun k _ hk => Below.heap_setCell _ _ _ _ hk⟩ (fun k e => by subst e; exact hp)
theorem OutF.grown {F : Nat → Prop} {a w w' : World} {row : Option Nat} (h : OutF F a w) (hg : w.grownBy w' row) (hr : ∀ k, row = some k → F k ∨ a.heap.size ≤ k) : OutF F a w' :=
  h.trans (G := fun k => row = some k) ⟨hg.os, hg.tape, hg.output, hg.size, fun k hk hn => hg.block k hk (fun e => hn e.symm)⟩ hr
theorem OutF.below {F : Nat → Prop} {B : Nat} {w w' : World} (h : OutF F w w') (hF : ∀ g, F g → B ≤ g) (hB : B ≤ w.heap.size) : Below B w w' :=
  ⟨h.os, h.tape, h.output, h.size, fun g hg => h.block g (by omega) (fun x => by have := hF g x; omega)⟩
theorem OutF.of {w w' : World} (h : Below w.heap.size w w') (F : Nat → Prop) : OutF F w w' := ⟨h.os, h.tape, h.output, h.size, fun g hg _ => h.block g hg⟩
theorem OutF.at {F : Nat → Prop} {w w' : World} (h : OutF F w w') {g : Nat} {o : Obj} (hg : w.heap[g]? = some o) (hF : ¬ F g) : w'.heap[g]? = some o :=
  (h.block g (Array.getElem?_eq_some_iff.1 hg).1 hF).trans hg
/-- A memory of a guest: a value v of the dynamic type t; its calls Load and Store; how it lies in a world: the blocks F, the words mem, whether a store was refused. -/
structure MemI (t : TypeId) (fL fS : FuncId) (v : Value) (St : World → (Nat → Prop) → List Int → Bool → Prop) : Prop where
  nL : ∀ w, (nilAhead 186 t v "Load").run Try.prog w = .ok (some false) w
  mL : ∀ w, (method 186 t v "Load").run Try.prog w = .ok (fL, v) w
  eL : ∀ args w, (callFunc fL args).run Try.prog w = .ok (.enter fL args) w
  eS : ∀ args w, (callFunc fS args).run Try.prog w = .ok (.enter fS args) w
  nS : ∀ w, (nilAhead 186 t v "Store").run Try.prog w = .ok (some false) w
  mS : ∀ w, (method 186 t v "Store").run Try.prog w = .ok (fS, v) w
  load : ∀ w F mem x at_, St w F mem x → 0 ≤ at_ → at_ < 256 → Calls Try.prog fL #[v, .int .i64 at_] w fun e w' => e = .returned (.tuple #[.int .i64 (mem.getD at_.toNat 0), .bool true]) ∧ ∃ n, w' = w.drewN n
  store : ∀ w F mem x at_ z, St w F mem x → 0 ≤ at_ → at_ < 256 → WordZ z → Calls Try.prog fS #[v, .int .i64 at_, .int .i64 z] w fun e w' => OutF F w w' ∧ ∃ F', (∀ g, F' g → F g ∨ w.heap.size ≤ g) ∧ ((e = .returned (.bool true) ∧ St w' F' (mem.set at_.toNat z) x) ∨ (e = .returned (.bool false) ∧ St w' F' mem true))
  stay : ∀ w w' F mem x, St w F mem x → (∀ g, F g → w'.heap[g]? = w.heap[g]?) → w.heap.size ≤ w'.heap.size → St w' F mem x
  lt : ∀ w F mem x, St w F mem x → ∀ g, F g → g < w.heap.size
end Go.Proofs.Ytpmdlmgmfggioaa
