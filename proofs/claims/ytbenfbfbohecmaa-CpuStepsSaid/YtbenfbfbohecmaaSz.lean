/- A step of a guest, in plain Lean: what cpu.Step and the document's SteppedOf both answer. No program in sight. -/
import Derived.Test.YtbenfbfbohecmaaCm
import Derived.Test.YtbenfbfbohecmaaCpu2
namespace Go.Proofs.Ytbenfbfbohecmaa
open Go Go.RowKit
set_option linter.unusedVariables false

def WordZ (z : Int) : Prop := -1099511627776 ≤ z ∧ z ≤ 1099511627776
theorem WordZ.i64 {z : Int} (h : WordZ z) : I64 z := by unfold WordZ at h; unfold I64; omega
theorem words_of {zs : List Int} (h : zs.any oddB = false) : ∀ z ∈ zs, WordZ z := by
  intro z hz
  cases ho : oddB z with
  | false => exact odd_iff ho
  | true =>
    have : zs.any oddB = true := List.any_eq_true.2 ⟨z, hz, ho⟩
    rw [h] at this; cases this
theorem of_words {zs : List Int} (h : ∀ z ∈ zs, WordZ z) : zs.any oddB = false := by
  cases e : zs.any oddB with
  | false => rfl
  | true =>
    obtain ⟨z, hz, ho⟩ := List.any_eq_true.1 e
    rw [odd_false (h z hz)] at ho; cases ho
theorem mem_getD {zs : List Int} {P : Int → Prop} (h : ∀ z ∈ zs, P z) (h0 : P 0) (k : Nat) : P (zs.getD k 0) := by
  rw [List.getD_eq_getElem?_getD]
  cases e : zs[k]? with
  | none => exact h0
  | some x => exact h x (List.mem_of_getElem? e)
theorem mem_set {zs : List Int} {P : Int → Prop} (h : ∀ z ∈ zs, P z) {x : Int} (hx : P x) (k : Nat) : ∀ z ∈ zs.set k x, P z := by
  intro z hz
  rcases List.mem_or_eq_of_mem_set hz with hz | rfl
  · exact h z hz
  · exact hx

/-- The place of a word that an address means, and how the guest ends. -/
def placeZ (table : Int) (mem : List Int) (at_ : Int) (write : Bool) : Int × Int :=
  if at_ < 0 ∨ 256 ≤ at_ then (0, 3) else
  if table < 0 then (at_, 0) else
  if mem.getD (table * 16 + at_ / 16).toNat 0 < 32 ∨ 63 < mem.getD (table * 16 + at_ / 16).toNat 0 ∨ (write = true ∧ mem.getD (table * 16 + at_ / 16).toNat 0 < 48) then (0, 4) else
  (mem.getD (table * 16 + at_ / 16).toNat 0 % 16 * 16 + at_ % 16, 0)
theorem placeZ_far {table : Int} {mem : List Int} {at_ : Int} {write : Bool} (h : at_ < 0 ∨ 256 ≤ at_) : placeZ table mem at_ write = (0, 3) := by unfold placeZ; rw [if_pos h]
theorem placeZ_flat {table : Int} {mem : List Int} {at_ : Int} {write : Bool} (h : ¬ (at_ < 0 ∨ 256 ≤ at_)) (ht : table < 0) : placeZ table mem at_ write = (at_, 0) := by unfold placeZ; rw [if_neg h, if_pos ht]
theorem placeZ_bad {table : Int} {mem : List Int} {at_ : Int} {write : Bool} (h : ¬ (at_ < 0 ∨ 256 ≤ at_)) (ht : ¬ table < 0) (hx : mem.getD (table * 16 + at_ / 16).toNat 0 < 32 ∨ 63 < mem.getD (table * 16 + at_ / 16).toNat 0 ∨ (write = true ∧ mem.getD (table * 16 + at_ / 16).toNat 0 < 48)) : placeZ table mem at_ write = (0, 4) := by
  unfold placeZ; rw [if_neg h, if_neg ht, if_pos hx]
theorem placeZ_good {table : Int} {mem : List Int} {at_ : Int} {write : Bool} (h : ¬ (at_ < 0 ∨ 256 ≤ at_)) (ht : ¬ table < 0) (hx : ¬ (mem.getD (table * 16 + at_ / 16).toNat 0 < 32 ∨ 63 < mem.getD (table * 16 + at_ / 16).toNat 0 ∨ (write = true ∧ mem.getD (table * 16 + at_ / 16).toNat 0 < 48))) : placeZ table mem at_ write = (mem.getD (table * 16 + at_ / 16).toNat 0 % 16 * 16 + at_ % 16, 0) := by
  unfold placeZ; rw [if_neg h, if_neg ht, if_neg hx]
/-- A place lies in memory, and how it ends is 0, 3 or 4. -/
theorem placeZ_bd (table : Int) (mem : List Int) (at_ : Int) (write : Bool) : 0 ≤ (placeZ table mem at_ write).1 ∧ (placeZ table mem at_ write).1 < 256 ∧ ((placeZ table mem at_ write).2 = 0 ∨ (placeZ table mem at_ write).2 = 3 ∨ (placeZ table mem at_ write).2 = 4) := by
  unfold placeZ
  generalize mem.getD (table * 16 + at_ / 16).toNat 0 = x
  split
  · simp
  · split
    · simp; omega
    · split
      · simp
      · simp; omega

def Mach.reg (m : Mach) (a : Int) : Int := m.regs.getD a.toNat 0
def Mach.setReg (m : Mach) (a v : Int) : Mach := { m with regs := m.regs.set a.toNat v }
def Mach.goTo (m : Mach) (pc : Int) : Mach := { m with pc := foldZ pc }

/-- What an instruction does: the guest (its count and its end aside), how it ends, the word that it wrote. -/
def doM (m : Mach) (op a b n value : Int) : Mach × Int × Int :=
  if op = 0 then (m, 1, -1)
  else if op = 1 then ((m.setReg a n).goTo (m.pc + 1), 0, -1)
  else if op = 2 then ((m.setReg a (foldZ (m.reg b + m.reg n))).goTo (m.pc + 1), 0, -1)
  else if op = 3 then ((m.setReg a (foldZ (m.reg b - m.reg n))).goTo (m.pc + 1), 0, -1)
  else if op = 4 then ((m.setReg a (foldZ (m.reg b + n))).goTo (m.pc + 1), 0, -1)
  else if op = 5 then
    if (placeZ m.table m.mem (m.reg b + n) false).2 = 0 then ((m.setReg a (m.mem.getD (placeZ m.table m.mem (m.reg b + n) false).1.toNat 0)).goTo (m.pc + 1), 0, -1) else (m, (placeZ m.table m.mem (m.reg b + n) false).2, -1)
  else if op = 6 then
    if (placeZ m.table m.mem (m.reg b + n) true).2 = 0 then ((({ m with mem := m.mem.set (placeZ m.table m.mem (m.reg b + n) true).1.toNat (m.reg a) } : Mach)).goTo (m.pc + 1), 0, (placeZ m.table m.mem (m.reg b + n) true).1) else (m, (placeZ m.table m.mem (m.reg b + n) true).2, -1)
  else if op = 7 then (m.goTo (if m.reg a = 0 then m.pc + n else m.pc + 1), 0, -1)
  else if op = 8 then (m.goTo (if m.reg a < 0 then m.pc + n else m.pc + 1), 0, -1)
  else if op = 9 then (m.goTo (m.pc + n), 0, -1)
  else if op = 10 then
    if n = 0 ∨ n = 1 then ((m.setReg a value).goTo (m.pc + 1), 0, -1)
    else if n = 2 then ((m.setReg a m.ready).goTo (m.pc + 1), 0, -1)
    else (m, 3, -1)
  else if op = 11 then
    if n = 3 then ((({ m with out := if m.out.length < 200 then m.out ++ [m.reg a] else m.out } : Mach)).goTo (m.pc + 1), 0, -1)
    else if n = 4 ∧ 0 ≤ m.reg a ∧ m.reg a < 16 then ((if m.want < 0 then ({ m with want := m.reg a, ready := 0 } : Mach) else m).goTo (m.pc + 1), 0, -1)
    else (m, 3, -1)
  else if op = 12 then ((({ m with ints := decide (n = 1) } : Mach)).goTo (m.pc + 1), 0, -1)
  else if op = 13 then ((({ m with ints := true } : Mach)).goTo m.back, 0, -1)
  else if op = 14 then
    if m.reg a < -1 ∨ 16 ≤ m.reg a then (m, 3, -1) else ((({ m with table := m.reg a } : Mach)).goTo (m.pc + 1), 0, -1)
  else (m.goTo (m.pc + 1), 0, -1)

/-- The word that comes next, and how the guest ends if it is none. -/
def nextZ (m : Mach) : Int × Int :=
  if (placeZ m.table m.mem m.pc false).2 ≠ 0 then (0, (placeZ m.table m.mem m.pc false).2)
  else if decC (m.mem.getD (placeZ m.table m.mem m.pc false).1.toNat 0) ≠ 0 then (0, 2)
  else (m.mem.getD (placeZ m.table m.mem m.pc false).1.toNat 0, 0)
/-- An instruction, or the end. -/
def execM (m : Mach) (value : Int) : Mach × Int :=
  if m.fin ≠ 0 then (m, -1)
  else if (nextZ m).2 ≠ 0 then ({ m with count := m.count + 1, fin := (nextZ m).2 }, -1)
  else ({ (doM m (decOp (nextZ m).1) (decA (nextZ m).1) (decB (nextZ m).1) (decN (nextZ m).1) value).1 with count := m.count + 1, fin := (doM m (decOp (nextZ m).1) (decA (nextZ m).1) (decB (nextZ m).1) (decN (nextZ m).1) value).2.1 }, (doM m (decOp (nextZ m).1) (decA (nextZ m).1) (decB (nextZ m).1) (decN (nextZ m).1) value).2.2)
def enterM (m : Mach) : Mach := if m.wait = true ∧ m.ints = true ∧ m.fin = 0 then { m with wait := false, ints := false, back := m.pc, pc := 8 } else m
/-- A page that is laid over memory. -/
def blit (mem : List Int) (k : Nat) (b : List Int) : List Int := mem.take k ++ b ++ mem.drop (k + b.length)
def comesM (m : Mach) (b : List Int) : Mach := if m.want < 0 ∨ m.fin ≠ 0 then m else { m with mem := blit m.mem (m.want * 16).toNat b, want := -1, ready := 1, wait := true }
def irqM (m : Mach) (irq : Bool) : Mach := if m.fin = 0 ∧ irq = true then { m with wait := true } else m
def blockM (m : Mach) (b : List Int) : Mach := if b.length = 0 then m else comesM m b
def stepM (m : Mach) (irq : Bool) (b : List Int) (value : Int) : Mach × Int := execM (enterM (blockM (irqM m irq) b)) value

theorem blit_len {mem : List Int} {k : Nat} {b : List Int} (h : k + b.length ≤ mem.length) : (blit mem k b).length = mem.length := by
  unfold blit; simp; omega
theorem blit_word {mem : List Int} {k : Nat} {b : List Int} {P : Int → Prop} (h : ∀ z ∈ mem, P z) (hb : ∀ z ∈ b, P z) : ∀ z ∈ blit mem k b, P z := by
  intro z hz
  unfold blit at hz
  rcases List.mem_append.1 hz with hz | hz
  · rcases List.mem_append.1 hz with hz | hz
    · exact h z (List.mem_of_mem_take hz)
    · exact hb z hz
  · exact h z (List.mem_of_mem_drop hz)
theorem blit_nil (mem : List Int) (k : Nat) : blit mem k [] = mem := by unfold blit; simp
theorem blit_get {mem b : List Int} {k : Nat} (h : k ≤ mem.length) (j : Nat) : (blit mem k b)[j]? = if j < k then mem[j]? else if j < k + b.length then b[j - k]? else mem[j]? := by
  unfold blit
  have e : (mem.take k).length = k := by rw [List.length_take]; omega
  by_cases h1 : j < k
  · rw [if_pos h1, List.append_assoc, List.getElem?_append_left (by omega), List.getElem?_take, if_pos h1]
  · rw [if_neg h1, List.append_assoc, List.getElem?_append_right (by omega), e]
    by_cases h2 : j < k + b.length
    · rw [if_pos h2, List.getElem?_append_left (by omega)]
    · rw [if_neg h2, List.getElem?_append_right (by omega), List.getElem?_drop]
      congr 1; omega
theorem blit_step {mem : List Int} {k i : Nat} {b : List Int} (hi : i < b.length) (h : k + b.length ≤ mem.length) : (blit mem k (b.take i)).set (k + i) b[i] = blit mem k (b.take (i + 1)) := by
  apply List.ext_getElem?
  intro j
  have l1 : (b.take i).length = i := by rw [List.length_take]; omega
  have l2 : (b.take (i + 1)).length = i + 1 := by rw [List.length_take]; omega
  have h1 : k + i < (blit mem k (b.take i)).length := by rw [blit_len (by omega)]; omega
  rw [List.getElem?_set]
  by_cases hj : k + i = j
  · subst hj
    rw [if_pos rfl, if_pos h1, blit_get (by omega), if_neg (by omega), if_pos (by omega), List.getElem?_take, if_pos (by omega), show k + i - k = i by omega, List.getElem?_eq_getElem hi]
  · rw [if_neg hj, blit_get (by omega), blit_get (by omega)]
    by_cases h2 : j < k
    · rw [if_pos h2, if_pos h2]
    · rw [if_neg h2, if_neg h2]
      by_cases h3 : j < k + i
      · rw [if_pos (by omega), if_pos (by omega), List.getElem?_take, if_pos (by omega), List.getElem?_take, if_pos (by omega)]
      · rw [if_neg (by omega), if_neg (by omega)]

/-! ### A guest that may be stays one -/
theorem foldW (n : Int) : WordZ (foldZ n) := foldZ_bd n
theorem MOk.wreg {m : Mach} (h : MOk m) (a : Int) : WordZ (m.reg a) := mem_getD (words_of h.wr) (by unfold WordZ; omega) _
theorem MOk.wmem {m : Mach} (h : MOk m) (k : Nat) : WordZ (m.mem.getD k 0) := mem_getD (words_of h.wm) (by unfold WordZ; omega) _
theorem MOk.goTo {m : Mach} (h : MOk m) (pc : Int) : MOk (m.goTo pc) := ⟨h.regs, h.mem, h.out, h.wr, h.wm, h.wo, foldZ_bd pc, h.back, h.table, h.count, h.fin, h.ready, h.want⟩
theorem MOk.setReg {m : Mach} (h : MOk m) (a v : Int) (hv : WordZ v) : MOk (m.setReg a v) := ⟨by simp [Mach.setReg, h.regs], h.mem, h.out, of_words (mem_set (words_of h.wr) hv _), h.wm, h.wo, h.pc, h.back, h.table, h.count, h.fin, h.ready, h.want⟩
theorem MOk.irq {m : Mach} (h : MOk m) (b : Bool) : MOk (irqM m b) := by
  unfold irqM; split
  · exact ⟨h.regs, h.mem, h.out, h.wr, h.wm, h.wo, h.pc, h.back, h.table, h.count, h.fin, h.ready, h.want⟩
  · exact h
theorem MOk.comes {m : Mach} (h : MOk m) {b : List Int} (hb : b.length = 16) (hw : ∀ z ∈ b, WordZ z) : MOk (comesM m b) := by
  unfold comesM; split
  · exact h
  · rename_i hn
    have h1 := h.want
    have h2 := h.mem
    exact ⟨h.regs, by show (blit _ _ _).length = 256; rw [blit_len (by omega)]; exact h.mem, h.out, h.wr, of_words (blit_word (words_of h.wm) hw), h.wo, h.pc, h.back, h.table, h.count, h.fin, by show (0:Int) ≤ 1 ∧ (1:Int) ≤ 1; omega, by show (-1:Int) ≤ -1 ∧ (-1:Int) < 16; omega⟩
theorem MOk.block {m : Mach} (h : MOk m) {b : List Int} (hb : b.length = 0 ∨ b.length = 16) (hw : ∀ z ∈ b, WordZ z) : MOk (blockM m b) := by
  unfold blockM; split
  · exact h
  · exact h.comes (by omega) hw
theorem MOk.enter {m : Mach} (h : MOk m) : MOk (enterM m) := by
  unfold enterM; split
  · exact ⟨h.regs, h.mem, h.out, h.wr, h.wm, h.wo, by show -1099511627776 ≤ (8:Int) ∧ (8:Int) ≤ 1099511627776; omega, h.pc, h.table, h.count, h.fin, h.ready, h.want⟩
  · exact h
theorem MOk.tick {m : Mach} (h : MOk m) (hc : m.count < 1099511627776) {e : Int} (h0 : 0 ≤ e) (h4 : e ≤ 4) : MOk { m with count := m.count + 1, fin := e } :=
  ⟨h.regs, h.mem, h.out, h.wr, h.wm, h.wo, h.pc, h.back, h.table, by have := h.count; show 0 ≤ m.count + 1 ∧ m.count + 1 ≤ 1099511627776; omega, ⟨h0, h4⟩, h.ready, h.want⟩
theorem MOk.st {m : Mach} (h : MOk m) (k : Nat) (a : Int) : MOk { m with mem := m.mem.set k (m.reg a) } :=
  ⟨h.regs, by show (m.mem.set k _).length = 256; rw [List.length_set]; exact h.mem, h.out, h.wr, of_words (mem_set (words_of h.wm) (h.wreg a) _), h.wo, h.pc, h.back, h.table, h.count, h.fin, h.ready, h.want⟩
theorem MOk.told {m : Mach} (h : MOk m) (hl : m.out.length < 200) (a : Int) : MOk { m with out := m.out ++ [m.reg a] } :=
  ⟨h.regs, h.mem, by show (m.out ++ _).length ≤ 200; simp; omega, h.wr, h.wm, of_words (fun z hz => by rcases List.mem_append.1 hz with hz | hz; exact words_of h.wo z hz; rw [List.mem_singleton.1 hz]; exact h.wreg a), h.pc, h.back, h.table, h.count, h.fin, h.ready, h.want⟩
theorem MOk.wants {m : Mach} (h : MOk m) {v : Int} (h0 : 0 ≤ v) (h1 : v < 16) : MOk { m with want := v, ready := 0 } :=
  ⟨h.regs, h.mem, h.out, h.wr, h.wm, h.wo, h.pc, h.back, h.table, h.count, h.fin, by show (0:Int) ≤ 0 ∧ (0:Int) ≤ 1; omega, by show -1 ≤ v ∧ v < 16; omega⟩
theorem MOk.ei {m : Mach} (h : MOk m) (b : Bool) : MOk { m with ints := b } := ⟨h.regs, h.mem, h.out, h.wr, h.wm, h.wo, h.pc, h.back, h.table, h.count, h.fin, h.ready, h.want⟩
theorem MOk.tab {m : Mach} (h : MOk m) {v : Int} (h0 : ¬ (v < -1 ∨ 16 ≤ v)) : MOk { m with table := v } := ⟨h.regs, h.mem, h.out, h.wr, h.wm, h.wo, h.pc, h.back, by show -1 ≤ v ∧ v < 16; omega, h.count, h.fin, h.ready, h.want⟩
def DoOk (m : Mach) (r : Mach × Int × Int) : Prop := MOk r.1 ∧ 0 ≤ r.2.1 ∧ r.2.1 ≤ 4 ∧ r.1.count = m.count
theorem doM_ok {m : Mach} (h : MOk m) (op a b n value : Int) (hn : WordZ n) (hv : WordZ value) : DoOk m (doM m op a b n value) := by
  unfold doM
  have p1 := placeZ_bd m.table m.mem (m.reg b + n) false
  have p2 := placeZ_bd m.table m.mem (m.reg b + n) true
  have hr : WordZ m.ready := by have := h.ready; unfold WordZ; omega
  by_cases h0 : op = 0
  · rw [if_pos h0]
    exact ⟨h, by dsimp only; omega, by dsimp only; omega, rfl⟩
  rw [if_neg h0]
  by_cases h1 : op = 1
  · rw [if_pos h1]
    exact ⟨(h.setReg _ _ hn).goTo _, by dsimp only; omega, by dsimp only; omega, rfl⟩
  rw [if_neg h1]
  by_cases h2 : op = 2
  · rw [if_pos h2]
    exact ⟨(h.setReg _ _ (foldW _)).goTo _, by dsimp only; omega, by dsimp only; omega, rfl⟩
  rw [if_neg h2]
  by_cases h3 : op = 3
  · rw [if_pos h3]
    exact ⟨(h.setReg _ _ (foldW _)).goTo _, by dsimp only; omega, by dsimp only; omega, rfl⟩
  rw [if_neg h3]
  by_cases h4 : op = 4
  · rw [if_pos h4]
    exact ⟨(h.setReg _ _ (foldW _)).goTo _, by dsimp only; omega, by dsimp only; omega, rfl⟩
  rw [if_neg h4]
  by_cases h5 : op = 5
  · rw [if_pos h5]
    by_cases k : (placeZ m.table m.mem (m.reg b + n) false).2 = 0
    · rw [if_pos k]; exact ⟨(h.setReg _ _ (h.wmem _)).goTo _, by dsimp only; omega, by dsimp only; omega, rfl⟩
    · rw [if_neg k]; exact ⟨h, by dsimp only; omega, by dsimp only; omega, rfl⟩
  rw [if_neg h5]
  by_cases h6 : op = 6
  · rw [if_pos h6]
    by_cases k : (placeZ m.table m.mem (m.reg b + n) true).2 = 0
    · rw [if_pos k]; exact ⟨(h.st _ _).goTo _, by dsimp only; omega, by dsimp only; omega, rfl⟩
    · rw [if_neg k]; exact ⟨h, by dsimp only; omega, by dsimp only; omega, rfl⟩
  rw [if_neg h6]
  by_cases h7 : op = 7
  · rw [if_pos h7]
    exact ⟨h.goTo _, by dsimp only; omega, by dsimp only; omega, rfl⟩
  rw [if_neg h7]
  by_cases h8 : op = 8
  · rw [if_pos h8]
    exact ⟨h.goTo _, by dsimp only; omega, by dsimp only; omega, rfl⟩
  rw [if_neg h8]
  by_cases h9 : op = 9
  · rw [if_pos h9]
    exact ⟨h.goTo _, by dsimp only; omega, by dsimp only; omega, rfl⟩
  rw [if_neg h9]
  by_cases h10 : op = 10
  · rw [if_pos h10]
    by_cases k : n = 0 ∨ n = 1
    · rw [if_pos k]; exact ⟨(h.setReg _ _ hv).goTo _, by dsimp only; omega, by dsimp only; omega, rfl⟩
    · rw [if_neg k]
      by_cases k2 : n = 2
      · rw [if_pos k2]; exact ⟨(h.setReg _ _ hr).goTo _, by dsimp only; omega, by dsimp only; omega, rfl⟩
      · rw [if_neg k2]; exact ⟨h, by dsimp only; omega, by dsimp only; omega, rfl⟩
  rw [if_neg h10]
  by_cases h11 : op = 11
  · rw [if_pos h11]
    by_cases k : n = 3
    · rw [if_pos k]
      by_cases k2 : m.out.length < 200
      · rw [if_pos k2]; exact ⟨(h.told k2 _).goTo _, by dsimp only; omega, by dsimp only; omega, rfl⟩
      · rw [if_neg k2]; exact ⟨h.goTo _, by dsimp only; omega, by dsimp only; omega, rfl⟩
    · rw [if_neg k]
      by_cases k2 : n = 4 ∧ 0 ≤ m.reg a ∧ m.reg a < 16
      · rw [if_pos k2]
        by_cases k3 : m.want < 0
        · rw [if_pos k3]; exact ⟨(h.wants k2.2.1 k2.2.2).goTo _, by dsimp only; omega, by dsimp only; omega, rfl⟩
        · rw [if_neg k3]; exact ⟨h.goTo _, by dsimp only; omega, by dsimp only; omega, rfl⟩
      · rw [if_neg k2]; exact ⟨h, by dsimp only; omega, by dsimp only; omega, rfl⟩
  rw [if_neg h11]
  by_cases h12 : op = 12
  · rw [if_pos h12]
    exact ⟨(h.ei _).goTo _, by dsimp only; omega, by dsimp only; omega, rfl⟩
  rw [if_neg h12]
  by_cases h13 : op = 13
  · rw [if_pos h13]
    exact ⟨(h.ei _).goTo _, by dsimp only; omega, by dsimp only; omega, rfl⟩
  rw [if_neg h13]
  by_cases h14 : op = 14
  · rw [if_pos h14]
    by_cases k : m.reg a < -1 ∨ 16 ≤ m.reg a
    · rw [if_pos k]; exact ⟨h, by dsimp only; omega, by dsimp only; omega, rfl⟩
    · rw [if_neg k]; exact ⟨(h.tab k).goTo _, by dsimp only; omega, by dsimp only; omega, rfl⟩
  rw [if_neg h14]
  exact ⟨h.goTo _, by dsimp only; omega, by dsimp only; omega, rfl⟩
theorem nextZ_bd (m : Mach) : 0 ≤ (nextZ m).2 ∧ (nextZ m).2 ≤ 4 := by
  unfold nextZ
  have p1 := placeZ_bd m.table m.mem m.pc false
  split
  · dsimp only; omega
  · split
    · dsimp only; omega
    · dsimp only; omega
theorem decN_word {z : Int} (h : WordZ z) : WordZ (decN z) := by unfold decN; unfold WordZ at *; omega
theorem nextZ_word {m : Mach} (h : MOk m) : WordZ (nextZ m).1 := by
  unfold nextZ
  split
  · show WordZ 0; unfold WordZ; omega
  · split
    · show WordZ 0; unfold WordZ; omega
    · exact h.wmem _
theorem execM_ok {m : Mach} (h : MOk m) (value : Int) (hv : WordZ value) (hc : m.count < 1099511627776) : MOk (execM m value).1 := by
  unfold execM
  have p := nextZ_bd m
  split
  · exact h
  · split
    · exact h.tick hc p.1 p.2
    · obtain ⟨d1, d2, d3, d4⟩ := doM_ok h (decOp (nextZ m).1) (decA (nextZ m).1) (decB (nextZ m).1) (decN (nextZ m).1) value (decN_word (nextZ_word h)) hv
      have := d1.tick (by rw [d4]; exact hc) d2 d3
      rw [d4] at this
      exact this
theorem stepM_ok {m : Mach} (h : MOk m) (irq : Bool) {b : List Int} (value : Int) (hb : b.length = 0 ∨ b.length = 16) (hw : ∀ z ∈ b, WordZ z) (hv : WordZ value) (hc : m.count < 1099511627776) : MOk (stepM m irq b value).1 := by
  unfold stepM
  refine execM_ok ((h.irq irq).block hb hw).enter value hv ?_
  have : (enterM (blockM (irqM m irq) b)).count = m.count := by
    unfold enterM blockM comesM irqM
    repeat' split
    all_goals rfl
  rw [this]; exact hc
end Go.Proofs.Ytbenfbfbohecmaa
