/- Several texts joined, each with its own heading in the notes: Contracts of slices. Events as bytes, in plain Lean: how they are written, how they are read, and that both go together. What is wrong with events; the contracts of evlog. No condition beyond those of each row. -/
import Derived.Test.YtpmdlmgmfggioaaYMem
import Derived.Lib.Walk
import Derived.Shelf.Abstract
import Derived.Deep.LoopGhost
import Derived.Deep.Draws
import Derived.IntWalk
namespace Go.Proofs.Ytpmdlmgmfggioaa
open Go Go.RowKit Go.ChangeShapes Go.WideShapes Go.Deep
set_option linter.unusedVariables false

/-- A number that is no word. -/
def oddB (z : Int) : Bool := !(decide (-1099511627776 ≤ z) && decide (z ≤ 1099511627776))
theorem odd_false {z : Int} (h : -1099511627776 ≤ z ∧ z ≤ 1099511627776) : oddB z = false := by simp [oddB, h]

end Go.Proofs.Ytpmdlmgmfggioaa
namespace Go.Proofs.Ytpmdlmgmfggioaa
set_option linter.unusedVariables false

/-- An event. -/
structure Ev where
  at_ : Int
  kind : Int
  data : List Int

def zag (n : Nat) : Int := if n % 2 = 1 then -((n + 1) / 2 : Nat) else ((n / 2 : Nat) : Int)
/-- The next number: what is wrong, the number, what is left. -/
def numP (i n : Nat) : List UInt8 → Int × Nat × List UInt8
  | [] => (5, 0, [])
  | c :: bs => if (0 < i ∧ c.toNat = 0) ∨ i = 7 then (4, 0, bs) else if c.toNat < 128 then (0, n + c.toNat % 128 * 128 ^ i, bs) else numP (i + 1) (n + c.toNat % 128 * 128 ^ i) bs

/-- The words of a block: what is wrong, the words, what is left. -/
def blkP : Nat → List Int → Int → List UInt8 → Int × List Int × List UInt8
  | 0, acc, _, bs => (0, acc, bs)
  | f + 1, acc, last, bs => if 16 ≤ acc.length then (0, acc, bs) else
    let a := numP 0 0 bs
    if a.1 ≠ 0 then (a.1, acc, a.2.2) else
    let z := numP 0 0 a.2.2
    if z.1 ≠ 0 then (z.1, acc, z.2.2) else
    if a.2.1 < 1 ∨ 16 - acc.length < a.2.1 ∨ (0 < acc.length ∧ last + zag z.2.1 = last) then (4, acc, z.2.2) else
    blkP f (acc ++ List.replicate a.2.1 (last + zag z.2.1)) (last + zag z.2.1) z.2.2

theorem blkP_full {f : Nat} {acc : List Int} {last : Int} {bs : List UInt8} (h : 16 ≤ acc.length) : blkP f acc last bs = (0, acc, bs) := by
  cases f with
  | zero => rfl
  | succ f => rw [blkP, if_pos h]
end Go.Proofs.Ytpmdlmgmfggioaa
namespace Go.Proofs.Ytpmdlmgmfggioaa
open Go Go.RowKit Go.ChangeShapes Go.WideShapes Go.Deep
set_option linter.unusedVariables false

/-- An event's cells. -/
def EvC (B : Nat) (w : World) (cs : List Value) (x : Ev) : Prop := ∃ ad cd, cs = [.int .i64 x.at_, .int .i64 x.kind, .slice ad x.data.length cd] ∧ I64 x.at_ ∧ I64 x.kind ∧ Ints B w (.slice ad x.data.length cd) x.data
def EvsR (B : Nat) (w : World) (v : Value) (l : List Ev) : Prop := SlN 3 3518437208780 B w (EvC B w) v l
theorem EvsR.to {B B' : Nat} {w w' : World} {v : Value} {l : List Ev} (hB : B ≤ B') (hw : Same B w w') (h : EvsR B w v l) : EvsR B' w' v l :=
  SlN.to (Nat.le_refl _) hB hw (fun _ _ ⟨ad, cd, h1, h2, h3, h4⟩ => ⟨ad, cd, h1, h2, h3, h4.to hB hw⟩) h
theorem EvsR.imp {B : Nat} {w w' : World} {v : Value} {l : List Ev} (hw : Imp B w w') (h : EvsR B w v l) : EvsR B w' v l :=
  SlN.imp hw (fun _ _ ⟨ad, cd, h1, h2, h3, h4⟩ => ⟨ad, cd, h1, h2, h3, h4.imp hw⟩) h
def evW (k : Int) : Int := if k = 2 then 16 else if k = 3 then 1 else 0
/-- What is wrong with an event behind another one. -/
def evF (p : Option Ev) (x : Ev) : Int :=
  if x.kind < 1 ∨ 3 < x.kind then 3 else
  if x.at_ < 0 ∨ 3000 ≤ x.at_ ∨ x.data.any oddB = true then 2 else
  if (x.data.length : Int) ≠ evW x.kind then 1 else
  match p with
  | none => 0
  | some p => if x.at_ < p.at_ ∨ (p.at_ = x.at_ ∧ x.kind ≤ p.kind) then 9 else 0
/-- What is wrong at place k. -/
def fAt (l : List Ev) (k : Nat) : Int := match l[k]? with
  | none => 0
  | some x => evF (if k = 0 then none else l[k - 1]?) x
def EvRes (l : List Ev) (c : Int) : Prop := (1000 < l.length ∧ c = 1) ∨ (l.length ≤ 1000 ∧ ∃ k, k < l.length ∧ (∀ j, j < k → fAt l j = 0) ∧ fAt l k = c ∧ c ≠ 0) ∨ (l.length ≤ 1000 ∧ (∀ j, j < l.length → fAt l j = 0) ∧ c = 0)
end Go.Proofs.Ytpmdlmgmfggioaa
