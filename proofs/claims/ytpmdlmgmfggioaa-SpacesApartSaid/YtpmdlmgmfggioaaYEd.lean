/- Events read from bytes, whole, in plain Lean. No condition beyond those of each row. -/
import Derived.Test.YtpmdlmgmfggioaaYNu
namespace Go.Proofs.Ytpmdlmgmfggioaa
set_option linter.unusedVariables false

/-- The next event: what is wrong, the event, what is left. -/
def evP (a : Int) (bs : List UInt8) : Int × Ev × List UInt8 :=
  let p := numP 0 0 bs
  if p.1 ≠ 0 then (p.1, ⟨a, 0, []⟩, p.2.2) else
  if p.2.1 % 4 = 0 then (3, ⟨a, 0, []⟩, p.2.2) else
  if p.2.1 % 4 = 1 then (0, ⟨a + ((p.2.1 / 4 : Nat) : Int), 1, []⟩, p.2.2) else
  if p.2.1 % 4 = 2 then ((blkP 16 [] 0 p.2.2).1, ⟨a + ((p.2.1 / 4 : Nat) : Int), 2, (blkP 16 [] 0 p.2.2).2.1⟩, (blkP 16 [] 0 p.2.2).2.2)
  else ((numP 0 0 p.2.2).1, ⟨a + ((p.2.1 / 4 : Nat) : Int), 3, [zag (numP 0 0 p.2.2).2.1]⟩, (numP 0 0 p.2.2).2.2)
/-- The words of a block, one run more. -/
structure BlkIn (r1 : List UInt8) (f : Nat) (acc : List Int) (last : Int) (e : Int) (bs : List UInt8) : Prop where
  eq : if e = 0 then blkP 16 [] 0 r1 = blkP f acc last bs else (blkP 16 [] 0 r1).1 = e ∧ (blkP 16 [] 0 r1).2.2 = bs
  len : acc.length ≤ 16
  fuel : e = 0 → 16 ≤ f + acc.length
  f16 : f ≤ 16
  lo : -((16 - (f : Int)) * 562949953421312) ≤ last
  hi : last ≤ (16 - (f : Int)) * 562949953421312
  i64 : ∀ z ∈ acc, I64 z
/-- Where the block ends. -/
theorem BlkIn.fin {r1 bs : List UInt8} {f : Nat} {acc : List Int} {last : Int} (h : BlkIn r1 f acc last 0 bs) (hl : ¬ acc.length < 16) : blkP 16 [] 0 r1 = (0, acc, bs) := by
  have he := h.eq
  rw [if_pos rfl] at he
  rw [he, blkP_full (by omega)]
/-- Events, one behind the other. -/
def evsP : Nat → Int → List UInt8 → Int × List Ev × List UInt8
  | 0, _, bs => (0, [], bs)
  | m + 1, a, bs => if (evP a bs).1 ≠ 0 then ((evP a bs).1, [], (evP a bs).2.2) else ((evsP m (evP a bs).2.1.at_ (evP a bs).2.2).1, (evP a bs).2.1 :: (evsP m (evP a bs).2.1.at_ (evP a bs).2.2).2.1, (evsP m (evP a bs).2.1.at_ (evP a bs).2.2).2.2)
end Go.Proofs.Ytpmdlmgmfggioaa
