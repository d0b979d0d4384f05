/- Several texts joined, each with its own heading in the notes: The contracts of evlog. The contracts of the reference's sevens, zigs and SumOf. Events as bytes, whole: what Encode answers, in plain Lean; its length. The contract of evlog. The contract of the reference's EventBytes. No condition beyond those of each row. -/
import Derived.Test.YtpmdlmgmfggioaaYFr1
import Derived.Deep.AppendLies
import Derived.Laws.OwnMore
import Derived.Test.YtpmdlmgmfggioaaYEv
import Derived.Test.YtpmdlmgmfggioaaYMem
import Derived.Deep.CutBlock
import Derived.Deep.DeepCutAuto
import Derived.Deep.LoopGhost
import Derived.Deep.RegionLaw
import Derived.BigQuiet
namespace Go.Proofs.Ytpmdlmgmfggioaa
open Go Go.RowKit Go.ChangeShapes Go.WideShapes Go.Deep
set_option linter.unusedVariables false

/-- Bytes as values. -/
def bv (bs : List UInt8) : List Value := bs.map (fun b => Value.int .u8 (b.toNat : Int))
theorem bv_len (bs : List UInt8) : (bv bs).length = bs.length := by simp [bv]
/-! ### The sum -/
/-- The two sums of bytes. -/
def sumS (x y : Nat) : List UInt8 → Nat × Nat
  | [] => (x, y)
  | c :: bs => sumS ((x + c.toNat) % 65521) ((y + (x + c.toNat) % 65521) % 65521) bs
def sum1 (bs : List UInt8) : Nat := (sumS 1 0 bs).1
def sum2 (bs : List UInt8) : Nat := (sumS 1 0 bs).2
/-- The sum's four bytes. -/
def sumB (bs : List UInt8) : List UInt8 := [UInt8.ofNat (sum2 bs / 256), UInt8.ofNat (sum2 bs % 256), UInt8.ofNat (sum1 bs / 256), UInt8.ofNat (sum1 bs % 256)]
end Go.Proofs.Ytpmdlmgmfggioaa
namespace Go.Proofs.Ytpmdlmgmfggioaa
open Go Go.RowKit Go.ChangeShapes Go.WideShapes Go.Deep
set_option linter.unusedVariables false

/-- New bytes are handed back. -/
def NewB (w : World) (bs : List UInt8) (e : Ending) (w' : World) : Prop := ∃ a c, e = .returned (.slice a bs.length c) ∧ w'.ownsRow w.heap.size 5 1 (.slice a bs.length c) bs.length (bv bs) ∧ Below w.heap.size w w'
theorem slv_of_owns {w : World} {base m : Nat} {t : TypeId} {v : Value} {vs : List Value} (h : w.ownsRow base t 1 v vs.length vs) (hm : vs.length ≤ m) : SlV m w.heap.size w v vs :=
  sl1_of_owns h hm (fun i hi hv => rfl)
theorem NewB.slv {w w' : World} {bs : List UInt8} {a : Option Addr} {c : Nat} (h : w'.ownsRow w.heap.size 5 1 (.slice a bs.length c) bs.length (bv bs)) (hl : bs.length ≤ 100000000) : SlV 100000000 w'.heap.size w' (.slice a bs.length c) (bv bs) :=
  slv_of_owns (by rw [bv_len]; exact h) (by rw [bv_len]; exact hl)

end Go.Proofs.Ytpmdlmgmfggioaa
namespace Go.Proofs.Ytpmdlmgmfggioaa
set_option linter.unusedVariables false

/-- Events that may be. -/
def EvOk (l : List Ev) : Prop := ∀ j, j < l.length → fAt l j = 0
end Go.Proofs.Ytpmdlmgmfggioaa
namespace Go.Proofs.Ytpmdlmgmfggioaa
open Go Go.RowKit Go.ChangeShapes Go.WideShapes Go.Deep
set_option linter.unusedVariables false

theorem EvRes.ok {l : List Ev} (h : EvRes l 0) : EvOk l ∧ l.length ≤ 1000 := by
  rcases h with ⟨_, h⟩ | ⟨_, k, _, _, _, h⟩ | ⟨h1, h2, _⟩
  · cases h
  · exact absurd rfl h
  · exact ⟨h2, h1⟩

end Go.Proofs.Ytpmdlmgmfggioaa
namespace Go.Proofs.Ytpmdlmgmfggioaa
open Go Go.RowKit Go.ChangeShapes Go.WideShapes Go.Deep
set_option linter.unusedVariables false

/-- The bytes that are written so far. -/
structure RSt (w : World) (a : Option Addr) (c : Nat) (bs : List UInt8) (wr : World) : Prop where
  o : wr.ownsRow w.heap.size 5 1 (.slice a bs.length c) bs.length (bv bs)
  b : Below w.heap.size w wr
theorem RSt.drewN {w wr : World} {c : Nat} {a : Option Addr} {bs : List UInt8} (h : RSt w a c bs wr) (n : Nat) : RSt w a c bs (wr.drewN n) := ⟨h.o, below_drewN h.b n⟩
theorem RSt.drew {w wr : World} {c : Nat} {a : Option Addr} {bs : List UInt8} (h : RSt w a c bs wr) : RSt w a c bs wr.drew := h.drewN 1
theorem RSt.call {w wr w1 : World} {c : Nat} {a : Option Addr} {bs r : List UInt8} {e : Ending} (h : RSt w a c bs wr) (hr : r.length ≤ 1000000) (hp : NewB wr r e w1) : ∃ a1 c1, e = .returned (.slice a1 r.length c1) ∧ RSt w a c bs w1 ∧ SlV 100000000 w1.heap.size w1 (.slice a1 r.length c1) (bv r) := by
  obtain ⟨a1, c1, rfl, ho, hb⟩ := hp
  exact ⟨a1, c1, rfl, ⟨own_below h.o hb (Nat.le_refl _), h.b.trans (hb.mono h.b.size)⟩, NewB.slv ho (by omega)⟩
attribute [local go_sem ↓] Go.wp_at_zero Go.wp_at_succ
end Go.Proofs.Ytpmdlmgmfggioaa
