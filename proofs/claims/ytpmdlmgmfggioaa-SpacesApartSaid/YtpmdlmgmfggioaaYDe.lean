/- Several texts joined, each with its own heading in the notes: What a decoding of bytes answers, in plain Lean; events that lie in memory of the call's own. The contract of evlog. The contract of evlog. No condition beyond those of each row. -/
import Derived.Test.YtpmdlmgmfggioaaYEd
import Derived.BigQuiet
namespace Go.Proofs.Ytpmdlmgmfggioaa
open Go Go.RowKit Go.ChangeShapes Go.WideShapes Go.Deep
set_option linter.unusedVariables false

def BodyR (p : List UInt8) (c : Int) (l : List Ev) : Prop := ∃ e1 m r1, numP 0 0 p = (e1, m, r1) ∧ ((1000 < m ∧ c = 1 ∧ l = []) ∨ (m ≤ 1000 ∧ e1 ≠ 0 ∧ c = e1 ∧ l = []) ∨ (m ≤ 1000 ∧ e1 = 0 ∧ ∃ e ev r, evsP m 0 r1 = (e, ev, r) ∧ ((e ≠ 0 ∧ c = e ∧ l = []) ∨ (e = 0 ∧ r ≠ [] ∧ c = 4 ∧ l = []) ∨ (e = 0 ∧ r = [] ∧ EvRes ev c ∧ l = if c = 0 then ev else []))))
def DecR (b : List UInt8) (c : Int) (l : List Ev) : Prop := (60000 < b.length ∧ c = 1 ∧ l = []) ∨ (b.length < 5 ∧ c = 5 ∧ l = []) ∨ (5 ≤ b.length ∧ b.length ≤ 60000 ∧ sumB (b.take (b.length - 4)) ≠ b.drop (b.length - 4) ∧ c = 10 ∧ l = []) ∨ (5 ≤ b.length ∧ b.length ≤ 60000 ∧ sumB (b.take (b.length - 4)) = b.drop (b.length - 4) ∧ BodyR (b.take (b.length - 4)) c l)
/-! ### Events of the call's own -/
/-- The words of an event lie in a row of the call's own. -/
def DOwn (B : Nat) (w : World) (p : Ev × Value) : Prop := w.ownsRow B 3 1 p.2 p.1.data.length (p.1.data.map (Value.int .i64)) ∧ (∀ z ∈ p.1.data, I64 z) ∧ p.1.data.length ≤ 16 ∧ I64 p.1.at_ ∧ I64 p.1.kind
/-- Events that lie in blocks from a number on. -/
def EvsN (lo : Nat) (w : World) (v : Value) (l : List Ev) : Prop := EvsR w.heap.size w v l ∧ ∀ W : World, (∀ g, lo ≤ g → g < w.heap.size → W.heap[g]? = w.heap[g]?) → EvsR w.heap.size W v l
theorem EvsN.nil (lo : Nat) (w : World) : EvsN lo w (.slice none 0 0) [] := ⟨SlN.nil _ _ _ _ _, fun _ _ => SlN.nil _ _ _ _ _⟩
theorem EvsN.le {lo lo' : Nat} {w : World} {v : Value} {l : List Ev} (h : EvsN lo w v l) (hle : lo' ≤ lo) : EvsN lo' w v l := ⟨h.1, fun W hW => h.2 W (fun g hg => hW g (by omega))⟩
theorem EvsN.below {lo : Nat} {w w' : World} {v : Value} {l : List Ev} (h : EvsN lo w v l) (hb : Below w.heap.size w w') : EvsN lo w' v l :=
  ⟨h.1.to hb.size (same_below hb), fun W hW => (h.2 W (fun g hg hl => (hW g hg (Nat.lt_of_lt_of_le hl hb.size)).trans (hb.block g hl))).to hb.size (fun _ _ _ => rfl)⟩
theorem DOwn.kept {B : Nat} {w w' : World} {p : Ev × Value} {r : Option Nat} (h : DOwn B w p) (hg : w.grownBy w' r) (hne : p.2.ownBlock = none ∨ p.2.ownBlock ≠ r) : DOwn B w' p := ⟨h.1.kept hg hne, h.2⟩
end Go.Proofs.Ytpmdlmgmfggioaa
namespace Go.Proofs.Ytpmdlmgmfggioaa
open Go Go.RowKit Go.ChangeShapes Go.WideShapes Go.Deep
set_option linter.unusedVariables false

/-- What Decode answers. -/
def DecPost (b : List UInt8) (w : World) (en : Ending) (w' : World) : Prop := ∃ c l vo, DecR b c l ∧ en = .returned (.tuple #[vo, .int .i64 c]) ∧ EvsR w'.heap.size w' vo l ∧ Below w.heap.size w w'
theorem DecPost.no {b : List UInt8} {w w' : World} {c : Int} (h : DecR b c []) (hb : Below w.heap.size w w') : DecPost b w (.returned (.tuple #[.slice none 0 0, .int .i64 c])) w' := ⟨c, [], _, h, rfl, SlN.nil _ _ _ _ _, hb⟩

/-- What Decode answers, its events in blocks of its own. -/
def DecNew (b : List UInt8) (w : World) (en : Ending) (w' : World) : Prop := ∃ c l vo, DecR b c l ∧ en = .returned (.tuple #[vo, .int .i64 c]) ∧ EvsN w.heap.size w' vo l ∧ Below w.heap.size w w'
theorem DecNew.no {b : List UInt8} {w w' : World} {c : Int} (h : DecR b c []) (hb : Below w.heap.size w w') : DecNew b w (.returned (.tuple #[.slice none 0 0, .int .i64 c])) w' := ⟨c, [], _, h, rfl, EvsN.nil _ _, hb⟩
theorem DecNew.post {b : List UInt8} {w w' : World} {en : Ending} (h : DecNew b w en w') : DecPost b w en w' := by
  obtain ⟨c, l, vo, h1, h2, h3, h4⟩ := h
  exact ⟨c, l, vo, h1, h2, h3.1, h4⟩
theorem parts4 {n : Nat} {p : List UInt8} {d0 d1 d2 d3 : UInt8} (hp : p.length = n) : (p ++ [d0, d1, d2, d3]).length = n + 4 ∧ (p ++ [d0, d1, d2, d3]).take ((p ++ [d0, d1, d2, d3]).length - 4) = p ∧ (p ++ [d0, d1, d2, d3]).drop ((p ++ [d0, d1, d2, d3]).length - 4) = [d0, d1, d2, d3] := by
  subst hp
  refine ⟨by simp, ?_, ?_⟩
  · rw [show (p ++ [d0, d1, d2, d3]).length - 4 = p.length by simp]; simp
  · rw [show (p ++ [d0, d1, d2, d3]).length - 4 = p.length by simp]; simp
theorem DecR.body {n : Nat} {p : List UInt8} {d0 d1 d2 d3 : UInt8} {c : Int} {l : List Ev} (hp : p.length = n) (h1 : 1 ≤ n) (h2 : n ≤ 59996) (hs : sumB p = [d0, d1, d2, d3]) (h : BodyR p c l) : DecR (p ++ [d0, d1, d2, d3]) c l := by
  obtain ⟨k1, k2, k3⟩ := parts4 (d0 := d0) (d1 := d1) (d2 := d2) (d3 := d3) hp
  exact Or.inr (Or.inr (Or.inr ⟨by omega, by omega, by rw [k2, k3]; exact hs, by rw [k2]; exact h⟩))

end Go.Proofs.Ytpmdlmgmfggioaa
namespace Go.Proofs.Ytpmdlmgmfggioaa
open Go Go.RowKit Go.ChangeShapes Go.WideShapes Go.Deep
set_option linter.unusedVariables false

/-- The events that are read so far. -/
def EvsGo (m : Nat) (r1 : List UInt8) (i : Nat) (at_ : Int) (cs : List UInt8) (l : List Ev) : Prop := evsP m 0 r1 = ((evsP (m - i) at_ cs).1, l ++ (evsP (m - i) at_ cs).2.1, (evsP (m - i) at_ cs).2.2)
theorem EvsGo.fin {m : Nat} {r1 cs : List UInt8} {at_ : Int} {l : List Ev} (h : EvsGo m r1 m at_ cs l) : evsP m 0 r1 = (0, l, cs) := by
  unfold EvsGo at h
  rw [h, Nat.sub_self]
  simp [evsP]

end Go.Proofs.Ytpmdlmgmfggioaa
