/- Several texts joined, each with its own heading in the notes: What a decoding of bytes answers, in plain Lean; events that lie in memory of the call's own. The contract of evlog. The contract of evlog. 'string(b)' of bytes that are read. No condition beyond those of each row. -/
import Derived.Test.YtenicnneppgfmaaDoorYRn
import Derived.Laws.IdiomStrings
import Derived.Laws.BytesArg
namespace Go.Proofs.YtenicnneppgfmaaDoor
open Go Go.RowKit Go.ChangeShapes Go.WideShapes Go.Deep
set_option linter.unusedVariables false

def BodyR (p : List UInt8) (c : Int) (l : List Ev) : Prop := ∃ e1 m r1, numP 0 0 p = (e1, m, r1) ∧ ((1000 < m ∧ c = 1 ∧ l = []) ∨ (m ≤ 1000 ∧ e1 ≠ 0 ∧ c = e1 ∧ l = []) ∨ (m ≤ 1000 ∧ e1 = 0 ∧ ∃ e ev r, evsP m 0 r1 = (e, ev, r) ∧ ((e ≠ 0 ∧ c = e ∧ l = []) ∨ (e = 0 ∧ r ≠ [] ∧ c = 4 ∧ l = []) ∨ (e = 0 ∧ r = [] ∧ EvRes ev c ∧ l = if c = 0 then ev else []))))
def DecR (b : List UInt8) (c : Int) (l : List Ev) : Prop := (60000 < b.length ∧ c = 1 ∧ l = []) ∨ (b.length < 5 ∧ c = 5 ∧ l = []) ∨ (5 ≤ b.length ∧ b.length ≤ 60000 ∧ sumB (b.take (b.length - 4)) ≠ b.drop (b.length - 4) ∧ c = 10 ∧ l = []) ∨ (5 ≤ b.length ∧ b.length ≤ 60000 ∧ sumB (b.take (b.length - 4)) = b.drop (b.length - 4) ∧ BodyR (b.take (b.length - 4)) c l)
theorem BodyR.det {p : List UInt8} {c d : Int} {l m : List Ev} (h : BodyR p c l) (k : BodyR p d m) : c = d ∧ l = m := by
  obtain ⟨e1, m1, r1, hn, h⟩ := h
  obtain ⟨e1', m1', r1', hn', k⟩ := k
  rw [hn] at hn'
  injection hn' with x1 x2
  injection x2 with x2 x3
  subst x1 x2 x3
  rcases h with ⟨h1, rfl, rfl⟩ | ⟨h1, h2, rfl, rfl⟩ | ⟨h1, h2, e, ev, r, he, h⟩ <;> rcases k with ⟨k1, rfl, rfl⟩ | ⟨k1, k2, rfl, rfl⟩ | ⟨k1, k2, e', ev', r', he', k⟩
  · exact ⟨rfl, rfl⟩
  · omega
  · omega
  · omega
  · exact ⟨rfl, rfl⟩
  · exact absurd k2 h2
  · omega
  · exact absurd h2 k2
  · rw [he] at he'
    injection he' with x1 x2
    injection x2 with x2 x3
    subst x1 x2 x3
    rcases h with ⟨h3, rfl, rfl⟩ | ⟨h3, h4, rfl, rfl⟩ | ⟨h3, h4, h5, rfl⟩ <;> rcases k with ⟨k3, rfl, rfl⟩ | ⟨k3, k4, rfl, rfl⟩ | ⟨k3, k4, k5, rfl⟩
    · exact ⟨rfl, rfl⟩
    · exact absurd k3 h3
    · exact absurd k3 h3
    · exact absurd h3 k3
    · exact ⟨rfl, rfl⟩
    · exact absurd k4 h4
    · exact absurd h3 k3
    · exact absurd h4 k4
    · obtain rfl := h5.det k5
      exact ⟨rfl, rfl⟩
theorem DecR.det {b : List UInt8} {c d : Int} {l m : List Ev} (h : DecR b c l) (k : DecR b d m) : c = d ∧ l = m := by
  rcases h with ⟨h1, rfl, rfl⟩ | ⟨h1, rfl, rfl⟩ | ⟨h1, h2, h3, rfl, rfl⟩ | ⟨h1, h2, h3, h4⟩ <;> rcases k with ⟨k1, rfl, rfl⟩ | ⟨k1, rfl, rfl⟩ | ⟨k1, k2, k3, rfl, rfl⟩ | ⟨k1, k2, k3, k4⟩
  · exact ⟨rfl, rfl⟩
  · omega
  · omega
  · omega
  · omega
  · exact ⟨rfl, rfl⟩
  · omega
  · omega
  · omega
  · omega
  · exact ⟨rfl, rfl⟩
  · exact absurd k3 h3
  · omega
  · omega
  · exact absurd h3 k3
  · exact h4.det k4

/-! ### Events of the call's own -/
def flatE (ps : List (Ev × Value)) : List Value := ps.flatMap fun p => [.int .i64 p.1.at_, .int .i64 p.1.kind, p.2]
theorem flatE_app (a b : List (Ev × Value)) : flatE (a ++ b) = flatE a ++ flatE b := by simp [flatE]
theorem flatE_len (ps : List (Ev × Value)) : (flatE ps).length = ps.length * 3 := by
  induction ps with
  | nil => rfl
  | cons p ps ih => rw [show flatE (p :: ps) = [.int .i64 p.1.at_, .int .i64 p.1.kind, p.2] ++ flatE ps from rfl, List.length_append, ih, List.length_cons]; simp; omega
theorem flatE_get : ∀ (ps : List (Ev × Value)) (i j : Nat) (hi : i < ps.length) (hj : j < 3), (flatE ps)[i * 3 + j]? = ([.int .i64 ps[i].1.at_, .int .i64 ps[i].1.kind, ps[i].2] : List Value)[j]? := by
  intro ps
  induction ps with
  | nil => intro i j hi; simp at hi
  | cons p ps ih =>
    intro i j hi hj
    rw [show flatE (p :: ps) = [.int .i64 p.1.at_, .int .i64 p.1.kind, p.2] ++ flatE ps from rfl]
    cases i with
    | zero => rw [List.getElem?_append_left (by simp; omega)]; simp
    | succ i =>
      rw [List.getElem?_append_right (by simp; omega), show (i + 1) * 3 + j - ([Value.int .i64 p.1.at_, .int .i64 p.1.kind, p.2] : List Value).length = i * 3 + j by simp; omega]
      exact ih i j (by simpa using hi) hj
theorem info_ev : (Tryd.prog.info? 53).map (fun i => (i.zero, i.size, i.bytes)) = some (some (.agg #[.int .i64 0, .int .i64 0, .slice none 0 0]), 3, 40) := by kernel_rfl
/-- The words of an event lie in a row of the call's own. -/
def DOwn (B : Nat) (w : World) (p : Ev × Value) : Prop := w.ownsRow B 3 1 p.2 p.1.data.length (p.1.data.map (Value.int .i64)) ∧ (∀ z ∈ p.1.data, I64 z) ∧ p.1.data.length ≤ 16 ∧ I64 p.1.at_ ∧ I64 p.1.kind
structure OutSt (B : Nat) (ps : List (Ev × Value)) (a : Option Addr) (c : Nat) (w : World) : Prop where
  row : w.ownsRow B 53 3 (.slice a ps.length c) ps.length (flatE ps)
  data : ∀ p ∈ ps, DOwn B w p
theorem DOwn.ev {B : Nat} {w : World} {p : Ev × Value} (h : DOwn B w p) : EvC w.heap.size w [.int .i64 p.1.at_, .int .i64 p.1.kind, p.2] p.1 := by
  obtain ⟨h1, h2, h3, h4, h5⟩ := h
  obtain ⟨ad, cd, hv⟩ := own_shape h1
  have hi := ints_of_owns h1 (by omega) h2
  rw [hv] at hi ⊢
  exact ⟨ad, cd, rfl, h4, h5, hi⟩
theorem OutSt.evs {B : Nat} {ps : List (Ev × Value)} {a : Option Addr} {c : Nat} {w : World} (h : OutSt B ps a c w) (hl : ps.length ≤ 100000) : EvsR w.heap.size w (.slice a ps.length c) (ps.map (·.1)) := by
  rcases h.row.2 with ⟨hv, h0⟩ | ⟨g, cap, cur, hv, hb, hg, hnc, hcap, hcs, htk⟩
  · have e0 : ps = [] := List.eq_nil_of_length_eq_zero h0
    subst e0
    injection hv with h1 h2 h3
    subst h1 h3
    exact SlN.nil _ _ _ _ _
  · injection hv with h1 h2 h3
    subst h1 h3
    refine ⟨_, _, by rw [List.length_map], by rw [List.length_map]; omega, by rw [List.length_map]; omega, fun i hi => ?_⟩
    rw [List.length_map] at hi
    refine ⟨g, 0, [.int .i64 ps[i].1.at_, .int .i64 ps[i].1.kind, ps[i].2], rfl, (Array.getElem?_eq_some_iff.1 hg).1, rfl, fun j hj => ?_, ?_⟩
    · have hj3 : j < 3 := by simpa using hj
      have := h.row.cells (g := g) rfl (i * 3 + j) _ ((flatE_get ps i j hi hj3).trans (List.getElem?_eq_getElem (by simpa using hj)))
      rw [add_plain] at this
      rw [Nat.add_assoc]
      exact this
    · rw [List.getElem_map]
      exact (h.data _ (List.getElem_mem hi)).ev
theorem DOwn.kept {B : Nat} {w w' : World} {p : Ev × Value} {r : Option Nat} (h : DOwn B w p) (hg : w.grownBy w' r) (hne : p.2.ownBlock = none ∨ p.2.ownBlock ≠ r) : DOwn B w' p := ⟨h.1.kept hg hne, h.2⟩
theorem OutSt.alloc {B : Nat} {ps : List (Ev × Value)} {a : Option Addr} {c : Nat} {w : World} (h : OutSt B ps a c w) (O : Obj) : OutSt B ps a c (w.alloc O) :=
  ⟨h.row.alloc O, fun p hp => ⟨(h.data p hp).1.alloc O, (h.data p hp).2⟩⟩
theorem OutSt.drewN {B : Nat} {ps : List (Ev × Value)} {a : Option Addr} {c : Nat} {w : World} (h : OutSt B ps a c w) (n : Nat) : OutSt B ps a c (w.drewN n) := ⟨h.row, h.data⟩
theorem OutSt.nil (B : Nat) (w : World) : OutSt B [] none 0 w := ⟨World.ownsRow_nil _ _ _ _, fun p hp => by cases hp⟩
/-- One event more. -/
theorem OutSt.push {B : Nat} {ps : List (Ev × Value)} {a : Option Addr} {c : Nat} {w w' : World} (h : OutSt B ps a c w) {p : Ev × Value} (hp : DOwn B w p) {g cap : Nat} (ho : w'.ownsRow B 53 3 (.slice (some ⟨g, 0, none⟩) (ps.length + 1) cap) (ps.length + 1) (flatE ps ++ [.int .i64 p.1.at_, .int .i64 p.1.kind, p.2])) (hg : w.grownBy w' (Value.slice a ps.length c).ownBlock) : OutSt B (ps ++ [p]) (some ⟨g, 0, none⟩) cap w' := by
  have hk : ∀ q, DOwn B w q → DOwn B w' q := fun q hq => hq.kept hg (own_ne hq.1 h.row (by decide))
  refine ⟨?_, fun q hq => ?_⟩
  · rw [List.length_append, flatE_app]
    exact ho
  · rcases List.mem_append.1 hq with hq | hq
    · exact hk q (h.data q hq)
    · rw [List.mem_singleton.1 hq]; exact hk p hp
end Go.Proofs.YtenicnneppgfmaaDoor
namespace Go.Proofs.YtenicnneppgfmaaDoor
open Go Go.RowKit Go.ChangeShapes Go.WideShapes Go.Deep
set_option linter.unusedVariables false

/-- What Decode answers. -/
def DecPost (b : List UInt8) (w : World) (en : Ending) (w' : World) : Prop := ∃ c l vo, DecR b c l ∧ en = .returned (.tuple #[vo, .int .i64 c]) ∧ EvsR w'.heap.size w' vo l ∧ Below w.heap.size w w'
theorem DecPost.no {b : List UInt8} {w w' : World} {c : Int} (h : DecR b c []) (hb : Below w.heap.size w w') : DecPost b w (.returned (.tuple #[.slice none 0 0, .int .i64 c])) w' := ⟨c, [], _, h, rfl, SlN.nil _ _ _ _ _, hb⟩

theorem parts4 {n : Nat} {p : List UInt8} {d0 d1 d2 d3 : UInt8} (hp : p.length = n) : (p ++ [d0, d1, d2, d3]).length = n + 4 ∧ (p ++ [d0, d1, d2, d3]).take ((p ++ [d0, d1, d2, d3]).length - 4) = p ∧ (p ++ [d0, d1, d2, d3]).drop ((p ++ [d0, d1, d2, d3]).length - 4) = [d0, d1, d2, d3] := by
  subst hp
  refine ⟨by simp, ?_, ?_⟩
  · rw [show (p ++ [d0, d1, d2, d3]).length - 4 = p.length by simp]; simp
  · rw [show (p ++ [d0, d1, d2, d3]).length - 4 = p.length by simp]; simp
theorem DecR.sum {n : Nat} {p : List UInt8} {d0 d1 d2 d3 : UInt8} (hp : p.length = n) (h1 : 1 ≤ n) (h2 : n ≤ 59996) (hs : sumB p ≠ [d0, d1, d2, d3]) : DecR (p ++ [d0, d1, d2, d3]) 10 [] := by
  obtain ⟨k1, k2, k3⟩ := parts4 (d0 := d0) (d1 := d1) (d2 := d2) (d3 := d3) hp
  exact Or.inr (Or.inr (Or.inl ⟨by omega, by omega, by rw [k2, k3]; exact hs, rfl, rfl⟩))
theorem DecR.body {n : Nat} {p : List UInt8} {d0 d1 d2 d3 : UInt8} {c : Int} {l : List Ev} (hp : p.length = n) (h1 : 1 ≤ n) (h2 : n ≤ 59996) (hs : sumB p = [d0, d1, d2, d3]) (h : BodyR p c l) : DecR (p ++ [d0, d1, d2, d3]) c l := by
  obtain ⟨k1, k2, k3⟩ := parts4 (d0 := d0) (d1 := d1) (d2 := d2) (d3 := d3) hp
  exact Or.inr (Or.inr (Or.inr ⟨by omega, by omega, by rw [k2, k3]; exact hs, by rw [k2]; exact h⟩))

end Go.Proofs.YtenicnneppgfmaaDoor
namespace Go.Proofs.YtenicnneppgfmaaDoor
open Go Go.RowKit Go.ChangeShapes Go.WideShapes Go.Deep
set_option linter.unusedVariables false

/-- The events that are read so far. -/
def EvsGo (m : Nat) (r1 : List UInt8) (i : Nat) (at_ : Int) (cs : List UInt8) (l : List Ev) : Prop := evsP m 0 r1 = ((evsP (m - i) at_ cs).1, l ++ (evsP (m - i) at_ cs).2.1, (evsP (m - i) at_ cs).2.2)
theorem EvsGo.start (m : Nat) (r1 : List UInt8) : EvsGo m r1 0 0 r1 [] := rfl
theorem EvsGo.step {m i : Nat} {r1 cs r : List UInt8} {at_ : Int} {l : List Ev} {x : Ev} (h : EvsGo m r1 i at_ cs l) (hi : i < m) (he : evP at_ cs = (0, x, r)) : EvsGo m r1 (i + 1) x.at_ r (l ++ [x]) := by
  unfold EvsGo at h ⊢
  rw [h, show m - i = m - (i + 1) + 1 by omega, evsP_go he]
  simp
theorem EvsGo.fin {m : Nat} {r1 cs : List UInt8} {at_ : Int} {l : List Ev} (h : EvsGo m r1 m at_ cs l) : evsP m 0 r1 = (0, l, cs) := by
  unfold EvsGo at h
  rw [h, Nat.sub_self]
  simp [evsP]

end Go.Proofs.YtenicnneppgfmaaDoor
namespace Go.Proofs.YtenicnneppgfmaaDoor
open Go Go.RowKit Go.ChangeShapes Go.WideShapes Go.Deep
set_option linter.unusedVariables false

set_option maxRecDepth 100000 in
theorem conv_bytes {w : World} {B : Nat} {a : Option Addr} {c n : Nat} {bs : List UInt8} (h : BytesR B w (.slice a n c) bs) : (convert 26 9 (.slice a n c)).run Tryd.prog w = .ok (.string ⟨bs.toArray⟩) w := by
  obtain ⟨a', cap, hv, _, _, hc⟩ := h
  injection hv with h1 h2 h3
  subst h1 h2
  cases a with
  | none =>
    have h0 : bs.length = 0 := by
      rcases Nat.eq_zero_or_pos bs.length with h | h
      · exact h
      · obtain ⟨_, _, _, hh, _⟩ := hc 0 h; cases hh
    have e0 : bs = [] := List.eq_nil_of_length_eq_zero h0
    subst e0
    exact run_convert_bytes_nil w 26 5 Tryd.underlying26 Tryd.underlying5 _ _ _ Tryd.underlying9
  | some ad =>
    refine run_convert_bytes_back w 26 9 5 ad c bs Tryd.underlying26 Tryd.underlying5 Tryd.underlying9 (fun j hj => ?_)
    obtain ⟨b, off, vi, ha, _, hcell, hvi⟩ := hc j hj
    injection ha with ha
    subst ha
    rw [add_plain, hcell, hvi]
end Go.Proofs.YtenicnneppgfmaaDoor
