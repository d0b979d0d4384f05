/- What a decoding of bytes answers, in plain Lean; events that lie in memory of the call's own. No condition beyond those of each row. -/
import Derived.Test.YtiekilpddmdhnaaDoorRg
namespace Go.Proofs.YtiekilpddmdhnaaDoor
open Go Go.RowKit Go.ChangeShapes Go.WideShapes Go.Deep
set_option linter.unusedVariables false

def BodyR (p : List UInt8) (c : Int) (l : List Ev) : Prop := ∃ e1 m r1, numP 0 0 p = (e1, m, r1) ∧ ((1000 < m ∧ c = 1 ∧ l = []) ∨ (m ≤ 1000 ∧ e1 ≠ 0 ∧ c = e1 ∧ l = []) ∨ (m ≤ 1000 ∧ e1 = 0 ∧ ∃ e ev r, evsP m 0 r1 = (e, ev, r) ∧ ((e ≠ 0 ∧ c = e ∧ l = []) ∨ (e = 0 ∧ r ≠ [] ∧ c = 4 ∧ l = []) ∨ (e = 0 ∧ r = [] ∧ EvRes ev c ∧ l = if c = 0 then ev else []))))
def DecR (b : List UInt8) (c : Int) (l : List Ev) : Prop := (60000 < b.length ∧ c = 1 ∧ l = []) ∨ (b.length < 5 ∧ c = 5 ∧ l = []) ∨ (5 ≤ b.length ∧ b.length ≤ 60000 ∧ sumB (b.take (b.length - 4)) ≠ b.drop (b.length - 4) ∧ c = 10 ∧ l = []) ∨ (5 ≤ b.length ∧ b.length ≤ 60000 ∧ sumB (b.take (b.length - 4)) = b.drop (b.length - 4) ∧ BodyR (b.take (b.length - 4)) c l)
theorem BodyR.det {p : List UInt8} {c d : Int} {l m : List Ev} (h : BodyR p c l) (k : BodyR p d m) : c = d ∧ l = m := by
  obtain ⟨e1, m1, r1, hn, h⟩ := h
  obtain ⟨e1', m1', r1', hn', k⟩ := k
  rw [hn] at hn'
  injection hn' with x1 x2
  injection x2 with x2 x3
  subst x1 x2 x3
  rcases h with ⟨h1, rfl, rfl⟩ | ⟨h1, h2, rfl, rfl⟩ | ⟨h1, h2, e, ev, r, he, h⟩ <;> rcases k with ⟨k1, rfl, rfl⟩ | ⟨k1, k2, rfl, rfl⟩ | ⟨k1, k2, e', ev', r', he', k⟩
  · exact ⟨rfl, rfl⟩
  · omega
  · omega
  · omega
  · exact ⟨rfl, rfl⟩
  · exact absurd k2 h2
  · omega
  · exact absurd h2 k2
  · rw [he] at he'
    injection he' with x1 x2
    injection x2 with x2 x3
    subst x1 x2 x3
    rcases h with ⟨h3, rfl, rfl⟩ | ⟨h3, h4, rfl, rfl⟩ | ⟨h3, h4, h5, rfl⟩ <;> rcases k with ⟨k3, rfl, rfl⟩ | ⟨k3, k4, rfl, rfl⟩ | ⟨k3, k4, k5, rfl⟩
    · exact ⟨rfl, rfl⟩
    · exact absurd k3 h3
    · exact absurd k3 h3
    · exact absurd h3 k3
    · exact ⟨rfl, rfl⟩
    · exact absurd k4 h4
    · exact absurd h3 k3
    · exact absurd h4 k4
    · obtain rfl := h5.det k5
      exact ⟨rfl, rfl⟩
theorem DecR.det {b : List UInt8} {c d : Int} {l m : List Ev} (h : DecR b c l) (k : DecR b d m) : c = d ∧ l = m := by
  rcases h with ⟨h1, rfl, rfl⟩ | ⟨h1, rfl, rfl⟩ | ⟨h1, h2, h3, rfl, rfl⟩ | ⟨h1, h2, h3, h4⟩ <;> rcases k with ⟨k1, rfl, rfl⟩ | ⟨k1, rfl, rfl⟩ | ⟨k1, k2, k3, rfl, rfl⟩ | ⟨k1, k2, k3, k4⟩
  · exact ⟨rfl, rfl⟩
  · omega
  · omega
  · omega
  · omega
  · exact ⟨rfl, rfl⟩
  · omega
  · omega
  · omega
  · omega
  · exact ⟨rfl, rfl⟩
  · exact absurd k3 h3
  · omega
  · omega
  · exact absurd h3 k3
  · exact h4.det k4

/-! ### Events of the call's own -/
def flatE (ps : List (Ev × Value)) : List Value := ps.flatMap fun p => [.int .i64 p.1.at_, .int .i64 p.1.kind, p.2]
theorem flatE_app (a b : List (Ev × Value)) : flatE (a ++ b) = flatE a ++ flatE b := by simp [flatE]
theorem flatE_len (ps : List (Ev × Value)) : (flatE ps).length = ps.length * 3 := by
  induction ps with
  | nil => rfl
  | cons p ps ih => rw [show flatE (p :: ps) = [.int .i64 p.1.at_, .int .i64 p.1.kind, p.2] ++ flatE ps from rfl, List.length_append, ih, List.length_cons]; simp; omega
theorem flatE_get : ∀ (ps : List (Ev × Value)) (i j : Nat) (hi : i < ps.length) (hj : j < 3), (flatE ps)[i * 3 + j]? = ([.int .i64 ps[i].1.at_, .int .i64 ps[i].1.kind, ps[i].2] : List Value)[j]? := by
  intro ps
  induction ps with
  | nil => intro i j hi; simp at hi
  | cons p ps ih =>
    intro i j hi hj
    rw [show flatE (p :: ps) = [.int .i64 p.1.at_, .int .i64 p.1.kind, p.2] ++ flatE ps from rfl]
    cases i with
    | zero => rw [List.getElem?_append_left (by simp; omega)]; simp
    | succ i =>
      rw [List.getElem?_append_right (by simp; omega), show (i + 1) * 3 + j - ([Value.int .i64 p.1.at_, .int .i64 p.1.kind, p.2] : List Value).length = i * 3 + j by simp; omega]
      exact ih i j (by simpa using hi) hj
theorem info_ev : (Tryd.prog.info? 54).map (fun i => (i.zero, i.size, i.bytes)) = some (some (.agg #[.int .i64 0, .int .i64 0, .slice none 0 0]), 3, 40) := by kernel_rfl
/-- The words of an event lie in a row of the call's own. -/
def DOwn (B : Nat) (w : World) (p : Ev × Value) : Prop := w.ownsRow B 3 1 p.2 p.1.data.length (p.1.data.map (Value.int .i64)) ∧ (∀ z ∈ p.1.data, I64 z) ∧ p.1.data.length ≤ 16 ∧ I64 p.1.at_ ∧ I64 p.1.kind
structure OutSt (B : Nat) (ps : List (Ev × Value)) (a : Option Addr) (c : Nat) (w : World) : Prop where
  row : w.ownsRow B 54 3 (.slice a ps.length c) ps.length (flatE ps)
  data : ∀ p ∈ ps, DOwn B w p
theorem DOwn.ev {B : Nat} {w : World} {p : Ev × Value} (h : DOwn B w p) : EvC w.heap.size w [.int .i64 p.1.at_, .int .i64 p.1.kind, p.2] p.1 := by
  obtain ⟨h1, h2, h3, h4, h5⟩ := h
  obtain ⟨ad, cd, hv⟩ := own_shape h1
  have hi := ints_of_owns h1 (by omega) h2
  rw [hv] at hi ⊢
  exact ⟨ad, cd, rfl, h4, h5, hi⟩
theorem OutSt.evs {B : Nat} {ps : List (Ev × Value)} {a : Option Addr} {c : Nat} {w : World} (h : OutSt B ps a c w) (hl : ps.length ≤ 100000) : EvsR w.heap.size w (.slice a ps.length c) (ps.map (·.1)) := by
  rcases h.row.2 with ⟨hv, h0⟩ | ⟨g, cap, cur, hv, hb, hg, hnc, hcap, hcs, htk⟩
  · have e0 : ps = [] := List.eq_nil_of_length_eq_zero h0
    subst e0
    injection hv with h1 h2 h3
    subst h1 h3
    exact SlN.nil _ _ _ _ _
  · injection hv with h1 h2 h3
    subst h1 h3
    refine ⟨_, _, by rw [List.length_map], by rw [List.length_map]; omega, by rw [List.length_map]; omega, fun i hi => ?_⟩
    rw [List.length_map] at hi
    refine ⟨g, 0, [.int .i64 ps[i].1.at_, .int .i64 ps[i].1.kind, ps[i].2], rfl, (Array.getElem?_eq_some_iff.1 hg).1, rfl, fun j hj => ?_, ?_⟩
    · have hj3 : j < 3 := by simpa using hj
      have := h.row.cells (g := g) rfl (i * 3 + j) _ ((flatE_get ps i j hi hj3).trans (List.getElem?_eq_getElem (by simpa using hj)))
      rw [add_plain] at this
      rw [Nat.add_assoc]
      exact this
    · rw [List.getElem_map]
      exact (h.data _ (List.getElem_mem hi)).ev
theorem DOwn.kept {B : Nat} {w w' : World} {p : Ev × Value} {r : Option Nat} (h : DOwn B w p) (hg : w.grownBy w' r) (hne : p.2.ownBlock = none ∨ p.2.ownBlock ≠ r) : DOwn B w' p := ⟨h.1.kept hg hne, h.2⟩
theorem DOwn.kept_lt {B g : Nat} {w w' : World} {p : Ev × Value} (h : DOwn B w p) (hg : w.grownBy w' (some g)) (hlt : g < B) : DOwn B w' p := by
  refine h.kept hg ?_
  cases hob : p.2.ownBlock with
  | none => exact Or.inl rfl
  | some k => exact Or.inr (by have := (h.1.lt k hob).1; simp; omega)
theorem OutSt.kept_lt {B g : Nat} {ps : List (Ev × Value)} {a : Option Addr} {c : Nat} {w w' : World} (h : OutSt B ps a c w) (hg : w.grownBy w' (some g)) (hlt : g < B) : OutSt B ps a c w' := by
  refine ⟨h.row.kept hg ?_, fun p hp => (h.data p hp).kept_lt hg hlt⟩
  cases hob : (Value.slice a ps.length c).ownBlock with
  | none => exact Or.inl rfl
  | some k => exact Or.inr (by have := (h.row.lt k hob).1; simp; omega)
theorem OutSt.alloc {B : Nat} {ps : List (Ev × Value)} {a : Option Addr} {c : Nat} {w : World} (h : OutSt B ps a c w) (O : Obj) : OutSt B ps a c (w.alloc O) :=
  ⟨h.row.alloc O, fun p hp => ⟨(h.data p hp).1.alloc O, (h.data p hp).2⟩⟩
theorem OutSt.drewN {B : Nat} {ps : List (Ev × Value)} {a : Option Addr} {c : Nat} {w : World} (h : OutSt B ps a c w) (n : Nat) : OutSt B ps a c (w.drewN n) := ⟨h.row, h.data⟩
theorem OutSt.nil (B : Nat) (w : World) : OutSt B [] none 0 w := ⟨World.ownsRow_nil _ _ _ _, fun p hp => by cases hp⟩
/-- One event more. -/
theorem OutSt.push {B : Nat} {ps : List (Ev × Value)} {a : Option Addr} {c : Nat} {w w' : World} (h : OutSt B ps a c w) {p : Ev × Value} (hp : DOwn B w p) {g cap : Nat} (ho : w'.ownsRow B 54 3 (.slice (some ⟨g, 0, none⟩) (ps.length + 1) cap) (ps.length + 1) (flatE ps ++ [.int .i64 p.1.at_, .int .i64 p.1.kind, p.2])) (hg : w.grownBy w' (Value.slice a ps.length c).ownBlock) : OutSt B (ps ++ [p]) (some ⟨g, 0, none⟩) cap w' := by
  have hk : ∀ q, DOwn B w q → DOwn B w' q := fun q hq => hq.kept hg (own_ne hq.1 h.row (by decide))
  refine ⟨?_, fun q hq => ?_⟩
  · rw [List.length_append, flatE_app]
    exact ho
  · rcases List.mem_append.1 hq with hq | hq
    · exact hk q (h.data q hq)
    · rw [List.mem_singleton.1 hq]; exact hk p hp
theorem bytes_take {B : Nat} {w : World} {a : Option Addr} {n cap : Nat} {bs : List UInt8} (h : BytesR B w (.slice a n cap) bs) {k : Nat} (hk : k ≤ bs.length) : BytesR B w (.slice a k cap) (bs.take k) := by
  obtain ⟨a', c', hv, hl, hl2, hc⟩ := h
  injection hv with h1 h2 h3
  subst h1 h3
  refine ⟨_, _, by rw [List.length_take, Nat.min_eq_left hk], by rw [List.length_take]; omega, by rw [List.length_take]; omega, fun i hi => ?_⟩
  rw [List.length_take] at hi
  obtain ⟨b, off, vi, ha, hb, hcell, hvi⟩ := hc i (by omega)
  exact ⟨b, off, vi, ha, hb, hcell, by rw [List.getElem_take]; exact hvi⟩
end Go.Proofs.YtiekilpddmdhnaaDoor
