/- Several texts joined, each with its own heading in the notes: What a decoding of bytes answers, in plain Lean; events that lie in memory of the call's own. Bytes that are read are those that would be written; in plain Lean. The contract of evlog. The contract of evlog. The contracts of the reference's tape: next, zig. What EventsOf of the reference holds while it reads an event. 'string(b)' of bytes that are read. No condition beyond those of each row. -/
import Derived.Test.YtiekilpddmdhnaaDoorYRn
import Derived.Laws.IdiomStrings
import Derived.Laws.BytesArg
namespace Go.Proofs.YtiekilpddmdhnaaDoor
open Go Go.RowKit Go.ChangeShapes Go.WideShapes Go.Deep
set_option linter.unusedVariables false

def BodyR (p : List UInt8) (c : Int) (l : List Ev) : Prop := ∃ e1 m r1, numP 0 0 p = (e1, m, r1) ∧ ((1000 < m ∧ c = 1 ∧ l = []) ∨ (m ≤ 1000 ∧ e1 ≠ 0 ∧ c = e1 ∧ l = []) ∨ (m ≤ 1000 ∧ e1 = 0 ∧ ∃ e ev r, evsP m 0 r1 = (e, ev, r) ∧ ((e ≠ 0 ∧ c = e ∧ l = []) ∨ (e = 0 ∧ r ≠ [] ∧ c = 4 ∧ l = []) ∨ (e = 0 ∧ r = [] ∧ EvRes ev c ∧ l = if c = 0 then ev else []))))
def DecR (b : List UInt8) (c : Int) (l : List Ev) : Prop := (60000 < b.length ∧ c = 1 ∧ l = []) ∨ (b.length < 5 ∧ c = 5 ∧ l = []) ∨ (5 ≤ b.length ∧ b.length ≤ 60000 ∧ sumB (b.take (b.length - 4)) ≠ b.drop (b.length - 4) ∧ c = 10 ∧ l = []) ∨ (5 ≤ b.length ∧ b.length ≤ 60000 ∧ sumB (b.take (b.length - 4)) = b.drop (b.length - 4) ∧ BodyR (b.take (b.length - 4)) c l)
theorem BodyR.det {p : List UInt8} {c d : Int} {l m : List Ev} (h : BodyR p c l) (k : BodyR p d m) : c = d ∧ l = m := by
  obtain ⟨e1, m1, r1, hn, h⟩ := h
  obtain ⟨e1', m1', r1', hn', k⟩ := k
  rw [hn] at hn'
  injection hn' with x1 x2
  injection x2 with x2 x3
  subst x1 x2 x3
  rcases h with ⟨h1, rfl, rfl⟩ | ⟨h1, h2, rfl, rfl⟩ | ⟨h1, h2, e, ev, r, he, h⟩ <;> rcases k with ⟨k1, rfl, rfl⟩ | ⟨k1, k2, rfl, rfl⟩ | ⟨k1, k2, e', ev', r', he', k⟩
  · exact ⟨rfl, rfl⟩
  · omega
  · omega
  · omega
  · exact ⟨rfl, rfl⟩
  · exact absurd k2 h2
  · omega
  · exact absurd h2 k2
  · rw [he] at he'
    injection he' with x1 x2
    injection x2 with x2 x3
    subst x1 x2 x3
    rcases h with ⟨h3, rfl, rfl⟩ | ⟨h3, h4, rfl, rfl⟩ | ⟨h3, h4, h5, rfl⟩ <;> rcases k with ⟨k3, rfl, rfl⟩ | ⟨k3, k4, rfl, rfl⟩ | ⟨k3, k4, k5, rfl⟩
    · exact ⟨rfl, rfl⟩
    · exact absurd k3 h3
    · exact absurd k3 h3
    · exact absurd h3 k3
    · exact ⟨rfl, rfl⟩
    · exact absurd k4 h4
    · exact absurd h3 k3
    · exact absurd h4 k4
    · obtain rfl := h5.det k5
      exact ⟨rfl, rfl⟩
theorem DecR.det {b : List UInt8} {c d : Int} {l m : List Ev} (h : DecR b c l) (k : DecR b d m) : c = d ∧ l = m := by
  rcases h with ⟨h1, rfl, rfl⟩ | ⟨h1, rfl, rfl⟩ | ⟨h1, h2, h3, rfl, rfl⟩ | ⟨h1, h2, h3, h4⟩ <;> rcases k with ⟨k1, rfl, rfl⟩ | ⟨k1, rfl, rfl⟩ | ⟨k1, k2, k3, rfl, rfl⟩ | ⟨k1, k2, k3, k4⟩
  · exact ⟨rfl, rfl⟩
  · omega
  · omega
  · omega
  · omega
  · exact ⟨rfl, rfl⟩
  · omega
  · omega
  · omega
  · omega
  · exact ⟨rfl, rfl⟩
  · exact absurd k3 h3
  · omega
  · omega
  · exact absurd h3 k3
  · exact h4.det k4

/-! ### Events of the call's own -/
def flatE (ps : List (Ev × Value)) : List Value := ps.flatMap fun p => [.int .i64 p.1.at_, .int .i64 p.1.kind, p.2]
theorem flatE_app (a b : List (Ev × Value)) : flatE (a ++ b) = flatE a ++ flatE b := by simp [flatE]
theorem flatE_len (ps : List (Ev × Value)) : (flatE ps).length = ps.length * 3 := by
  induction ps with
  | nil => rfl
  | cons p ps ih => rw [show flatE (p :: ps) = [.int .i64 p.1.at_, .int .i64 p.1.kind, p.2] ++ flatE ps from rfl, List.length_append, ih, List.length_cons]; simp; omega
theorem flatE_get : ∀ (ps : List (Ev × Value)) (i j : Nat) (hi : i < ps.length) (hj : j < 3), (flatE ps)[i * 3 + j]? = ([.int .i64 ps[i].1.at_, .int .i64 ps[i].1.kind, ps[i].2] : List Value)[j]? := by
  intro ps
  induction ps with
  | nil => intro i j hi; simp at hi
  | cons p ps ih =>
    intro i j hi hj
    rw [show flatE (p :: ps) = [.int .i64 p.1.at_, .int .i64 p.1.kind, p.2] ++ flatE ps from rfl]
    cases i with
    | zero => rw [List.getElem?_append_left (by simp; omega)]; simp
    | succ i =>
      rw [List.getElem?_append_right (by simp; omega), show (i + 1) * 3 + j - ([Value.int .i64 p.1.at_, .int .i64 p.1.kind, p.2] : List Value).length = i * 3 + j by simp; omega]
      exact ih i j (by simpa using hi) hj
theorem info_ev : (Tryd.prog.info? 54).map (fun i => (i.zero, i.size, i.bytes)) = some (some (.agg #[.int .i64 0, .int .i64 0, .slice none 0 0]), 3, 40) := by kernel_rfl
/-- The words of an event lie in a row of the call's own. -/
def DOwn (B : Nat) (w : World) (p : Ev × Value) : Prop := w.ownsRow B 3 1 p.2 p.1.data.length (p.1.data.map (Value.int .i64)) ∧ (∀ z ∈ p.1.data, I64 z) ∧ p.1.data.length ≤ 16 ∧ I64 p.1.at_ ∧ I64 p.1.kind
structure OutSt (B : Nat) (ps : List (Ev × Value)) (a : Option Addr) (c : Nat) (w : World) : Prop where
  row : w.ownsRow B 54 3 (.slice a ps.length c) ps.length (flatE ps)
  data : ∀ p ∈ ps, DOwn B w p
theorem DOwn.ev {B : Nat} {w : World} {p : Ev × Value} (h : DOwn B w p) : EvC w.heap.size w [.int .i64 p.1.at_, .int .i64 p.1.kind, p.2] p.1 := by
  obtain ⟨h1, h2, h3, h4, h5⟩ := h
  obtain ⟨ad, cd, hv⟩ := own_shape h1
  have hi := ints_of_owns h1 (by omega) h2
  rw [hv] at hi ⊢
  exact ⟨ad, cd, rfl, h4, h5, hi⟩
theorem OutSt.evs {B : Nat} {ps : List (Ev × Value)} {a : Option Addr} {c : Nat} {w : World} (h : OutSt B ps a c w) (hl : ps.length ≤ 100000) : EvsR w.heap.size w (.slice a ps.length c) (ps.map (·.1)) := by
  rcases h.row.2 with ⟨hv, h0⟩ | ⟨g, cap, cur, hv, hb, hg, hnc, hcap, hcs, htk⟩
  · have e0 : ps = [] := List.eq_nil_of_length_eq_zero h0
    subst e0
    injection hv with h1 h2 h3
    subst h1 h3
    exact SlN.nil _ _ _ _ _
  · injection hv with h1 h2 h3
    subst h1 h3
    refine ⟨_, _, by rw [List.length_map], by rw [List.length_map]; omega, by rw [List.length_map]; omega, fun i hi => ?_⟩
    rw [List.length_map] at hi
    refine ⟨g, 0, [.int .i64 ps[i].1.at_, .int .i64 ps[i].1.kind, ps[i].2], rfl, (Array.getElem?_eq_some_iff.1 hg).1, rfl, fun j hj => ?_, ?_⟩
    · have hj3 : j < 3 := by simpa using hj
      have := h.row.cells (g := g) rfl (i * 3 + j) _ ((flatE_get ps i j hi hj3).trans (List.getElem?_eq_getElem (by simpa using hj)))
      rw [add_plain] at this
      rw [Nat.add_assoc]
      exact this
    · rw [List.getElem_map]
      exact (h.data _ (List.getElem_mem hi)).ev
theorem DOwn.kept {B : Nat} {w w' : World} {p : Ev × Value} {r : Option Nat} (h : DOwn B w p) (hg : w.grownBy w' r) (hne : p.2.ownBlock = none ∨ p.2.ownBlock ≠ r) : DOwn B w' p := ⟨h.1.kept hg hne, h.2⟩
theorem DOwn.kept_lt {B g : Nat} {w w' : World} {p : Ev × Value} (h : DOwn B w p) (hg : w.grownBy w' (some g)) (hlt : g < B) : DOwn B w' p := by
  refine h.kept hg ?_
  cases hob : p.2.ownBlock with
  | none => exact Or.inl rfl
  | some k => exact Or.inr (by have := (h.1.lt k hob).1; simp; omega)
theorem OutSt.kept_lt {B g : Nat} {ps : List (Ev × Value)} {a : Option Addr} {c : Nat} {w w' : World} (h : OutSt B ps a c w) (hg : w.grownBy w' (some g)) (hlt : g < B) : OutSt B ps a c w' := by
  refine ⟨h.row.kept hg ?_, fun p hp => (h.data p hp).kept_lt hg hlt⟩
  cases hob : (Value.slice a ps.length c).ownBlock with
  | none => exact Or.inl rfl
  | some k => exact Or.inr (by have := (h.row.lt k hob).1; simp; omega)
theorem OutSt.alloc {B : Nat} {ps : List (Ev × Value)} {a : Option Addr} {c : Nat} {w : World} (h : OutSt B ps a c w) (O : Obj) : OutSt B ps a c (w.alloc O) :=
  ⟨h.row.alloc O, fun p hp => ⟨(h.data p hp).1.alloc O, (h.data p hp).2⟩⟩
theorem OutSt.drewN {B : Nat} {ps : List (Ev × Value)} {a : Option Addr} {c : Nat} {w : World} (h : OutSt B ps a c w) (n : Nat) : OutSt B ps a c (w.drewN n) := ⟨h.row, h.data⟩
theorem OutSt.nil (B : Nat) (w : World) : OutSt B [] none 0 w := ⟨World.ownsRow_nil _ _ _ _, fun p hp => by cases hp⟩
/-- One event more. -/
theorem OutSt.push {B : Nat} {ps : List (Ev × Value)} {a : Option Addr} {c : Nat} {w w' : World} (h : OutSt B ps a c w) {p : Ev × Value} (hp : DOwn B w p) {g cap : Nat} (ho : w'.ownsRow B 54 3 (.slice (some ⟨g, 0, none⟩) (ps.length + 1) cap) (ps.length + 1) (flatE ps ++ [.int .i64 p.1.at_, .int .i64 p.1.kind, p.2])) (hg : w.grownBy w' (Value.slice a ps.length c).ownBlock) : OutSt B (ps ++ [p]) (some ⟨g, 0, none⟩) cap w' := by
  have hk : ∀ q, DOwn B w q → DOwn B w' q := fun q hq => hq.kept hg (own_ne hq.1 h.row (by decide))
  refine ⟨?_, fun q hq => ?_⟩
  · rw [List.length_append, flatE_app]
    exact ho
  · rcases List.mem_append.1 hq with hq | hq
    · exact hk q (h.data q hq)
    · rw [List.mem_singleton.1 hq]; exact hk p hp
theorem bytes_take {B : Nat} {w : World} {a : Option Addr} {n cap : Nat} {bs : List UInt8} (h : BytesR B w (.slice a n cap) bs) {k : Nat} (hk : k ≤ bs.length) : BytesR B w (.slice a k cap) (bs.take k) := by
  obtain ⟨a', c', hv, hl, hl2, hc⟩ := h
  injection hv with h1 h2 h3
  subst h1 h3
  refine ⟨_, _, by rw [List.length_take, Nat.min_eq_left hk], by rw [List.length_take]; omega, by rw [List.length_take]; omega, fun i hi => ?_⟩
  rw [List.length_take] at hi
  obtain ⟨b, off, vi, ha, hb, hcell, hvi⟩ := hc i (by omega)
  exact ⟨b, off, vi, ha, hb, hcell, by rw [List.getElem_take]; exact hvi⟩
end Go.Proofs.YtiekilpddmdhnaaDoor
namespace Go.Proofs.YtiekilpddmdhnaaDoor
set_option linter.unusedVariables false

theorem evP_canon {a : Int} {bs r : List UInt8} {x : Ev} (h : evP a bs = (0, x, r)) : bs = evE a x ++ r ∧ a ≤ x.at_ := by
  obtain ⟨e, n, r1, hn⟩ : ∃ e n r1, numP 0 0 bs = (e, n, r1) := ⟨_, _, _, rfl⟩
  by_cases he : e = 0
  · subst he
    have hc := numP_canon hn
    rcases (show n % 4 = 0 ∨ n % 4 = 1 ∨ n % 4 = 2 ∨ n % 4 = 3 by omega) with hk | hk | hk | hk
    · rw [evP_0 hn hk] at h
      simp only [Prod.mk.injEq] at h
      exact absurd h.1 (by decide)
    · rw [evP_1 hn hk] at h
      simp only [Prod.mk.injEq, true_and] at h
      obtain ⟨rfl, rfl⟩ := h
      refine ⟨?_, by simp only; omega⟩
      unfold evE dataE
      rw [if_neg (by simp), if_neg (by simp), List.append_nil]
      simp only
      rw [show (4 * (a + ((n / 4 : Nat) : Int) - a) + 1).toNat = n by omega]
      exact hc
    · obtain ⟨e2, d, r2, hb⟩ : ∃ e2 d r2, blkP 16 [] 0 r1 = (e2, d, r2) := ⟨_, _, _, rfl⟩
      rw [evP_2 hn hk hb] at h
      simp only [Prod.mk.injEq] at h
      obtain ⟨rfl, rfl, rfl⟩ := h
      obtain ⟨t, ht, _, hbs, _⟩ := blkP_inv _ _ _ _ _ _ hb (by simp) (by simp)
      simp only [List.nil_append] at ht
      subst ht
      refine ⟨?_, by simp only; omega⟩
      unfold evE dataE
      simp only [if_pos]
      rw [show (4 * (a + ((n / 4 : Nat) : Int) - a) + 2).toNat = n by omega, List.append_assoc, ← hbs]
      exact hc
    · obtain ⟨e2, z, r2, hb⟩ : ∃ e2 z r2, numP 0 0 r1 = (e2, z, r2) := ⟨_, _, _, rfl⟩
      rw [evP_3 hn hk hb] at h
      simp only [Prod.mk.injEq] at h
      obtain ⟨rfl, rfl, rfl⟩ := h
      refine ⟨?_, by simp only; omega⟩
      unfold evE dataE
      rw [if_neg (by simp), if_pos rfl]
      simp only [List.getD_cons_zero]
      rw [show (4 * (a + ((n / 4 : Nat) : Int) - a) + 3).toNat = n by omega, zig_zag, List.append_assoc, ← numP_canon hb]
      exact hc
  · rw [evP_e hn he] at h
    simp only [Prod.mk.injEq] at h
    exact absurd h.1 he
theorem evsP_canon : ∀ (m : Nat) (a : Int) (bs r : List UInt8) (l : List Ev), evsP m a bs = (0, l, r) → bs = evsE a l ++ r ∧ l.length = m := by
  intro m
  induction m with
  | zero =>
    intro a bs r l h
    simp only [evsP, Prod.mk.injEq, true_and] at h
    obtain ⟨rfl, rfl⟩ := h
    exact ⟨rfl, rfl⟩
  | succ m ih =>
    intro a bs r l h
    obtain ⟨e, x, r1, hx⟩ : ∃ e x r1, evP a bs = (e, x, r1) := ⟨_, _, _, rfl⟩
    by_cases he : e = 0
    · subst he
      rw [evsP_go hx] at h
      obtain ⟨q1, q2, q3, hq⟩ : ∃ q1 q2 q3, evsP m x.at_ r1 = (q1, q2, q3) := ⟨_, _, _, rfl⟩
      rw [hq] at h
      simp only [Prod.mk.injEq] at h
      obtain ⟨rfl, rfl, rfl⟩ := h
      obtain ⟨h1, h2⟩ := ih _ _ _ _ hq
      refine ⟨?_, by rw [List.length_cons, h2]⟩
      rw [(evP_canon hx).1, h1, evsE, List.append_assoc]
    · rw [evsP_e hx he] at h
      simp only [Prod.mk.injEq] at h
      exact absurd h.1 he
theorem dec_canon {b : List UInt8} {l : List Ev} (h : DecR b 0 l) : b = encE l ∧ EvRes l 0 := by
  rcases h with ⟨_, h, _⟩ | ⟨_, h, _⟩ | ⟨_, _, _, h, _⟩ | ⟨h1, h2, hs, hb⟩
  · exact absurd h (by decide)
  · exact absurd h (by decide)
  · exact absurd h (by decide)
  · obtain ⟨e1, m, r1, hn, h⟩ := hb
    rcases h with ⟨_, h, _⟩ | ⟨_, h, h', _⟩ | ⟨hm, rfl, e, ev, r, he, h⟩
    · exact absurd h (by decide)
    · exact absurd h'.symm h
    · rcases h with ⟨h, h', _⟩ | ⟨_, _, h, _⟩ | ⟨rfl, rfl, hr, hl⟩
      · exact absurd h'.symm h
      · exact absurd h (by decide)
      · rw [if_pos rfl] at hl
        subst hl
        refine ⟨?_, hr⟩
        obtain ⟨k1, k2⟩ := evsP_canon _ _ _ _ _ he
        rw [List.append_nil] at k1
        have hp : b.take (b.length - 4) = payE l := by
          unfold payE
          rw [k2, numP_canon hn, ← k1]
        unfold encE
        rw [← hp, hs, List.take_append_drop]
theorem dec_err {b : List UInt8} {c : Int} {l : List Ev} (h : DecR b c l) (h0 : c ≠ 0) : l = [] := by
  rcases h with ⟨_, _, h⟩ | ⟨_, _, h⟩ | ⟨_, _, _, _, h⟩ | ⟨_, _, _, e1, m, r1, _, h⟩
  · exact h
  · exact h
  · exact h
  · rcases h with ⟨_, _, h⟩ | ⟨_, _, _, h⟩ | ⟨_, _, e, ev, r, _, h⟩
    · exact h
    · exact h
    · rcases h with ⟨_, _, h⟩ | ⟨_, _, _, h⟩ | ⟨_, _, _, h⟩
      · exact h
      · exact h
      · rw [if_neg h0] at h; exact h
end Go.Proofs.YtiekilpddmdhnaaDoor
namespace Go.Proofs.YtiekilpddmdhnaaDoor
open Go Go.RowKit Go.ChangeShapes Go.WideShapes Go.Deep
set_option linter.unusedVariables false

/-- What Decode answers. -/
def DecPost (b : List UInt8) (w : World) (en : Ending) (w' : World) : Prop := ∃ c l vo, DecR b c l ∧ en = .returned (.tuple #[vo, .int .i64 c]) ∧ EvsR w'.heap.size w' vo l ∧ Below w.heap.size w w'
theorem DecPost.no {b : List UInt8} {w w' : World} {c : Int} (h : DecR b c []) (hb : Below w.heap.size w w') : DecPost b w (.returned (.tuple #[.slice none 0 0, .int .i64 c])) w' := ⟨c, [], _, h, rfl, SlN.nil _ _ _ _ _, hb⟩

theorem decode_big (v : Value) (b : List UInt8) (w : World) (hf : BytesR w.heap.size w v b) (h : 60000 < b.length) : Calls Tryd.prog 7 #[v] w (DecPost b w) := by
  have HR := Lib.hid (show DecR b 1 [] from Or.inl ⟨h, rfl, rfl⟩)
  obtain ⟨a, cap, rfl, hl, hl2, hc⟩ := hf
  clear hc
  have hi : (60000 : Int) < (b.length : Int) := by omega
  go_enter Tryd.func7, Tryd.ntmps7
  go_wp2
  go_ret2
  exact DecPost.no HR.out (Below.refl _ _)
theorem decode_short (v : Value) (b : List UInt8) (w : World) (hf : BytesR w.heap.size w v b) (h : b.length < 5) : Calls Tryd.prog 7 #[v] w (DecPost b w) := by
  have HR := Lib.hid (show DecR b 5 [] from Or.inr (Or.inl ⟨h, rfl, rfl⟩))
  obtain ⟨a, cap, rfl, hl, hl2, hc⟩ := hf
  clear hc
  have hi : (b.length : Int) < 5 := by omega
  go_enter Tryd.func7, Tryd.ntmps7
  go_wp2
  go_ret2
  exact DecPost.no HR.out (Below.refl _ _)

theorem bytes_last4 {B : Nat} {w : World} {ad : Option Addr} {n cap : Nat} {p : List UInt8} {d0 d1 d2 d3 : UInt8} (hf : BytesR B w (.slice ad (n + 4) cap) (p ++ [d0, d1, d2, d3])) (hp : p.length = n) : ∃ bb off, ad = some ⟨bb, off, none⟩ ∧ bb < B ∧ n + 4 ≤ cap ∧ w.cell? ⟨bb, off + n, none⟩ = some (.int .u8 (d0.toNat : Int)) ∧ w.cell? ⟨bb, off + (n + 1), none⟩ = some (.int .u8 (d1.toNat : Int)) ∧ w.cell? ⟨bb, off + (n + 2), none⟩ = some (.int .u8 (d2.toNat : Int)) ∧ w.cell? ⟨bb, off + (n + 3), none⟩ = some (.int .u8 (d3.toNat : Int)) := by
  subst hp
  obtain ⟨a', c', hv, hl, hl2, hc⟩ := hf
  injection hv with h1 h2 h3
  subst h1 h3
  rw [List.length_append] at hl2
  simp only [List.length_cons, List.length_nil] at hl2
  have key : ∀ j (hj : j < 4), ∃ bb off, ad = some ⟨bb, off, none⟩ ∧ bb < B ∧ w.cell? ⟨bb, off + (p.length + j), none⟩ = some (.int .u8 ((([d0, d1, d2, d3] : List UInt8)[j]'(by simpa using hj)).toNat : Int)) := by
    intro j hj
    obtain ⟨bb, off, vi, ha, hbb, q, hvi⟩ := hc (p.length + j) (by rw [List.length_append]; simp; omega)
    unfold ByteV at hvi
    refine ⟨bb, off, ha, hbb, ?_⟩
    rw [q, hvi, List.getElem_append_right (by omega)]
    simp
  obtain ⟨bb, off, ha, hbb, q0⟩ := key 0 (by decide)
  obtain ⟨b1, o1, ha1, _, q1⟩ := key 1 (by decide)
  obtain ⟨b2, o2, ha2, _, q2⟩ := key 2 (by decide)
  obtain ⟨b3, o3, ha3, _, q3⟩ := key 3 (by decide)
  rw [ha] at ha1 ha2 ha3
  injection ha1 with ha1; injection ha1 with x1 y1; subst x1 y1
  injection ha2 with ha2; injection ha2 with x1 y1; subst x1 y1
  injection ha3 with ha3; injection ha3 with x1 y1; subst x1 y1
  exact ⟨bb, off, ha, hbb, by omega, q0, q1, q2, q3⟩

theorem sum_iff (p : List UInt8) (d0 d1 d2 d3 : UInt8) : sumB p = [d0, d1, d2, d3] ↔ (sum2 p : Int) * 65536 + (sum1 p : Int) = (d0.toNat : Int) * 16777216 + (d1.toNat : Int) * 65536 + (d2.toNat : Int) * 256 + (d3.toNat : Int) := by
  obtain ⟨hx, hy⟩ := sumS_lt p 1 0 (by decide) (by decide)
  change sum1 p < 65521 at hx
  change sum2 p < 65521 at hy
  have u0 := u8_lt d0
  have u1 := u8_lt d1
  have u2 := u8_lt d2
  have u3 := u8_lt d3
  unfold sumB
  generalize sum1 p = x at *
  generalize sum2 p = y at *
  constructor
  · intro h
    simp only [List.cons.injEq, and_true] at h
    obtain ⟨h0, h1, h2, h3⟩ := h
    have k0 := congrArg UInt8.toNat h0
    have k1 := congrArg UInt8.toNat h1
    have k2 := congrArg UInt8.toNat h2
    have k3 := congrArg UInt8.toNat h3
    rw [u8_nat (by omega)] at k0 k1 k2 k3
    omega
  · intro h
    have k0 : y / 256 = d0.toNat := by omega
    have k1 : y % 256 = d1.toNat := by omega
    have k2 : x / 256 = d2.toNat := by omega
    have k3 : x % 256 = d3.toNat := by omega
    rw [k0, k1, k2, k3, UInt8.ofNat_toNat, UInt8.ofNat_toNat, UInt8.ofNat_toNat, UInt8.ofNat_toNat]
theorem parts4 {n : Nat} {p : List UInt8} {d0 d1 d2 d3 : UInt8} (hp : p.length = n) : (p ++ [d0, d1, d2, d3]).length = n + 4 ∧ (p ++ [d0, d1, d2, d3]).take ((p ++ [d0, d1, d2, d3]).length - 4) = p ∧ (p ++ [d0, d1, d2, d3]).drop ((p ++ [d0, d1, d2, d3]).length - 4) = [d0, d1, d2, d3] := by
  subst hp
  refine ⟨by simp, ?_, ?_⟩
  · rw [show (p ++ [d0, d1, d2, d3]).length - 4 = p.length by simp]; simp
  · rw [show (p ++ [d0, d1, d2, d3]).length - 4 = p.length by simp]; simp
theorem DecR.sum {n : Nat} {p : List UInt8} {d0 d1 d2 d3 : UInt8} (hp : p.length = n) (h1 : 1 ≤ n) (h2 : n ≤ 59996) (hs : sumB p ≠ [d0, d1, d2, d3]) : DecR (p ++ [d0, d1, d2, d3]) 10 [] := by
  obtain ⟨k1, k2, k3⟩ := parts4 (d0 := d0) (d1 := d1) (d2 := d2) (d3 := d3) hp
  exact Or.inr (Or.inr (Or.inl ⟨by omega, by omega, by rw [k2, k3]; exact hs, rfl, rfl⟩))
theorem DecR.body {n : Nat} {p : List UInt8} {d0 d1 d2 d3 : UInt8} {c : Int} {l : List Ev} (hp : p.length = n) (h1 : 1 ≤ n) (h2 : n ≤ 59996) (hs : sumB p = [d0, d1, d2, d3]) (h : BodyR p c l) : DecR (p ++ [d0, d1, d2, d3]) c l := by
  obtain ⟨k1, k2, k3⟩ := parts4 (d0 := d0) (d1 := d1) (d2 := d2) (d3 := d3) hp
  exact Or.inr (Or.inr (Or.inr ⟨by omega, by omega, by rw [k2, k3]; exact hs, by rw [k2]; exact h⟩))

set_option maxHeartbeats 8000000 in
set_option maxRecDepth 100000 in
theorem decode_sum (ad : Option Addr) (N n cap : Nat) (p : List UInt8) (d0 d1 d2 d3 : UInt8) (w : World) (ht : Tab w) (hf : BytesR w.heap.size w (.slice ad N cap) (p ++ [d0, d1, d2, d3])) (hp : p.length = n) (hN : N = n + 4) (hn : 1 ≤ n) (hn2 : n ≤ 59996) (hs : sumB p ≠ [d0, d1, d2, d3]) : Calls Tryd.prog 7 #[.slice ad N cap] w (DecPost (p ++ [d0, d1, d2, d3]) w) := by
  have HT := Lib.hid ht
  clear ht
  have hb := bytes_take hf (k := n) (by rw [List.length_append]; omega)
  rw [show (p ++ [d0, d1, d2, d3]).take n = p by rw [← hp]; simp] at hb
  rw [← hp] at hb
  have HSM := Lib.hid (sum_any _ p w hb)
  have HBP := Lib.hid hb
  rw [hp] at HSM
  clear hb
  rw [hN] at hf
  obtain ⟨bb, off, rfl, hbb, hcap, q0, q1, q2, q3⟩ := bytes_last4 hf hp
  have hiff := sum_iff p d0 d1 d2 d3
  obtain ⟨S, hS⟩ : ∃ S : Int, S = (d0.toNat : Int) * 16777216 + (d1.toNat : Int) * 65536 + (d2.toNat : Int) * 256 + (d3.toNat : Int) := ⟨_, rfl⟩
  rw [← hS] at hiff
  obtain ⟨hx, hy⟩ := sumS_lt p 1 0 (by decide) (by decide)
  change sum1 p < 65521 at hx
  change sum2 p < 65521 at hy
  have u0 := u8_lt d0
  have u1 := u8_lt d1
  have u2 := u8_lt d2
  have u3 := u8_lt d3
  generalize sum1 p = x at *
  generalize sum2 p = y at *
  have HS := Lib.hid hs
  have hbool : (((y : Int) * 65536 + (x : Int)) != S) = true := by rw [bne_iff_ne]; exact fun e => hs (hiff.2 e)
  clear hs hiff
  generalize d0.toNat = c0 at *
  generalize d1.toNat = c1 at *
  generalize d2.toNat = c2 at *
  generalize d3.toNat = c3 at *
  have o1 : bits .or .i64 ((c0 : Int) * 16777216) ((c1 : Int) * 65536) = (c0 : Int) * 16777216 + (c1 : Int) * 65536 := i64_or_join 24 (by decide) _ _ (by omega) (by unfold I64; omega) (by omega) (by omega)
  have o2 : bits .or .i64 ((c0 : Int) * 16777216 + (c1 : Int) * 65536) ((c2 : Int) * 256) = (c0 : Int) * 16777216 + (c1 : Int) * 65536 + (c2 : Int) * 256 := i64_or_join 16 (by decide) _ _ (by omega) (by unfold I64; omega) (by omega) (by omega)
  have o3 : bits .or .i64 ((c0 : Int) * 16777216 + (c1 : Int) * 65536 + (c2 : Int) * 256) (c3 : Int) = S := by rw [hS]; exact i64_or_join 8 (by decide) _ _ (by omega) (by unfold I64; omega) (by omega) (by omega)
  clear hf hS
  have HP := Lib.hid hp
  clear hp
  have hN1 : (N : Int) - 4 = (n : Int) := by omega
  have hN2 : (N : Int) ≤ 60000 := by omega
  have hN3 : (5 : Int) ≤ (N : Int) := by omega
  have hN4 : n ≤ N := by omega
  have hN5 : N ≤ cap := by omega
  have hN6 : n ≤ cap := by omega
  clear hN hcap
  go_enter Tryd.func7, Tryd.ntmps7
  go_wp2_with fail
  refine HSM.out.mono ?_
  rintro en w1 ⟨rfl, rfl⟩
  go_wp2_with fail
  go_quiet (fail)
  go_wp2
  go_ret2
  exact DecPost.no (DecR.sum HP.out hn hn2 HS.out) (below_drewN (Below.refl _ _) _)

end Go.Proofs.YtiekilpddmdhnaaDoor
namespace Go.Proofs.YtiekilpddmdhnaaDoor
open Go Go.RowKit Go.ChangeShapes Go.WideShapes Go.Deep
set_option linter.unusedVariables false

theorem numP_err0 {bs r : List UInt8} {e : Int} {m : Nat} (h : numP 0 0 bs = (e, m, r)) (he : e ≠ 0) : m = 0 := by
  rcases numP_err bs 0 0 with k | ⟨_, k⟩
  · rw [h] at k; exact absurd k he
  · rw [h] at k; exact k
theorem evP_wide {a : Int} {bs : List UInt8} (ha : 0 ≤ a ∧ a ≤ 1000000000000000000) (x : Ev) (hx : a ≤ x.at_ ∧ x.at_ ≤ a + 140737488355328) : I64 x.at_ := by unfold I64; omega
theorem evP_kind (a : Int) (bs : List UInt8) : 0 ≤ (evP a bs).2.1.kind ∧ (evP a bs).2.1.kind ≤ 3 := by
  unfold evP
  simp only
  split
  · simp
  · split
    · simp
    · split
      · simp
      · split <;> simp
/-- The events that are read so far. -/
def EvsGo (m : Nat) (r1 : List UInt8) (i : Nat) (at_ : Int) (cs : List UInt8) (l : List Ev) : Prop := evsP m 0 r1 = ((evsP (m - i) at_ cs).1, l ++ (evsP (m - i) at_ cs).2.1, (evsP (m - i) at_ cs).2.2)
theorem EvsGo.start (m : Nat) (r1 : List UInt8) : EvsGo m r1 0 0 r1 [] := rfl
theorem EvsGo.step {m i : Nat} {r1 cs r : List UInt8} {at_ : Int} {l : List Ev} {x : Ev} (h : EvsGo m r1 i at_ cs l) (hi : i < m) (he : evP at_ cs = (0, x, r)) : EvsGo m r1 (i + 1) x.at_ r (l ++ [x]) := by
  unfold EvsGo at h ⊢
  rw [h, show m - i = m - (i + 1) + 1 by omega, evsP_go he]
  simp
theorem EvsGo.err {m i : Nat} {r1 cs r : List UInt8} {at_ e : Int} {l : List Ev} {x : Ev} (h : EvsGo m r1 i at_ cs l) (hi : i < m) (he : evP at_ cs = (e, x, r)) (h0 : e ≠ 0) : ∃ ev, evsP m 0 r1 = (e, ev, r) := by
  unfold EvsGo at h
  rw [h, show m - i = m - (i + 1) + 1 by omega, evsP_e he h0]
  exact ⟨_, rfl⟩
theorem EvsGo.fin {m : Nat} {r1 cs : List UInt8} {at_ : Int} {l : List Ev} (h : EvsGo m r1 m at_ cs l) : evsP m 0 r1 = (0, l, cs) := by
  unfold EvsGo at h
  rw [h, Nat.sub_self]
  simp [evsP]

set_option maxHeartbeats 1500000 in
set_option maxRecDepth 100000 in
theorem decode_body (ad : Option Addr) (N n cap : Nat) (p : List UInt8) (d0 d1 d2 d3 : UInt8) (w : World) (ht : Tab w) (hf : BytesR w.heap.size w (.slice ad N cap) (p ++ [d0, d1, d2, d3])) (hp : p.length = n) (hN : N = n + 4) (hn : 1 ≤ n) (hn2 : n ≤ 59996) (hs : sumB p = [d0, d1, d2, d3]) : Calls Tryd.prog 7 #[.slice ad N cap] w (DecPost (p ++ [d0, d1, d2, d3]) w) := by
  have HT := Lib.hid ht
  clear ht
  have hb := bytes_take hf (k := n) (by rw [List.length_append]; omega)
  rw [show (p ++ [d0, d1, d2, d3]).take n = p by rw [← hp]; simp] at hb
  rw [← hp] at hb
  have HSM := Lib.hid (sum_any _ p w hb)
  have HBP := Lib.hid hb
  rw [hp] at HSM
  clear hb
  rw [hN] at hf
  obtain ⟨bb, off, rfl, hbb, hcap, q0, q1, q2, q3⟩ := bytes_last4 hf hp
  have hiff := sum_iff p d0 d1 d2 d3
  obtain ⟨S, hS⟩ : ∃ S : Int, S = (d0.toNat : Int) * 16777216 + (d1.toNat : Int) * 65536 + (d2.toNat : Int) * 256 + (d3.toNat : Int) := ⟨_, rfl⟩
  rw [← hS] at hiff
  obtain ⟨hx, hy⟩ := sumS_lt p 1 0 (by decide) (by decide)
  change sum1 p < 65521 at hx
  change sum2 p < 65521 at hy
  have u0 := u8_lt d0
  have u1 := u8_lt d1
  have u2 := u8_lt d2
  have u3 := u8_lt d3
  generalize sum1 p = x at *
  generalize sum2 p = y at *
  have HS := Lib.hid hs
  have hbool : (((y : Int) * 65536 + (x : Int)) != S) = false := by rw [bne_eq_false_iff_eq]; exact hiff.1 hs
  clear hs hiff
  generalize d0.toNat = c0 at *
  generalize d1.toNat = c1 at *
  generalize d2.toNat = c2 at *
  generalize d3.toNat = c3 at *
  have o1 : bits .or .i64 ((c0 : Int) * 16777216) ((c1 : Int) * 65536) = (c0 : Int) * 16777216 + (c1 : Int) * 65536 := i64_or_join 24 (by decide) _ _ (by omega) (by unfold I64; omega) (by omega) (by omega)
  have o2 : bits .or .i64 ((c0 : Int) * 16777216 + (c1 : Int) * 65536) ((c2 : Int) * 256) = (c0 : Int) * 16777216 + (c1 : Int) * 65536 + (c2 : Int) * 256 := i64_or_join 16 (by decide) _ _ (by omega) (by unfold I64; omega) (by omega) (by omega)
  have o3 : bits .or .i64 ((c0 : Int) * 16777216 + (c1 : Int) * 65536 + (c2 : Int) * 256) (c3 : Int) = S := by rw [hS]; exact i64_or_join 8 (by decide) _ _ (by omega) (by unfold I64; omega) (by omega) (by omega)
  clear hf hS
  have HP := Lib.hid hp
  clear hp
  have hN1 : (N : Int) - 4 = (n : Int) := by omega
  have hN2 : (N : Int) ≤ 60000 := by omega
  have hN3 : (5 : Int) ≤ (N : Int) := by omega
  have hN4 : n ≤ N := by omega
  have hN5 : N ≤ cap := by omega
  have hN6 : n ≤ cap := by omega
  clear hN hcap
  go_enter Tryd.func7, Tryd.ntmps7
  go_wp2_with fail
  refine HSM.out.mono ?_
  rintro en w1 ⟨rfl, rfl⟩
  go_wp2_with fail
  go_quiet (fail)
  have HB2 := Lib.hid (show Rd w w.heap.size p 0 ((w.drewN nq).alloc (.cells #[.slice (some ⟨bb, off, none⟩) n cap, .int .i64 0] 51 (0, 0))) from ⟨⟨_, cap, by rw [HP.out]; exact alloc_at rfl, HBP.out⟩, Nat.le_refl _, (below_drewN (Below.refl _ _) _).alloc (Nat.le_refl _) _⟩)
  obtain ⟨e1, m, r1, hnum⟩ : ∃ e1 m r1, numP 0 0 p = (e1, m, r1) := ⟨_, _, _, rfl⟩
  have HNUM := Lib.hid hnum
  have HNN := Lib.hid (number_gen w w.heap.size p _ HB2.out (e0 := 0) hnum)
  have hml := numE_lt (e := 0) hnum
  have HDB := Lib.hid (fun (c : Int) (l : List Ev) (h : BodyR p c l) => DecR.body HP.out hn hn2 HS.out h)
  clear hnum o1 o2 o3 hbool u0 u1 u2 u3 hx hy q0 q1 q2 q3 HSM
  go_wp2_with fail
  refine HNN.out.mono ?_
  rintro en w2 ⟨rfl, hr2, hg2⟩
  have HR2 := Lib.hid hr2
  clear hr2 hg2 HNN HB2
  by_cases hm : 1000 < m
  · have hm2 : (1000 : Int) < (m : Int) := by omega
    have HPO := Lib.hid (HDB.out 1 [] ⟨e1, m, r1, HNUM.out, Or.inl ⟨hm, rfl, rfl⟩⟩)
    clear hm
    go_wp2
    go_ret2
    exact DecPost.no HPO.out HR2.out.b
  · have hm2 : (m : Int) ≤ 1000 := by omega
    have HE0 := Lib.hid (show e1 ≠ 0 → m = 0 from numP_err0 HNUM.out)
    go_wp2_with fail
    go_loopg [8, 9, 66] m (fun gh s8 s9 s66 wr => ∃ (i : Nat) (ps : List (Ev × Value)) (a : Option Addr) (c : Nat) (at_ : Int) (cs : List UInt8), i ≤ m ∧ gh = m - i ∧ s66 = .int .i64 i ∧ s9 = .int .i64 at_ ∧ 0 ≤ at_ ∧ at_ ≤ i * 140737488355328 ∧ ps.length = i ∧ s8 = .slice a ps.length c ∧ Hid (Rd w w.heap.size cs e1 wr) ∧ Hid (OutSt (w.heap.size + 1) ps a c wr) ∧ Hid (EvsGo m r1 i at_ cs (ps.map (·.1))))
    case atStart => exact ⟨0, [], none, 0, 0, r1, Nat.zero_le _, by omega, rfl, rfl, by omega, by omega, rfl, rfl, HR2, Lib.hid (OutSt.nil _ _), Lib.hid (EvsGo.start _ _)⟩
    case round =>
      obtain ⟨i, ps, a, c, at_, cs, hi, rfl, rfl, rfl, hat0, hat1, hpl, rfl, HR, HO, HG⟩ := hrel
      clear HR2
      by_cases hil : i < m
      · obtain rfl : e1 = 0 := by
          by_cases h : e1 = 0
          · exact h
          · have := HE0.out h; omega
        have hb48 : at_ ≤ 1000 * 140737488355328 := by omega
        have hlg := HR.out.lt
        have hwr := HR.out.b.size
        have HEV := Lib.hid (event_any w w.heap.size at_ cs wr HR.out HT.out ⟨by omega, by omega⟩)
        obtain ⟨e, x, r, hev⟩ : ∃ e x r, evP at_ cs = (e, x, r) := ⟨_, _, _, rfl⟩
        obtain ⟨xat, xkd, xda⟩ := x
        have HEQ := Lib.hid hev
        clear hev
        go_wp2_with fail
        refine HEV.out.mono ?_
        rintro en w4 hpost
        unfold EvPostR at hpost
        rw [HEQ.out] at hpost
        obtain ⟨x0, x1, da, dn, dc, rfl, hr4, hg4, hok⟩ := hpost
        simp only at hr4 hok
        have HR4 := Lib.hid (hr4.other (World.grownBy_alloc w4 (.cells #[.int .i64 x0, .int .i64 x1, .slice da dn dc] 54) none) (by simp) (by simp))
        have q1 := hr4.c1
        have q2 := HR4.out.c1
        have hs4 := hr4.lt
        have HO4 := Lib.hid (HO.out.kept_lt hg4 (by omega))
        have hsz4 := hg4.size
        by_cases he : e = 0
        · subst he
          obtain ⟨rfl, rfl, hdo, hd64, hd16, hge, hle⟩ := hok rfl
          have HDO := Lib.hid (show DOwn (w.heap.size + 1) w4 (⟨x0, x1, xda⟩, .slice da dn dc) from ⟨own_base hdo (by omega), hd64, hd16, by show I64 x0; unfold I64; omega, by have := evP_kind at_ cs; rw [HEQ.out] at this; simp only at this; show I64 x1; unfold I64; omega⟩)
          have z0 : (w4.alloc (.cells #[.int .i64 x0, .int .i64 x1, .slice da dn dc] 54)).cell? ⟨w4.heap.size, 0, none⟩ = some (.int .i64 x0) := cell_block (alloc_at rfl) 0
          have z1 : (w4.alloc (.cells #[.int .i64 x0, .int .i64 x1, .slice da dn dc] 54)).cell? ⟨w4.heap.size, 1, none⟩ = some (.int .i64 x1) := cell_block (alloc_at rfl) 1
          have z2 : (w4.alloc (.cells #[.int .i64 x0, .int .i64 x1, .slice da dn dc] 54)).cell? ⟨w4.heap.size, 2, none⟩ = some (.slice da dn dc) := cell_block (alloc_at rfl) 2
          have HO5 := Lib.hid (HO4.out.alloc (.cells #[.int .i64 x0, .int .i64 x1, .slice da dn dc] 54))
          have HGN := Lib.hid (HG.out.step hil HEQ.out)
          have hlt3 : x0 ≤ ((i : Int) + 1) * 140737488355328 := by omega
          have hge0 : 0 ≤ x0 := by omega
          have hpl2 : ps.length ≤ 1000 := by omega
          have hplz := Lib.hid hpl
          clear hdo hd64 hd16 hok hr4 hg4 HEV HR hat0 hat1 hge hle hb48 HO4 HG HO HEQ hpl
          go_wp2_with (at_builtin; go_loud (refine wpList_push (w4.alloc (.cells #[.int .i64 x0, .int .i64 x1, .slice da dn dc] 54)) rfl (.tmp 82) (.tmp 84) 23 rfl (w.heap.size + 1) 54 (.agg #[.int .i64 0, .int .i64 0, .slice none 0 0]) 3 40 Tryd.underlying23 info_ev rfl (by decide) [.int .i64 x0, .int .i64 x1, .slice da dn dc] rfl (by simp [Value.oneCell']) _ _ _ (by rfl) HO5.out.row (by rfl) (by simp) (by omega) (by omega) (by simp; omega) ?_); intro g5 cp5 w5 hown5 hgrow5; have HW5 := Lib.hid hown5; have HGR5 := Lib.hid hgrow5; clear hown5 hgrow5)
          have HO6 := Lib.hid (HO5.out.push (p := (⟨x0, x1, xda⟩, .slice da dn dc)) ⟨HDO.out.1.alloc _, HDO.out.2⟩ HW5.out HGR5.out)
          have HR6 := Lib.hid (HR4.out.other HGR5.out (fun e => by have := HO5.out.row.lt _ e.symm; omega) (fun k hk => by have := HO5.out.row.lt _ hk; omega))
          go_roundg (m - (i + 1))
          case measure => omega
          case rel => exact ⟨i + 1, ps ++ [(⟨x0, x1, xda⟩, .slice da dn dc)], _, _, x0, r, by omega, rfl, by go_num, rfl, hge0, by omega, by rw [List.length_append, hplz.out]; rfl, by rw [List.length_append]; rfl, HR6, HO6, Lib.hid (by rw [List.map_append]; exact HGN.out)⟩
        · have he0 : (e != 0) = true := by rw [bne_iff_ne]; exact he
          have he1 : (e == 0) = false := by rw [beq_eq_false_iff_ne]; exact he
          obtain ⟨ev, hev⟩ := HG.out.err hil HEQ.out he
          have HPO := Lib.hid (HDB.out e [] ⟨0, m, r1, HNUM.out, Or.inr (Or.inr ⟨by omega, rfl, e, ev, r, hev, Or.inl ⟨he, rfl, rfl⟩⟩)⟩)
          clear hev he hok hr4 hg4 HEV HR HG HO HO4 HEQ
          go_wp2_with fail
          go_quiet (fail)
          go_wp2
          go_ret2
          exact DecPost.no HPO.out (below_drewN HR4.out.b _)
      · obtain rfl : i = m := by omega
        obtain ⟨ab, cb, hxb, hbb2⟩ := HR.out.box
        have q0 : wr.cell? ⟨w.heap.size, 0, none⟩ = some (.slice ab cs.length cb) := cell_block hxb 0
        have q1 : wr.cell? ⟨w.heap.size, 1, none⟩ = some (.int .i64 e1) := cell_block hxb 1
        have hlg := HR.out.lt
        clear hxb hbb2
        by_cases he : e1 = 0
        · subst he
          have hfin := HG.out.fin
          by_cases hcs : cs = []
          · subst hcs
            have HEVS := Lib.hid (show EvsR wr.heap.size wr (.slice a i c) (ps.map (·.1)) by have := HO.out.evs (by omega); rw [hpl] at this; exact this)
            have HFIN := Lib.hid hfin
            simp only [List.length_nil] at q0
            have HCK := Lib.hid (evcheck_any _ _ wr HEVS.out (HT.out.to HR.out.b))
            clear hfin hat0 hat1
            go_wp2_with fail
            refine HCK.out.mono ?_
            rintro en w5 ⟨d, hd, rfl, hb5⟩
            have hsz := HR.out.b.size
            have HBB := Lib.hid (HR.out.b.trans (hb5.mono hsz))
            by_cases hd0 : d = 0
            · subst hd0
              have HPO := Lib.hid (HDB.out 0 (ps.map (·.1)) ⟨0, i, r1, HNUM.out, Or.inr (Or.inr ⟨by omega, rfl, 0, _, [], HFIN.out, Or.inr (Or.inr ⟨rfl, rfl, hd, rfl⟩)⟩)⟩)
              have HE5 := Lib.hid (HEVS.out.to hb5.size (same_below hb5))
              clear hd hb5
              go_wp2
              go_ret2
              exact ⟨0, _, _, HPO.out, rfl, HE5.out, HBB.out⟩
            · have hd1 : (d != 0) = true := by rw [bne_iff_ne]; exact hd0
              have HPO := Lib.hid (HDB.out d [] ⟨0, i, r1, HNUM.out, Or.inr (Or.inr ⟨by omega, rfl, 0, _, [], HFIN.out, Or.inr (Or.inr ⟨rfl, rfl, hd, by rw [if_neg hd0]⟩)⟩)⟩)
              clear hd hb5 hd0
              go_wp2
              go_ret2
              exact DecPost.no HPO.out HBB.out
          · have hcl : 0 < cs.length := List.length_pos_iff.2 hcs
            have hcl2 : (0 : Int) < (cs.length : Int) := by omega
            have HPO := Lib.hid (HDB.out 4 [] ⟨0, i, r1, HNUM.out, Or.inr (Or.inr ⟨by omega, rfl, 0, _, cs, hfin, Or.inr (Or.inl ⟨rfl, hcs, rfl, rfl⟩)⟩)⟩)
            have HW := Lib.hid (rwrong_gen w w.heap.size cs 4 wr HR.out)
            clear hfin hcs
            go_wp2_with fail
            refine HW.out.mono ?_
            rintro en w5 ⟨rfl, hr5, hg5⟩
            have q5 := hr5.c1
            have hlg5 := hr5.lt
            go_wp2_with fail
            go_quiet (fail)
            go_wp2
            go_ret2
            exact DecPost.no HPO.out (below_drewN hr5.b _)
        · have he0 : (e1 != 0) = true := by rw [bne_iff_ne]; exact he
          have he1 : (e1 == 0) = false := by rw [beq_eq_false_iff_ne]; exact he
          have HPO := Lib.hid (HDB.out e1 [] ⟨e1, i, r1, HNUM.out, Or.inr (Or.inl ⟨by omega, he, rfl, rfl⟩)⟩)
          clear he
          go_wp2_with fail
          go_quiet (fail)
          go_wp2
          go_ret2
          exact DecPost.no HPO.out (below_drewN HR.out.b _)

theorem evdecode_any (v : Value) (b : List UInt8) (w : World) (hf : BytesR w.heap.size w v b) (ht : Tab w) : Calls Tryd.prog 7 #[v] w (DecPost b w) := by
  by_cases h1 : 60000 < b.length
  · exact decode_big v b w hf h1
  · by_cases h2 : b.length < 5
    · exact decode_short v b w hf h2
    · obtain ⟨ad, cap, hv, hrest⟩ := id hf
      clear hrest
      subst hv
      obtain ⟨n, hn⟩ : ∃ n, b.length = n + 4 := ⟨b.length - 4, by omega⟩
      obtain ⟨d0, d1, d2, d3, hd⟩ := len4 (show (b.drop n).length = 4 by rw [List.length_drop]; omega)
      have hb : b = b.take n ++ [d0, d1, d2, d3] := by rw [← hd, List.take_append_drop]
      have hp : (b.take n).length = n := by rw [List.length_take]; omega
      generalize hN : b.length = N at *
      rw [hb] at hf ⊢
      by_cases hs : sumB (b.take n) = [d0, d1, d2, d3]
      · exact decode_body ad N n cap _ d0 d1 d2 d3 w ht hf hp hn (by omega) (by omega) hs
      · exact decode_sum ad N n cap _ d0 d1 d2 d3 w ht hf hp hn (by omega) (by omega) hs
end Go.Proofs.YtiekilpddmdhnaaDoor
namespace Go.Proofs.YtiekilpddmdhnaaDoor
open Go Go.RowKit Go.ChangeShapes Go.WideShapes Go.Deep
set_option linter.unusedVariables false

/-- The tape's box. -/
structure Tp (w0 : World) (g : Nat) (B bs : List UInt8) (e : Int) (w : World) : Prop where
  box : ∃ a c, ∃ i : Nat, w.heap[g]? = some (.cells #[.slice a B.length c, .int .i64 i, .int .i64 e] 61 (0, 0)) ∧ BytesR w0.heap.size w0 (.slice a B.length c) B ∧ bs = B.drop i ∧ i ≤ B.length
  ge : w0.heap.size ≤ g
  b : Below w0.heap.size w0 w
theorem Tp.drewN {w0 w : World} {g : Nat} {B bs : List UInt8} {e : Int} (h : Tp w0 g B bs e w) (n : Nat) : Tp w0 g B bs e (w.drewN n) := ⟨h.box, h.ge, below_drewN h.b n⟩
theorem Tp.lt {w0 w : World} {g : Nat} {B bs : List UInt8} {e : Int} (h : Tp w0 g B bs e w) : g < w.heap.size := by obtain ⟨a, c, i, hx, _⟩ := h.box; exact (Array.getElem?_eq_some_iff.1 hx).1
theorem Tp.other {w0 w w' : World} {g : Nat} {r : Option Nat} {B bs : List UInt8} {e : Int} (h : Tp w0 g B bs e w) (hg : w.grownBy w' r) (hne : some g ≠ r) (hr : ∀ k, r = some k → w0.heap.size ≤ k) : Tp w0 g B bs e w' := by
  obtain ⟨a, c, i, hx, hb⟩ := h.box
  exact ⟨⟨a, c, i, block_grown hg hx hne, hb⟩, h.ge, h.b.grown hg h.b.size (fun k hk => hr k hk)⟩
theorem Tp.err {w0 w : World} {g : Nat} {B bs : List UInt8} {e : Int} (h : Tp w0 g B bs e w) (x : Int) : Tp w0 g B bs x (w.setCell ⟨g, 2, none⟩ (.int .i64 x)) := by
  obtain ⟨a, c, i, hx, hb⟩ := h.box
  exact ⟨⟨a, c, i, set_block hx _, hb⟩, h.ge, h.b.setCell (p := ⟨g, 2, none⟩) h.ge _⟩
theorem Tp.c2 {w0 w : World} {g : Nat} {B bs : List UInt8} {e : Int} (h : Tp w0 g B bs e w) : w.cell? ⟨g, 2, none⟩ = some (.int .i64 e) ∧ w.frozen? ⟨g, 2, none⟩ = false := by
  obtain ⟨a, c, i, hx, _⟩ := h.box
  exact ⟨cell_block hx 2, free_block hx 2⟩

set_option maxHeartbeats 4000000 in
theorem next_bad (w0 : World) (g : Nat) (B bs : List UInt8) (x : Int) (w : World) (h : Tp w0 g B bs x w) (h0 : x ≠ 0) : Calls Tryd.prog 24 #[.pointer (some ⟨g, 0, none⟩)] w fun e w' => e = .returned (.int .i64 0) ∧ Tp w0 g B bs x w' ∧ w.grownBy w' (some g) := by
  have HD := Lib.hid h
  obtain ⟨q2, _⟩ := h.c2
  have lg := h.lt
  have hx0 : (x == 0) = false := by rw [beq_eq_false_iff_ne]; exact h0
  clear h
  go_enter Tryd.func24, Tryd.ntmps24
  go_wp2_with fail
  go_loopg [3, 4, 5] 1 (fun gh s3 s4 s5 wr => gh = 1 ∧ s3 = .int .i64 0 ∧ s5 = .int .i64 0 ∧ wr = w)
  case atStart => exact ⟨rfl, rfl, rfl, rfl⟩
  case round =>
    obtain ⟨rfl, rfl, rfl, rfl⟩ := hrel
    go_wp2
    go_ret
    exact ⟨rfl, HD.out, World.grownBy.refl _ _⟩

theorem mod_step {z n i : Nat} : ((n : Int) + (z : Int) % 128 * ((128 ^ i : Nat) : Int)) = ((n + z % 128 * 128 ^ i : Nat) : Int) := by
  rw [Int.natCast_add, Int.natCast_mul, Int.natCast_emod]; rfl

set_option maxHeartbeats 4000000 in
set_option maxRecDepth 100000 in
theorem next_good (w0 : World) (g : Nat) (B bs : List UInt8) (w : World) (h : Tp w0 g B bs 0 w) : Calls Tryd.prog 24 #[.pointer (some ⟨g, 0, none⟩)] w fun e w' => e = .returned (.int .i64 ((numP 0 0 bs).2.1 : Int)) ∧ Tp w0 g B (numP 0 0 bs).2.2 (numP 0 0 bs).1 w' ∧ w.grownBy w' (some g) := by
  have HD := Lib.hid h
  clear h
  go_enter Tryd.func24, Tryd.ntmps24
  go_wp2_with fail
  go_loopg [3, 4, 5] (bs.length + 1) (fun gh s3 s4 s5 wr => ∃ (i n u : Nat) (cs : List UInt8), gh = cs.length + 1 ∧ i ≤ 7 ∧ n < 128 ^ i ∧ Hid (u = 128 ^ i) ∧ u ≤ 562949953421312 ∧ s3 = .int .i64 n ∧ s4 = .int .i64 u ∧ s5 = .int .i64 i ∧ Hid (numP 0 0 bs = numP i n cs) ∧ Hid (Tp w0 g B cs 0 wr) ∧ Hid (w.grownBy wr (some g)))
  case atStart => exact ⟨0, 0, 1, bs, rfl, by omega, by decide, Lib.hid (by decide), by omega, rfl, rfl, rfl, Lib.hid rfl, HD, Lib.hid (World.grownBy.refl _ _)⟩
  case round =>
    obtain ⟨i, n, u, cs, rfl, hi, hn, HU, hu, rfl, rfl, rfl, E, R, G⟩ := hrel
    obtain ⟨a, c, j, hx, hb, hcs, hj⟩ := R.out.box
    have lg := R.out.lt
    have hge := R.out.ge
    have q0 : wr.cell? ⟨g, 0, none⟩ = some (.slice a B.length c) := cell_block hx 0
    have q1 : wr.cell? ⟨g, 1, none⟩ = some (.int .i64 j) := cell_block hx 1
    have q2 : wr.cell? ⟨g, 2, none⟩ = some (.int .i64 0) := cell_block hx 2
    have f1 := free_block hx 1
    have f2 := free_block hx 2
    have hi8 : (i : Int) < 8 := by omega
    have hn2 : n < 562949953421312 := Nat.lt_of_lt_of_le hn (Nat.le_trans (Nat.pow_le_pow_right (by omega) hi) (by decide))
    cases cs with
    | nil =>
      have hjl : B.length ≤ j := by have := congrArg List.length hcs; rw [List.length_drop] at this; simp at this; omega
      have hjd : decide ((B.length : Int) ≤ (j : Int)) = true := by rw [decide_eq_true_iff]; omega
      have e0 : numP 0 0 bs = (5, 0, []) := by rw [E.out]; rfl
      have E0 := Lib.hid e0
      have HT := Lib.hid ((R.out.drewN 1).err 5)
      clear hx hb e0 hcs
      go_wp2_with fail
      go_quiet (fail)
      go_wp2
      go_ret
      rw [E0.out]
      exact ⟨rfl, (R.out.drewN _).err 5, grown_same (grown_drewN G.out _) (grown_set _ _ _ _)⟩
    | cons x cs =>
      have hjlt : j < B.length := by
        rcases Nat.lt_or_ge j B.length with h | h
        · exact h
        · rw [List.drop_eq_nil_of_le h] at hcs; cases hcs
      rw [List.drop_eq_getElem_cons hjlt] at hcs
      injection hcs with hx1 hx2
      obtain ⟨a', c', hv, hl, hl2, hc⟩ := id hb
      injection hv with v1 v2 v3
      subst v1 v3
      obtain ⟨bb, off, vi, rfl, hbB, hcell, hvi⟩ := hc j hjlt
      unfold ByteV at hvi
      rw [← hx1] at hvi
      subst hvi
      have r0 : wr.cell? ⟨bb, off + j, none⟩ = some (.int .u8 (x.toNat : Int)) := (same_below R.out.b _ _ hbB).trans hcell
      have hjd : decide ((B.length : Int) ≤ (j : Int)) = false := by rw [decide_eq_false_iff_not]; omega
      have hj1 : (j : Int) < (B.length : Int) := by omega
      have hj0 : (0 : Int) ≤ (j : Int) := by omega
      have hbl : (B.length : Int) ≤ 140737488351232 := by omega
      have hcx := u8_lt x
      have HX := Lib.hid hx
      have HB := Lib.hid hb
      have HX2 := Lib.hid hx2
      clear hx hb hc hcell hx1 hx2 hl hl2
      generalize hz : x.toNat = z at *
      have HZ := Lib.hid hz
      clear hz
      go_wp2_with fail
      go_quiet (fail)
      go_wp2_with fail
      go_quiet (fail)
      go_upto_region 10 with fail
      go_cut [] from 7 to 71 (fun wx => Hid (Tp w0 g B cs 0 wx) ∧ Hid (w.grownBy wx (some g)))
      case first =>
        have HR1 := Lib.hid (fun (n1 : Nat) => show Tp w0 g B cs 0 ((wr.drewN n1).setCell ⟨g, 1, none⟩ (.int .i64 ((j : Int) + 1))) from ⟨⟨_, _, j + 1, by have := set_block (i := 1) HX.out (.int .i64 ((j : Int) + 1)); exact this, HB.out, HX2.out, by omega⟩, hge, (below_drewN R.out.b _).setCell (p := ⟨g, 1, none⟩) hge _⟩)
        go_wp2_with fail
        go_meet
        exact ⟨Lib.hid (HR1.out _), Lib.hid (grown_same (grown_drewN G.out _) (grown_set _ _ _ _))⟩
      case rest =>
        obtain ⟨HR1, HG1⟩ := hcut
        obtain ⟨m2, g2⟩ := HR1.out.c2
        have lgc := HR1.out.lt
        clear q0 q1 q2 f1 f2 r0 HX HB HX2 hjd hj1 hj0 hbl
        by_cases h1 : (0 < i ∧ z = 0) ∨ i = 7
        · have e0 : numP 0 0 bs = (4, 0, cs) := by rw [E.out]; exact numP_bad (by rw [HZ.out]; exact h1)
          have E0 := Lib.hid e0
          clear e0
          rcases (show i = 7 ∨ (0 < i ∧ i < 7 ∧ z = 0) by omega) with rfl | ⟨hi0, hi7, rfl⟩
          · clear h1
            go_wp2
            go_ret
            rw [E0.out]
            exact ⟨rfl, HR1.out.err 4, grown_same HG1.out (grown_set _ _ _ _)⟩
          · have hi7b : ((i : Int) == 7) = false := by rw [beq_eq_false_iff_ne]; omega
            have hi0' : (0 : Int) < (i : Int) := by omega
            have hzz : (((0 : Nat) : Int) == 0) = true := rfl
            clear h1
            go_wp2
            go_ret
            rw [E0.out]
            exact ⟨rfl, HR1.out.err 4, grown_same HG1.out (grown_set _ _ _ _)⟩
        · have hi7 : i < 7 := by omega
          have hp := pow_step (r := z % 128) hn (by omega)
          obtain ⟨M, hM⟩ : ∃ M, M = z % 128 * u := ⟨_, rfl⟩
          have hmul : (z : Int) % 128 * (u : Int) = (M : Int) := by rw [hM, Int.natCast_mul, Int.natCast_emod]; rfl
          have hM2 : M ≤ 127 * 562949953421312 := by rw [hM]; exact Nat.le_trans (Nat.mul_le_mul_left _ hu) (Nat.mul_le_mul_right _ (by omega))
          have hnm : n + z % 128 * 128 ^ i = n + M := by rw [hM, HU.out]
          rw [hnm] at hp
          have hi7b : ((i : Int) == 7) = false := by rw [beq_eq_false_iff_ne]; omega
          by_cases hx8 : z < 128
          · have e0 : numP 0 0 bs = (0, n + M, cs) := by
              rw [E.out, ← hnm, ← HZ.out]
              exact numP_end (by rw [HZ.out]; exact h1) (by rw [HZ.out]; exact hx8)
            have E0 := Lib.hid e0
            have HP := Lib.hid hp
            have h0i : ¬ (0 < i) ∨ (¬ z = 0 ∧ 0 < i) := by omega
            clear e0 E hp hM hnm hn
            rcases h0i with h0i | ⟨h0i, hi0⟩
            · clear h1
              go_wp2
              go_ret
              rw [E0.out]
              exact ⟨ret_int (by simp), HR1.out, HG1.out⟩
            · have hz0 : ((z : Int) == 0) = false := by rw [beq_eq_false_iff_ne]; omega
              clear h1
              go_wp2
              go_ret
              rw [E0.out]
              exact ⟨ret_int (by simp), HR1.out, HG1.out⟩
          · have e0 : numP 0 0 bs = numP (i + 1) (n + M) cs := by
              rw [E.out, ← hnm, ← HZ.out]
              exact numP_more (by rw [HZ.out]; exact h1) (by rw [HZ.out]; exact hx8)
            have E0 := Lib.hid e0
            have HP := Lib.hid hp
            have HU2 := Lib.hid (show 128 * u = 128 ^ (i + 1) by rw [HU.out, Nat.pow_succ, Nat.mul_comm])
            have hu2 : 128 * u ≤ 562949953421312 := by rw [HU2.out]; exact Nat.le_trans (Nat.pow_le_pow_right (by omega) (show i + 1 ≤ 7 by omega)) (by decide)
            have hz0 : ((z : Int) == 0) = false := by rw [beq_eq_false_iff_ne]; omega
            clear e0 E hp hM hnm hn h1
            go_wp2
            all_goals (
              go_roundg (cs.length + 1)
              case measure => simp
              case rel => exact ⟨i + 1, n + M, 128 * u, cs, rfl, by omega, HP.out, HU2, hu2, by go_num, by go_num, by go_num, E0, HR1, HG1⟩)

theorem next_gen (w0 : World) (g : Nat) (B bs : List UInt8) (w : World) {e0 : Int} (h : Tp w0 g B bs e0 w) {e : Int} {v : Nat} {r : List UInt8} (hn : numE e0 bs = (e, v, r)) : Calls Tryd.prog 24 #[.pointer (some ⟨g, 0, none⟩)] w fun en w' => en = .returned (.int .i64 (v : Int)) ∧ Tp w0 g B r e w' ∧ w.grownBy w' (some g) := by
  by_cases h0 : e0 = 0
  · subst h0
    have := next_good w0 g B bs w h
    rw [numE_zero] at hn
    rw [hn] at this
    exact this
  · obtain ⟨rfl, rfl, rfl⟩ := numE_keeps hn h0
    exact next_bad w0 g B r e w h h0
theorem zig_gen (w0 : World) (g : Nat) (B bs : List UInt8) (w : World) {e0 : Int} (h : Tp w0 g B bs e0 w) {e : Int} {v : Nat} {r : List UInt8} (hn : numE e0 bs = (e, v, r)) : Calls Tryd.prog 25 #[.pointer (some ⟨g, 0, none⟩)] w fun en w' => en = .returned (.int .i64 (zag v)) ∧ Tp w0 g B r e w' ∧ w.grownBy w' (some g) := by
  have HN := Lib.hid (next_gen w0 g B bs w h hn)
  have hv2 := numE_lt hn
  clear h hn
  by_cases ho : v % 2 = 1
  · have hz : zag v = -((v : Int) / 2) - 1 := by unfold zag; rw [if_pos ho]; omega
    have ho2 : (v : Int) % 2 = 1 := by omega
    rw [hz]
    clear hz ho
    go_enter Tryd.func25, Tryd.ntmps25
    go_wp2_with fail
    refine HN.out.mono ?_
    rintro e w1 ⟨rfl, h1, h2⟩
    go_wp2
    go_ret
    exact ⟨rfl, h1, h2⟩
  · have hz : zag v = (v : Int) / 2 := by unfold zag; rw [if_neg ho]; omega
    have ho2 : (v : Int) % 2 = 0 := by omega
    rw [hz]
    clear hz ho
    go_enter Tryd.func25, Tryd.ntmps25
    go_wp2_with fail
    refine HN.out.mono ?_
    rintro e w1 ⟨rfl, h1, h2⟩
    go_wp2
    go_ret
    exact ⟨rfl, h1, h2⟩
end Go.Proofs.YtiekilpddmdhnaaDoor
namespace Go.Proofs.YtiekilpddmdhnaaDoor
open Go Go.RowKit Go.ChangeShapes Go.WideShapes Go.Deep
set_option linter.unusedVariables false

structure TSt (w : World) (g gx : Nat) (Bf : List UInt8) (ps : List (Ev × Value)) (ao : Option Addr) (co : Nat) (x0 x1 : Int) (acc : List Int) (cs : List UInt8) (e : Int) (wr : World) : Prop where
  tp : Tp w g Bf cs e wr
  out : OutSt (g + 1) ps ao co wr
  xb : ∃ a c, wr.heap[gx]? = some (.cells #[.int .i64 x0, .int .i64 x1, .slice a acc.length c] 54 (0, 0)) ∧ wr.ownsRow (gx + 1) 3 1 (.slice a acc.length c) acc.length (acc.map (Value.int .i64))
  hg : g < gx
  lts : ∀ p ∈ ps, ∀ k, p.2.ownBlock = some k → k < gx
  lto : ∀ k, (Value.slice ao ps.length co).ownBlock = some k → k < gx
theorem TSt.start {w wr : World} {g : Nat} {Bf cs : List UInt8} {ps : List (Ev × Value)} {ao : Option Addr} {co : Nat} {e x0 x1 : Int} (h : Tp w g Bf cs e wr) (ho : OutSt (g + 1) ps ao co wr) : TSt w g wr.heap.size Bf ps ao co x0 x1 [] cs e (wr.alloc (.cells #[.int .i64 x0, .int .i64 x1, .slice none 0 0] 54)) :=
  ⟨h.other (World.grownBy_alloc wr _ none) (by simp) (by simp), ho.alloc _, ⟨none, 0, alloc_at rfl, World.ownsRow_nil _ _ _ _⟩, h.lt, fun p hp k hk => ((ho.data p hp).1.lt k hk).2, fun k hk => (ho.row.lt k hk).2⟩
theorem TSt.mv {w wr w' : World} {g gx : Nat} {Bf cs cs' : List UInt8} {ps : List (Ev × Value)} {ao : Option Addr} {co : Nat} {e e' x0 x1 : Int} {acc : List Int} (h : TSt w g gx Bf ps ao co x0 x1 acc cs e wr) (ht : Tp w g Bf cs' e' w') (hg : wr.grownBy w' (some g)) : TSt w g gx Bf ps ao co x0 x1 acc cs' e' w' := by
  have hgx := h.hg
  obtain ⟨a, c, hx, ho⟩ := h.xb
  refine ⟨ht, h.out.kept_lt hg (by omega), ⟨a, c, block_grown hg hx (by simp; omega), ho.kept hg ?_⟩, hgx, h.lts, h.lto⟩
  cases hob : (Value.slice a acc.length c).ownBlock with
  | none => exact Or.inl rfl
  | some k => exact Or.inr (by have := (ho.lt k hob).1; simp; omega)
theorem TSt.err {w wr : World} {g gx : Nat} {Bf cs : List UInt8} {ps : List (Ev × Value)} {ao : Option Addr} {co : Nat} {e x0 x1 : Int} {acc : List Int} (h : TSt w g gx Bf ps ao co x0 x1 acc cs e wr) (x : Int) : TSt w g gx Bf ps ao co x0 x1 acc cs x (wr.setCell ⟨g, 2, none⟩ (.int .i64 x)) := h.mv (h.tp.err x) (grown_set _ _ _ _)
theorem TSt.drewN {w wr : World} {g gx : Nat} {Bf cs : List UInt8} {ps : List (Ev × Value)} {ao : Option Addr} {co : Nat} {e x0 x1 : Int} {acc : List Int} (h : TSt w g gx Bf ps ao co x0 x1 acc cs e wr) (n : Nat) : TSt w g gx Bf ps ao co x0 x1 acc cs e (wr.drewN n) := ⟨h.tp.drewN n, h.out.drewN n, h.xb, h.hg, h.lts, h.lto⟩
theorem TSt.y {w wr : World} {g gx : Nat} {Bf cs : List UInt8} {ps : List (Ev × Value)} {ao : Option Addr} {co : Nat} {e x0 x1 : Int} {acc : List Int} (h : TSt w g gx Bf ps ao co x0 x1 acc cs e wr) : wr.cell? ⟨g, 2, none⟩ = some (.int .i64 e) ∧ wr.frozen? ⟨g, 2, none⟩ = false ∧ wr.cell? ⟨gx, 0, none⟩ = some (.int .i64 x0) ∧ wr.cell? ⟨gx, 1, none⟩ = some (.int .i64 x1) ∧ wr.frozen? ⟨gx, 2, none⟩ = false ∧ g < wr.heap.size ∧ gx < wr.heap.size := by
  obtain ⟨a, c, hx, ho⟩ := h.xb
  exact ⟨h.tp.c2.1, h.tp.c2.2, cell_block hx 0, cell_block hx 1, free_block hx 2, h.tp.lt, (Array.getElem?_eq_some_iff.1 hx).1⟩
theorem TSt.row {w wr w' : World} {g gx : Nat} {Bf cs : List UInt8} {ps : List (Ev × Value)} {ao : Option Addr} {co : Nat} {e x0 x1 : Int} {acc acc2 : List Int} (h : TSt w g gx Bf ps ao co x0 x1 acc cs e wr) {r : Option Nat} (hg : wr.grownBy w' r) (hr : ∀ k, r = some k → gx < k) {g1 cap n2 : Nat} (hn : n2 = acc2.length) (hown : w'.ownsRow (gx + 1) 3 1 (.slice (some ⟨g1, 0, none⟩) n2 cap) n2 (acc2.map (Value.int .i64))) : TSt w g gx Bf ps ao co x0 x1 acc2 cs e (w'.setCell ⟨gx, 2, none⟩ (.slice (some ⟨g1, 0, none⟩) n2 cap)) := by
  subst hn
  have hgx := h.hg
  have hge := h.tp.ge
  obtain ⟨a, c, hx, ho⟩ := h.xb
  have hx1 := block_grown hg hx (fun e => by have := hr gx e.symm; omega)
  have hgs : w'.grownBy (w'.setCell ⟨gx, 2, none⟩ (.slice (some ⟨g1, 0, none⟩) acc2.length cap)) (some gx) := grown_set _ _ _ _
  have hlt : g1 = g1 ∧ gx + 1 ≤ g1 ∨ acc2.length = 0 := by
    rcases hown.2 with ⟨hv, _⟩ | ⟨g', cap', cur, hv, hb, _⟩
    · cases hv
    · injection hv with h1 h2 h3; injection h1 with h1; injection h1 with h1; exact Or.inl ⟨rfl, by omega⟩
  have hout1 : OutSt (g + 1) ps ao co w' := ⟨h.out.row.kept hg (by
    cases hob : (Value.slice ao ps.length co).ownBlock with
    | none => exact Or.inl rfl
    | some k => exact Or.inr (fun e => by have := h.lto k hob; have := hr k e.symm; omega)), fun p hp => (h.out.data p hp).kept hg (by
    cases hob : p.2.ownBlock with
    | none => exact Or.inl rfl
    | some k => exact Or.inr (fun e => by have := h.lts p hp k hob; have := hr k e.symm; omega))⟩
  have hout2 : OutSt (g + 1) ps ao co (w'.setCell ⟨gx, 2, none⟩ (.slice (some ⟨g1, 0, none⟩) acc2.length cap)) := ⟨hout1.row.kept hgs (by
    cases hob : (Value.slice ao ps.length co).ownBlock with
    | none => exact Or.inl rfl
    | some k => exact Or.inr (by have := h.lto k hob; simp; omega)), fun p hp => (hout1.data p hp).kept hgs (by
    cases hob : p.2.ownBlock with
    | none => exact Or.inl rfl
    | some k => exact Or.inr (by have := h.lts p hp k hob; simp; omega))⟩
  refine ⟨(h.tp.other hg (fun e => by have := hr g e.symm; omega) (fun k hk => by have := hr k hk; omega)).other hgs (by simp; omega) (fun k hk => by injection hk with hk; omega), hout2, ⟨some ⟨g1, 0, none⟩, cap, set_block (i := 2) hx1 _, hown.kept hgs (Or.inr (fun e => own_ne_block hown hx1 (by decide) e.symm))⟩, hgx, h.lts, h.lto⟩
end Go.Proofs.YtiekilpddmdhnaaDoor
namespace Go.Proofs.YtiekilpddmdhnaaDoor
open Go Go.RowKit Go.ChangeShapes Go.WideShapes Go.Deep
set_option linter.unusedVariables false

set_option maxRecDepth 100000 in
theorem conv_bytes {w : World} {B : Nat} {a : Option Addr} {c n : Nat} {bs : List UInt8} (h : BytesR B w (.slice a n c) bs) : (convert 22 9 (.slice a n c)).run Tryd.prog w = .ok (.string ⟨bs.toArray⟩) w := by
  obtain ⟨a', cap, hv, _, _, hc⟩ := h
  injection hv with h1 h2 h3
  subst h1 h2
  cases a with
  | none =>
    have h0 : bs.length = 0 := by
      rcases Nat.eq_zero_or_pos bs.length with h | h
      · exact h
      · obtain ⟨_, _, _, hh, _⟩ := hc 0 h; cases hh
    have e0 : bs = [] := List.eq_nil_of_length_eq_zero h0
    subst e0
    exact run_convert_bytes_nil w 22 5 Tryd.underlying22 Tryd.underlying5 _ _ _ Tryd.underlying9
  | some ad =>
    refine run_convert_bytes_back w 22 9 5 ad c bs Tryd.underlying22 Tryd.underlying5 Tryd.underlying9 (fun j hj => ?_)
    obtain ⟨b, off, vi, ha, _, hcell, hvi⟩ := hc j hj
    injection ha with ha
    subst ha
    rw [add_plain, hcell, hvi]
end Go.Proofs.YtiekilpddmdhnaaDoor
