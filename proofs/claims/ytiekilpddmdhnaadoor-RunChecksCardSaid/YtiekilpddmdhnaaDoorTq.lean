/- What EventsOf of the reference holds while it reads an event. No condition beyond those of each row. -/
import Derived.Test.YtiekilpddmdhnaaDoorTn
namespace Go.Proofs.YtiekilpddmdhnaaDoor
open Go Go.RowKit Go.ChangeShapes Go.WideShapes Go.Deep
set_option linter.unusedVariables false

structure TSt (w : World) (g gx : Nat) (Bf : List UInt8) (ps : List (Ev × Value)) (ao : Option Addr) (co : Nat) (x0 x1 : Int) (acc : List Int) (cs : List UInt8) (e : Int) (wr : World) : Prop where
  tp : Tp w g Bf cs e wr
  out : OutSt (g + 1) ps ao co wr
  xb : ∃ a c, wr.heap[gx]? = some (.cells #[.int .i64 x0, .int .i64 x1, .slice a acc.length c] 54 (0, 0)) ∧ wr.ownsRow (gx + 1) 3 1 (.slice a acc.length c) acc.length (acc.map (Value.int .i64))
  hg : g < gx
  lts : ∀ p ∈ ps, ∀ k, p.2.ownBlock = some k → k < gx
  lto : ∀ k, (Value.slice ao ps.length co).ownBlock = some k → k < gx
theorem TSt.start {w wr : World} {g : Nat} {Bf cs : List UInt8} {ps : List (Ev × Value)} {ao : Option Addr} {co : Nat} {e x0 x1 : Int} (h : Tp w g Bf cs e wr) (ho : OutSt (g + 1) ps ao co wr) : TSt w g wr.heap.size Bf ps ao co x0 x1 [] cs e (wr.alloc (.cells #[.int .i64 x0, .int .i64 x1, .slice none 0 0] 54)) :=
  ⟨h.other (World.grownBy_alloc wr _ none) (by simp) (by simp), ho.alloc _, ⟨none, 0, alloc_at rfl, World.ownsRow_nil _ _ _ _⟩, h.lt, fun p hp k hk => ((ho.data p hp).1.lt k hk).2, fun k hk => (ho.row.lt k hk).2⟩
theorem TSt.mv {w wr w' : World} {g gx : Nat} {Bf cs cs' : List UInt8} {ps : List (Ev × Value)} {ao : Option Addr} {co : Nat} {e e' x0 x1 : Int} {acc : List Int} (h : TSt w g gx Bf ps ao co x0 x1 acc cs e wr) (ht : Tp w g Bf cs' e' w') (hg : wr.grownBy w' (some g)) : TSt w g gx Bf ps ao co x0 x1 acc cs' e' w' := by
  have hgx := h.hg
  obtain ⟨a, c, hx, ho⟩ := h.xb
  refine ⟨ht, h.out.kept_lt hg (by omega), ⟨a, c, block_grown hg hx (by simp; omega), ho.kept hg ?_⟩, hgx, h.lts, h.lto⟩
  cases hob : (Value.slice a acc.length c).ownBlock with
  | none => exact Or.inl rfl
  | some k => exact Or.inr (by have := (ho.lt k hob).1; simp; omega)
theorem TSt.err {w wr : World} {g gx : Nat} {Bf cs : List UInt8} {ps : List (Ev × Value)} {ao : Option Addr} {co : Nat} {e x0 x1 : Int} {acc : List Int} (h : TSt w g gx Bf ps ao co x0 x1 acc cs e wr) (x : Int) : TSt w g gx Bf ps ao co x0 x1 acc cs x (wr.setCell ⟨g, 2, none⟩ (.int .i64 x)) := h.mv (h.tp.err x) (grown_set _ _ _ _)
theorem TSt.drewN {w wr : World} {g gx : Nat} {Bf cs : List UInt8} {ps : List (Ev × Value)} {ao : Option Addr} {co : Nat} {e x0 x1 : Int} {acc : List Int} (h : TSt w g gx Bf ps ao co x0 x1 acc cs e wr) (n : Nat) : TSt w g gx Bf ps ao co x0 x1 acc cs e (wr.drewN n) := ⟨h.tp.drewN n, h.out.drewN n, h.xb, h.hg, h.lts, h.lto⟩
theorem TSt.y {w wr : World} {g gx : Nat} {Bf cs : List UInt8} {ps : List (Ev × Value)} {ao : Option Addr} {co : Nat} {e x0 x1 : Int} {acc : List Int} (h : TSt w g gx Bf ps ao co x0 x1 acc cs e wr) : wr.cell? ⟨g, 2, none⟩ = some (.int .i64 e) ∧ wr.frozen? ⟨g, 2, none⟩ = false ∧ wr.cell? ⟨gx, 0, none⟩ = some (.int .i64 x0) ∧ wr.cell? ⟨gx, 1, none⟩ = some (.int .i64 x1) ∧ wr.frozen? ⟨gx, 2, none⟩ = false ∧ g < wr.heap.size ∧ gx < wr.heap.size := by
  obtain ⟨a, c, hx, ho⟩ := h.xb
  exact ⟨h.tp.c2.1, h.tp.c2.2, cell_block hx 0, cell_block hx 1, free_block hx 2, h.tp.lt, (Array.getElem?_eq_some_iff.1 hx).1⟩
theorem TSt.row {w wr w' : World} {g gx : Nat} {Bf cs : List UInt8} {ps : List (Ev × Value)} {ao : Option Addr} {co : Nat} {e x0 x1 : Int} {acc acc2 : List Int} (h : TSt w g gx Bf ps ao co x0 x1 acc cs e wr) {r : Option Nat} (hg : wr.grownBy w' r) (hr : ∀ k, r = some k → gx < k) {g1 cap n2 : Nat} (hn : n2 = acc2.length) (hown : w'.ownsRow (gx + 1) 3 1 (.slice (some ⟨g1, 0, none⟩) n2 cap) n2 (acc2.map (Value.int .i64))) : TSt w g gx Bf ps ao co x0 x1 acc2 cs e (w'.setCell ⟨gx, 2, none⟩ (.slice (some ⟨g1, 0, none⟩) n2 cap)) := by
  subst hn
  have hgx := h.hg
  have hge := h.tp.ge
  obtain ⟨a, c, hx, ho⟩ := h.xb
  have hx1 := block_grown hg hx (fun e => by have := hr gx e.symm; omega)
  have hgs : w'.grownBy (w'.setCell ⟨gx, 2, none⟩ (.slice (some ⟨g1, 0, none⟩) acc2.length cap)) (some gx) := grown_set _ _ _ _
  have hlt : g1 = g1 ∧ gx + 1 ≤ g1 ∨ acc2.length = 0 := by
    rcases hown.2 with ⟨hv, _⟩ | ⟨g', cap', cur, hv, hb, _⟩
    · cases hv
    · injection hv with h1 h2 h3; injection h1 with h1; injection h1 with h1; exact Or.inl ⟨rfl, by omega⟩
  have hout1 : OutSt (g + 1) ps ao co w' := ⟨h.out.row.kept hg (by
    cases hob : (Value.slice ao ps.length co).ownBlock with
    | none => exact Or.inl rfl
    | some k => exact Or.inr (fun e => by have := h.lto k hob; have := hr k e.symm; omega)), fun p hp => (h.out.data p hp).kept hg (by
    cases hob : p.2.ownBlock with
    | none => exact Or.inl rfl
    | some k => exact Or.inr (fun e => by have := h.lts p hp k hob; have := hr k e.symm; omega))⟩
  have hout2 : OutSt (g + 1) ps ao co (w'.setCell ⟨gx, 2, none⟩ (.slice (some ⟨g1, 0, none⟩) acc2.length cap)) := ⟨hout1.row.kept hgs (by
    cases hob : (Value.slice ao ps.length co).ownBlock with
    | none => exact Or.inl rfl
    | some k => exact Or.inr (by have := h.lto k hob; simp; omega)), fun p hp => (hout1.data p hp).kept hgs (by
    cases hob : p.2.ownBlock with
    | none => exact Or.inl rfl
    | some k => exact Or.inr (by have := h.lts p hp k hob; simp; omega))⟩
  refine ⟨(h.tp.other hg (fun e => by have := hr g e.symm; omega) (fun k hk => by have := hr k hk; omega)).other hgs (by simp; omega) (fun k hk => by injection hk with hk; omega), hout2, ⟨some ⟨g1, 0, none⟩, cap, set_block (i := 2) hx1 _, hown.kept hgs (Or.inr (fun e => own_ne_block hown hx1 (by decide) e.symm))⟩, hgx, h.lts, h.lto⟩
end Go.Proofs.YtiekilpddmdhnaaDoor
