/- The contract of the reference's SharedOf. No condition. -/
import Derived.Test.YtneeimfffoomgaaSh
import Derived.IntWalk
namespace Go.Proofs.Ytneeimfffoomgaa
open Go Go.RowKit Go.ChangeShapes Go.WideShapes Go.Deep
set_option linter.unusedVariables false

theorem ref_at {rs : List (List Int)} {zs : List Int} {w : World} {B k : Nat} {vd : Value} {a' : Option Addr} {c2 : Nat} (hf : FramesR B w (.agg #[vd, .slice a' zs.length c2]) rs zs) (hk : k < zs.length) : ∃ b off, a' = some ⟨b, off, none⟩ ∧ b < B ∧ w.cell? ⟨b, off + k, none⟩ = some (.int .i64 (zs.getD k 0)) := by
  obtain ⟨vd', vr', hv, _, ⟨a, c, hvr, _, _, hc⟩⟩ := hf
  simp only [Value.agg.injEq, Array.mk.injEq, List.cons.injEq, and_true] at hv
  obtain ⟨_, rfl⟩ := hv
  simp only [Value.slice.injEq, true_and] at hvr
  obtain ⟨rfl, rfl⟩ := hvr
  obtain ⟨b, off, vi, ha, hb, hcell, hvi, _⟩ := hc k hk
  subst hvi
  exact ⟨b, off, ha, hb, by rw [hcell, getD_of hk 0]⟩

theorem FrOwn.grown {base : Nat} {w w' : World} {vd vr : Value} {rs : List (List Int)} {zs : List Int} {vs : List Value} (h : FrOwn base w vd vr rs zs vs) (hb : Below w.heap.size w w') : FrOwn base w' vd vr rs zs vs :=
  ⟨h.len, own_below h.d hb (Nat.le_refl _), own_below h.r hb (Nat.le_refl _), fun j hj => ⟨own_below (h.rows j hj).1 hb (Nat.le_refl _), (h.rows j hj).2⟩⟩

theorem KnNo.ret {w w' : World} {c : Int} {e : Ending} (h : KnNo w c e w') : RetF w [] [] c e w' := by
  obtain ⟨rfl, hb⟩ := h
  exact ⟨_, rfl, framesR_nil _ _, hb⟩
theorem FrYes.ret {w w' : World} {rs : List (List Int)} {zs : List Int} {e : Ending} (h : FrYes w rs zs e w') (hb : FBd rs zs) : RetF w rs zs 0 e w' := by
  obtain ⟨ad, cd, ar, cr, vs, rfl, ho, hbel⟩ := h
  exact ⟨_, rfl, ho.reads hb, hbel⟩
theorem FBd.setRef {rs : List (List Int)} {zs : List Int} (h : FBd rs zs) (k : Nat) (z : Int) (hz : I64 z) : FBd rs (zs.set k z) :=
  ⟨h.row, fun x hx => (List.mem_or_eq_of_mem_set hx).elim (h.ref x) (fun e => e ▸ hz), h.nd, by rw [List.length_set]; exact h.nr⟩

end Go.Proofs.Ytneeimfffoomgaa
