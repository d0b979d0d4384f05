/- cpu.flat is a memory. No condition beyond the readings. -/
import Derived.Test.YtbenfbfbohecmaaMo
import Derived.KernelRfl
namespace Go.Proofs.Ytbenfbfbohecmaa
open Go Go.RowKit Go.ChangeShapes Go.WideShapes Go.Deep
set_option linter.unusedVariables false

/-- A memory that lies in a block mb of the call's own. -/
def FlatSt (mb cm : Nat) (w : World) (F : Nat → Prop) (mem : List Int) (x : Bool) : Prop := x = false ∧ F = (fun g => g = mb) ∧ mem.length = 256 ∧ w.ownsRow 0 3 1 (.slice (some ⟨mb, 0, none⟩) 256 cm) 256 (mem.map (Value.int .i64))
theorem own_cell {w : World} {mb cm : Nat} {mem : List Int} (hl : mem.length = 256) (h : w.ownsRow 0 3 1 (.slice (some ⟨mb, 0, none⟩) 256 cm) 256 (mem.map (Value.int .i64))) {k : Nat} (hk : k < 256) : w.cell? ⟨mb, k, none⟩ = some (.int .i64 (mem.getD k 0)) := by
  rw [h.cellAt k (by omega), List.getElem?_map, List.getElem?_eq_getElem (by omega), List.getD_eq_getElem?_getD, List.getElem?_eq_getElem (by omega)]
  rfl
set_option maxRecDepth 100000 in
theorem flat_load {mb cm : Nat} {w : World} {F : Nat → Prop} {mem : List Int} {x : Bool} {at_ : Int} (h : FlatSt mb cm w F mem x) (h0 : 0 ≤ at_) (h1 : at_ < 256) : Calls Try.prog 57 #[.slice (some ⟨mb, 0, none⟩) 256 cm, .int .i64 at_] w fun e w' => e = .returned (.tuple #[.int .i64 (mem.getD at_.toNat 0), .bool true]) ∧ ∃ n, w' = w.drewN n := by
  obtain ⟨rfl, rfl, hl, ho⟩ := h
  obtain ⟨k, rfl⟩ := Int.eq_ofNat_of_zero_le h0
  have hk : k < 256 := by omega
  have c := own_cell hl ho hk
  rw [Int.toNat_natCast]
  generalize mem.getD k 0 = z at *
  clear ho hl h0
  go_enter Try.func57, Try.ntmps57
  go_wp2
  go_ret2
  exact ⟨rfl, 0, rfl⟩
set_option maxRecDepth 100000 in
theorem flat_store {mb cm : Nat} {w : World} {F : Nat → Prop} {mem : List Int} {x : Bool} {at_ z : Int} (h : FlatSt mb cm w F mem x) (h0 : 0 ≤ at_) (h1 : at_ < 256) : Calls Try.prog 58 #[.slice (some ⟨mb, 0, none⟩) 256 cm, .int .i64 at_, .int .i64 z] w fun e w' => OutF F w w' ∧ ∃ F', (∀ g, F' g → F g ∨ w.heap.size ≤ g) ∧ ((e = .returned (.bool true) ∧ FlatSt mb cm w' F' (mem.set at_.toNat z) x) ∨ (e = .returned (.bool false) ∧ FlatSt mb cm w' F' mem true)) := by
  obtain ⟨rfl, rfl, hl, ho⟩ := h
  obtain ⟨k, rfl⟩ := Int.eq_ofNat_of_zero_le h0
  have hk : k < 256 := by omega
  have c := own_cell hl ho hk
  have f := ho.frozenAt k
  rw [Int.toNat_natCast]
  have HO := Lib.hid ho
  have HL := Lib.hid hl
  clear ho hl h0
  generalize mem.getD k 0 = z0 at *
  go_enter Try.func58, Try.ntmps58
  go_wp2
  go_ret
  refine ⟨OutF.setCell (F := fun g => g = mb) (OutF.refl _ w) (Or.inl rfl) _, fun g => g = mb, fun g hg => Or.inl hg, Or.inl ⟨rfl, rfl, rfl, by rw [List.length_set]; exact HL.out, ?_⟩⟩
  rw [List.map_set]
  exact (HO.out.stored k (.int .i64 z)).1
theorem flat_is (mb cm : Nat) : MemI 38 57 58 (.slice (some ⟨mb, 0, none⟩) 256 cm) (FlatSt mb cm) where
  nL := fun w => rfl
  mL := fun w => rfl
  eL := fun args w => rfl
  eS := fun args w => rfl
  nS := fun w => rfl
  mS := fun w => rfl
  load := fun w F mem x at_ h h0 h1 => flat_load h h0 h1
  store := fun w F mem x at_ z h h0 h1 _ => flat_store h h0 h1
  stay := fun w w' F mem x h hb hs => by
    obtain ⟨h1, rfl, h3, h4, h5⟩ := h
    refine ⟨h1, rfl, h3, h4, ?_⟩
    rcases h5 with h5 | ⟨g, cap, cur, hv, hg, hh, r⟩
    · exact Or.inl h5
    · refine Or.inr ⟨g, cap, cur, hv, hg, ?_, r⟩
      have e : mb = g := by injection hv with e1; injection e1 with e1; injection e1
      exact (hb g e.symm).trans hh
  lt := fun w F mem x h g hg => by
    obtain ⟨h1, rfl, h3, h4⟩ := h
    exact (h4.lt g (by rw [hg]; rfl)).2
end Go.Proofs.Ytbenfbfbohecmaa
