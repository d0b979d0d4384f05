/- The table that the program lays ahead of its start: what the rows' condition gives the walks. No condition. -/
import Derived.Test.YtenicnneppgfmaaDoorRows
import Derived.Test.YtenicnneppgfmaaDoorYEc
import Derived.FnData
import Derived.LaidLaws
import Derived.ProofKit
import Derived.LaidMore
import Derived.OpenShut
import Derived.Stop.Joined
namespace Go.Proofs.YtenicnneppgfmaaDoor
open Go Go.RowKit Go.ChangeShapes Go.WideShapes Go.Deep
set_option linter.unusedVariables false

abbrev laidW := Rows.runRecordsRow.laid
theorem gWords : Tryd.prog.globalNamed "hourglass/evlog.words" = some 0 := by kernel_rfl
theorem tWords : (Tryd.prog.globals[0]?).map (·.type) = some 167 := by kernel_rfl
set_option maxRecDepth 100000 in
theorem door_met (os : Os) (args : Array Value) : laidMetH Tryd.prog laidW ((World.doorLaid Tryd.prog 400 os).forCall (fun _ _ => 0) ⟨#[], args, []⟩).memory :=
  laidMetH_of_parts3 (fuel := 8) (laidMet_of_run' 8 (by kernel_rfl) (by kernel_rfl)) (by kernel_rfl) (by kernel_rfl)

set_option maxRecDepth 100000 in
theorem tab_of_laid {W : World} (h : laidMetH Tryd.prog laidW W) : Tab W := by
  rw [MakeChecks.laidMetH_plain _ _ _ (by kernel_rfl)] at h
  obtain ⟨ps, ⟨g0, t0, cs0, f0, p0, q0, hg0, ht0, hv0, hd0, _, _⟩, _, _⟩ := h
  obtain rfl := Option.some.inj (gWords.symm.trans hg0)
  obtain rfl := Option.some.inj (tWords.symm.trans ht0)
  obtain ⟨xs, m1, rfl, hx1, hlen, hn3, hel⟩ := DataW.trod_array Tryd.underlying167 hd0
  have c3 : Tryd.prog.cellsOf 3 = 1 := by kernel_rfl
  have c4 : Tryd.prog.cellsOf 167 = 4 := by kernel_rfl
  have h0 := hel 0 (by decide)
  have h1 := hel 1 (by decide)
  have h2 := hel 2 (by decide)
  have h3 := hel 3 (by decide)
  rw [c3] at h0 h1 h2 h3
  rw [c4] at hlen
  obtain ⟨cs⟩ := cs0
  simp only at hlen h0 h1 h2 h3 hv0
  obtain ⟨a0, a1, a2, a3, rfl⟩ := len4 hlen
  obtain ⟨x0, x1, x2, x3, rfl⟩ := len4 hn3
  simp only [Prod.mk.injEq] at hx1
  have hx := hx1.1
  simp only [Rows.laid_hourglass_evlog_words, List.map_cons, List.map_nil, DataW.agg.injEq, List.cons.injEq, and_true] at hx
  obtain ⟨y0, y1, y2, y3⟩ := hx
  have one : ∀ {a : Value} {x : DataW Unit × List MemPlace} {n : Int}, DataW.trod (fun _ => ()) Tryd.prog W 0 (fun _ => true) false m1 3 [a] = some x → DataW.lit (.int .i64 n) = x.1 → a = .int .i64 n := by
    intro a x n h e
    obtain ⟨k, e1, e2, _⟩ := DataW.trod_int Tryd.underlying3 h
    rw [e2] at e
    simp only [DataW.lit.injEq, Lit.int.injEq, true_and] at e
    simp only [List.cons.injEq, and_true] at e1
    rw [e1, e]
  have z0 := one h0 y0
  have z1 := one h1 y1
  have z2 := one h2 y2
  have z3 := one h3 y3
  subst z0 z1 z2 z3
  have hc := World.var?_cell hg0 hv0
  refine ⟨hc 0, hc 1, hc 2, hc 3, World.block_lt_of_cell? W ⟨0, 0, none⟩ (hc 0)⟩

section
variable {H : Type} {enc : TypeId × Value → H} {w : World} {held : Bool}
end
end Go.Proofs.YtenicnneppgfmaaDoor
