/- The reading of slices of arrays of numbers: [][2]int, [][3]int. No condition. -/
import Derived.Test.YtpmdlmgmfggioaaYMem
namespace Go.Proofs.Ytpmdlmgmfggioaa
open Go Go.RowKit Go.ChangeShapes Go.WideShapes Go.Deep
set_option linter.unusedVariables false

section
variable {H : Type} {enc : TypeId × Value → H} {w : World} {held : Bool} {P : Program}
theorem DataW.trod_arr {t e : TypeId} {m : Nat} {fuel : Nat} {cs : List Value} {x : DataW H × List MemPlace} (ht : P.underlying t = some (.array m e)) (h : DataW.trod enc P w 0 (fun _ => true) held fuel t cs = some x) :
    ∃ n, fuel = n + 1 ∧ cs.length = P.cellsOf t ∧ ∀ i, i < m → ∃ y, DataW.trod enc P w 0 (fun _ => true) held n e ((cs.drop (i * P.cellsOf e)).take (P.cellsOf e)) = some y := by
  cases fuel with
  | zero => simp [DataW.trod] at h
  | succ n =>
    unfold DataW.trod at h
    rw [ht] at h
    split at h <;> simp_all
    obtain ⟨hl, xs, hp, hd⟩ := h
    intro i hi
    have h1 := mapM_some_get hp i i (by simp [hi])
    have h2 := mapM_some_length hp
    rw [List.length_range] at h2
    have hlt : i < xs.length := by omega
    rw [List.getElem?_eq_getElem hlt] at h1
    exact ⟨xs[i].1, xs[i].2, h1⟩
end
/-- Two numbers; three. -/
def P2C (cs : List Value) (x : Int × Int) : Prop := cs = [.int .i64 x.1, .int .i64 x.2] ∧ I64 x.1 ∧ I64 x.2
def P3C (cs : List Value) (x : Int × Int × Int) : Prop := cs = [.int .i64 x.1, .int .i64 x.2.1, .int .i64 x.2.2] ∧ I64 x.1 ∧ I64 x.2.1 ∧ I64 x.2.2
def P2R (B : Nat) (w : World) (v : Value) (xs : List (Int × Int)) : Prop := SlN 2 8796093021952 B w P2C v xs
def P3R (B : Nat) (w : World) (v : Value) (xs : List (Int × Int × Int)) : Prop := SlN 3 5864062014634 B w P3C v xs
theorem P2R.to {B B' : Nat} {w w' : World} {v : Value} {xs : List (Int × Int)} (hB : B ≤ B') (hw : Same B w w') (h : P2R B w v xs) : P2R B' w' v xs := SlN.to (Nat.le_refl _) hB hw (fun _ _ h => h) h
theorem P3R.to {B B' : Nat} {w w' : World} {v : Value} {xs : List (Int × Int × Int)} (hB : B ≤ B') (hw : Same B w w') (h : P3R B w v xs) : P3R B' w' v xs := SlN.to (Nat.le_refl _) hB hw (fun _ _ h => h) h
theorem reach16 (n : Nat) (h : n * 16 ≤ reachBytes) : n ≤ 8796093021952 := by unfold reachBytes at h; omega
theorem reach24' (n : Nat) (h : n * 24 ≤ reachBytes) : n ≤ 5864062014634 := by unfold reachBytes at h; omega
theorem cells_a2 : Try.prog.cellsOf 34 = 2 := by kernel_rfl
theorem bytes_a2 : Try.prog.bytesOf 34 = 16 := by kernel_rfl
theorem cells_a3 : Try.prog.cellsOf 36 = 3 := by kernel_rfl
theorem bytes_a3 : Try.prog.bytesOf 36 = 24 := by kernel_rfl
theorem cells_i : Try.prog.cellsOf 3 = 1 := by kernel_rfl
section
variable {H : Type} {enc : TypeId × Value → H} {w : World} {held : Bool}
theorem open_p2C {n : Nat} {cs : List Value} {d : DataW H} {p : List MemPlace} (h : DataW.trod enc Try.prog w 0 (fun _ => true) held n 34 cs = some (d, p)) : ∃ x, P2C cs x := by
  obtain ⟨k, _, hl, hk⟩ := DataW.trod_arr Try.underlying34 h
  rw [cells_a2] at hl
  rw [cells_i] at hk
  match cs, hl with
  | [c0, c1], _ =>
    obtain ⟨⟨d0, q0⟩, h0⟩ := hk 0 (by omega)
    obtain ⟨⟨d1, q1⟩, h1⟩ := hk 1 (by omega)
    obtain ⟨z0, rfl, g0⟩ := open_intV Try.underlying3 h0
    obtain ⟨z1, rfl, g1⟩ := open_intV Try.underlying3 h1
    exact ⟨⟨z0, z1⟩, rfl, g0, g1⟩
theorem open_p3C {n : Nat} {cs : List Value} {d : DataW H} {p : List MemPlace} (h : DataW.trod enc Try.prog w 0 (fun _ => true) held n 36 cs = some (d, p)) : ∃ x, P3C cs x := by
  obtain ⟨k, _, hl, hk⟩ := DataW.trod_arr Try.underlying36 h
  rw [cells_a3] at hl
  rw [cells_i] at hk
  match cs, hl with
  | [c0, c1, c2], _ =>
    obtain ⟨⟨d0, q0⟩, h0⟩ := hk 0 (by omega)
    obtain ⟨⟨d1, q1⟩, h1⟩ := hk 1 (by omega)
    obtain ⟨⟨d2, q2⟩, h2⟩ := hk 2 (by omega)
    obtain ⟨z0, rfl, g0⟩ := open_intV Try.underlying3 h0
    obtain ⟨z1, rfl, g1⟩ := open_intV Try.underlying3 h1
    obtain ⟨z2, rfl, g2⟩ := open_intV Try.underlying3 h2
    exact ⟨⟨z0, z1, z2⟩, rfl, g0, g1, g2⟩
theorem open_p2R {r : Reach} {b0 : Nat} {v : Value} {d : DataW H} {p : List MemPlace} (ok : Value.okWide Try.prog w r b0 22 v) (h : DataW.Trod enc Try.prog w 0 (fun _ => true) held 22 v d p) (hf : Fits Try.prog 22 d) : ∃ xs, P2R w.heap.size w v xs := by
  obtain ⟨a, len, cap, rfl⟩ := okWide_slice Try.underlying22 ok
  obtain ⟨n, hn⟩ := h
  exact open_slN 2 8796093021952 16 (by omega) Try.underlying22 cells_a2 bytes_a2 reach16 P2C (fun _ _ _ _ h _ _ => open_p2C h) hn hf
theorem open_p3R {r : Reach} {b0 : Nat} {v : Value} {d : DataW H} {p : List MemPlace} (ok : Value.okWide Try.prog w r b0 23 v) (h : DataW.Trod enc Try.prog w 0 (fun _ => true) held 23 v d p) (hf : Fits Try.prog 23 d) : ∃ xs, P3R w.heap.size w v xs := by
  obtain ⟨a, len, cap, rfl⟩ := okWide_slice Try.underlying23 ok
  obtain ⟨n, hn⟩ := h
  exact open_slN 3 5864062014634 24 (by omega) Try.underlying23 cells_a3 bytes_a3 reach24' P3C (fun _ _ _ _ h _ _ => open_p3C h) hn hf
end
end Go.Proofs.Ytpmdlmgmfggioaa
