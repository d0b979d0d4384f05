/- Several texts joined, each with its own heading in the notes: The contract of picked. The contract of cpu. The reading of a slice of raw things. No condition beyond those of each row. -/
import Derived.Test.YtpmdlmgmfggioaaYMem
import Derived.Test.YtpmdlmgmfggioaaYCm
import Derived.Laws.CopyOwn
namespace Go.Proofs.Ytpmdlmgmfggioaa
open Go Go.RowKit Go.ChangeShapes Go.WideShapes Go.Deep
set_option linter.unusedVariables false

/-- What picked answers. -/
def pickZ (n many : Int) : Int := (if n < 0 then -(n + 1) else n) % many
theorem pick_rng (n many : Int) (h : 0 < many) : 0 ≤ pickZ n many ∧ pickZ n many < many := ⟨Int.emod_nonneg _ (by omega), Int.emod_lt_of_pos _ h⟩
theorem picked_any (n many : Int) (w : World) (h1 : -9223372036854775808 ≤ n) (h2 : n ≤ 9223372036854775807) (h3 : 0 < many) (h4 : many ≤ 1000000) : Calls Try.prog 8 #[.int .i64 n, .int .i64 many] w fun e w' => e = .returned (.int .i64 (pickZ n many)) ∧ w = w' := by
  by_cases h : n < 0
  · have e : pickZ n many = -(n + 1) % many := by unfold pickZ; rw [if_pos h]
    have E := Lib.hid e
    clear e
    have hb : 0 ≤ -(n + 1) := by omega
    go_enter Try.func8, Try.ntmps8
    go_wp2
    go_ret
    exact ⟨ret_int (by rw [← Int.neg_tmod, Int.tmod_eq_emod_of_nonneg hb]; exact E.out.symm), rfl⟩
  · have e : pickZ n many = n % many := by unfold pickZ; rw [if_neg h]
    have E := Lib.hid e
    clear e
    go_enter Try.func8, Try.ntmps8
    go_wp2
    go_ret
    exact ⟨ret_int E.out.symm, rfl⟩

end Go.Proofs.Ytpmdlmgmfggioaa
namespace Go.Proofs.Ytpmdlmgmfggioaa
open Go Go.RowKit Go.ChangeShapes Go.WideShapes Go.Deep
set_option linter.unusedVariables false

theorem zeroInts_eq (n : Nat) : zeroInts n = ((List.replicate n (0 : Int)).map (Value.int .i64)).toArray := by
  rw [List.map_replicate, ← zeroInts_list, Array.toArray_toList]
theorem own_block {w : World} {g base n : Nat} {zs : List Int} (h : w.heap[g]? = some (.cells (zs.map (Value.int .i64)).toArray 3 (0, 0))) (hb : base ≤ g) (hn : zs.length = n) (hm : n ≤ 1000000) : w.ownsRow base 3 1 (.slice (some ⟨g, 0, none⟩) n n) n (zs.map (Value.int .i64)) :=
  ⟨by simp [hn], .inr ⟨g, n, _, rfl, hb, h, Nat.le_refl _, by unfold maxLen; omega, by simp [hn], by rw [← hn]; simp [List.take_of_length_le]⟩⟩

end Go.Proofs.Ytpmdlmgmfggioaa
namespace Go.Proofs.Ytpmdlmgmfggioaa
open Go Go.RowKit Go.ChangeShapes Go.WideShapes Go.Deep
set_option linter.unusedVariables false

/-- A raw thing. -/
structure Rw where
  k : Int
  a : Int
  b : Int
  c : Int
def RawC (cs : List Value) (x : Rw) : Prop := cs = [.int .i64 x.k, .int .i64 x.a, .int .i64 x.b, .int .i64 x.c] ∧ I64 x.k ∧ I64 x.a ∧ I64 x.b ∧ I64 x.c
def RawsR (B : Nat) (w : World) (v : Value) (xs : List Rw) : Prop := SlN 4 4398046510976 B w RawC v xs
theorem RawsR.to {B B' : Nat} {w w' : World} {v : Value} {xs : List Rw} (hB : B ≤ B') (hw : Same B w w') (h : RawsR B w v xs) : RawsR B' w' v xs := SlN.to (Nat.le_refl _) hB hw (fun _ _ h => h) h
theorem reach32 (n : Nat) (h : n * 32 ≤ reachBytes) : n ≤ 4398046510976 := by unfold reachBytes at h; omega
theorem Try.cells33 : Try.prog.cellsOf 33 = 4 := by kernel_rfl
theorem Try.bytes33 : Try.prog.bytesOf 33 = 32 := by kernel_rfl

section
variable {H : Type} {enc : TypeId × Value → H} {w : World} {held : Bool}
set_option maxRecDepth 100000 in
theorem open_rawC {n : Nat} {cs : List Value} {d : DataW H} {p : List MemPlace} (h : DataW.trod enc Try.prog w 0 (fun _ => true) held n 33 cs = some (d, p)) (hf : Fits Try.prog 33 d) : ∃ x, RawC cs x := by
  obtain ⟨hl, k, hk⟩ := open_cells Try.underlying33 (by kernel_rfl) h hf
  obtain ⟨c0, c1, c2, c3, rfl⟩ := len4 (hl.trans (by kernel_rfl))
  obtain ⟨d0, p0, h0, f0⟩ := hk 0 _ rfl
  obtain ⟨d1, p1, h1, f1⟩ := hk 1 _ rfl
  obtain ⟨d2, p2, h2, f2⟩ := hk 2 _ rfl
  obtain ⟨d3, p3, h3, f3⟩ := hk 3 _ rfl
  obtain ⟨z0, rfl, g0⟩ := open_intV Try.underlying3 h0
  obtain ⟨z1, rfl, g1⟩ := open_intV Try.underlying3 h1
  obtain ⟨z2, rfl, g2⟩ := open_intV Try.underlying3 h2
  obtain ⟨z3, rfl, g3⟩ := open_intV Try.underlying3 h3
  exact ⟨⟨z0, z1, z2, z3⟩, rfl, g0, g1, g2, g3⟩
set_option maxRecDepth 100000 in
theorem open_rawsR {r : Reach} {b0 : Nat} {v : Value} {d : DataW H} {p : List MemPlace} (ok : Value.okWide Try.prog w r b0 30 v) (h : DataW.Trod enc Try.prog w 0 (fun _ => true) held 30 v d p) (hf : Fits Try.prog 30 d) : ∃ xs, RawsR w.heap.size w v xs := by
  obtain ⟨a, len, cap, rfl⟩ := okWide_slice Try.underlying30 ok
  obtain ⟨n, hn⟩ := h
  exact open_slN 4 4398046510976 32 (by omega) Try.underlying30 Try.cells33 Try.bytes33 reach32 RawC (fun _ _ _ _ h _ hf => open_rawC h hf) hn hf
end
end Go.Proofs.Ytpmdlmgmfggioaa
