/- The contract of evlog.Encode. No condition beyond the readings and the table's cells. -/
import Derived.Test.YtiekilpddmdhnaaDoorEe
import Derived.Test.YtiekilpddmdhnaaDoorEf
namespace Go.Proofs.YtiekilpddmdhnaaDoor
open Go Go.RowKit Go.ChangeShapes Go.WideShapes Go.Deep
set_option linter.unusedVariables false

theorem EvRes.ok {l : List Ev} (h : EvRes l 0) : EvOk l ∧ l.length ≤ 1000 := by
  rcases h with ⟨_, h⟩ | ⟨_, k, _, _, _, h⟩ | ⟨h1, h2, _⟩
  · cases h
  · exact absurd rfl h
  · exact ⟨h2, h1⟩

set_option maxHeartbeats 1000000 in
theorem encode_bad (v : Value) (l : List Ev) (w : World) (hf : EvsR w.heap.size w v l) (ht : Tab w) (c : Int) (hc : EvRes l c) (h0 : c ≠ 0) : Calls Tryd.prog 40 #[v] w fun e w' => e = .returned (.tuple #[.slice none 0 0, .int .i64 c]) ∧ Below w.heap.size w w' := by
  have HF := Lib.hid hf
  have HT := Lib.hid ht
  have HR := Lib.hid hc
  have hb : (c != 0) = true := by rw [bne_iff_ne]; exact h0
  clear hf ht hc
  go_enter Tryd.func40, Tryd.ntmps40
  go_wp2_with fail
  refine (evcheck_any _ l _ HF.out HT.out).mono ?_
  rintro e w1 ⟨d, hd, rfl, hb1⟩
  obtain rfl := hd.det HR.out
  clear hd HR
  go_wp2
  go_ret2
  exact ⟨rfl, hb1⟩

/-- The bytes that are written so far, beside the event's box. -/
structure BSt (w : World) (g : Nat) (cells : Array Value) (a : Option Addr) (c : Nat) (bs : List UInt8) (wr : World) : Prop where
  o : wr.ownsRow w.heap.size 5 1 (.slice a bs.length c) bs.length (bv bs)
  x : wr.heap[g]? = some (.cells cells 54 (0, 0))
  b : Below w.heap.size w wr
theorem BSt.lt {w wr : World} {g c : Nat} {cells : Array Value} {a : Option Addr} {bs : List UInt8} (h : BSt w g cells a c bs wr) : g < wr.heap.size := (Array.getElem?_eq_some_iff.1 h.x).1
theorem BSt.step {w wr w1 : World} {g c : Nat} {cells : Array Value} {a : Option Addr} {bs bs' : List UInt8} {e : Ending} (h : BSt w g cells a c bs wr) (hp : NumPost w.heap.size wr (Value.slice a bs.length c).ownBlock bs' e w1) : ∃ a' c', e = .returned (.slice a' bs'.length c') ∧ BSt w g cells a' c' bs' w1 := by
  obtain ⟨a', c', rfl, h1, h2, h3⟩ := hp
  exact ⟨a', c', rfl, h1, block_grown h2 h.x (own_ne_block h.o h.x (by decide)), below_grown h.b h.o h2 h.b.size (Nat.le_refl _)⟩
theorem BSt.drewN {w wr : World} {g c : Nat} {cells : Array Value} {a : Option Addr} {bs : List UInt8} (h : BSt w g cells a c bs wr) (n : Nat) : BSt w g cells a c bs (wr.drewN n) := ⟨h.o, h.x, below_drewN h.b n⟩

theorem ints_cells {B n cd : Nat} {w : World} {dd : Option Addr} {zs : List Int} (h : Ints B w (.slice dd n cd) zs) (h0 : 0 < zs.length) : ∃ bb oo, dd = some ⟨bb, oo, none⟩ ∧ bb < B ∧ ∀ j (hj : j < zs.length), w.cell? ⟨bb, oo + j, none⟩ = some (.int .i64 zs[j]) := by
  obtain ⟨a, cap, hv, _, _, hc⟩ := h
  injection hv with e1 e2 e3
  subst e1
  obtain ⟨bb, oo, vi, ha, hb, _, _⟩ := hc 0 h0
  refine ⟨bb, oo, ha, hb, fun j hj => ?_⟩
  obtain ⟨b', o', v', ha', hb', hcell, hv', _⟩ := hc j hj
  rw [ha] at ha'
  injection ha' with ha'
  injection ha' with e4 e5
  subst e4 e5
  rw [hcell, hv']

/-- A run of one word goes from i to q, no farther. -/
def RunTo (d : List Int) (i q : Nat) : Prop := ∃ h : i < d.length, i < q ∧ q ≤ d.length ∧ (∀ j (hj : j < d.length), i ≤ j → j < q → d[j] = d[i]) ∧ (d.drop q).head? ≠ some d[i]
theorem RunTo.tail {d : List Int} {i q : Nat} (hr : RunTo d i q) {kind last : Int} (h6 : (d.length : Int) = evW kind) (h1 : 1 ≤ kind) (h3 : kind ≤ 3) (hi : i < d.length) : (kind = 2 ∨ kind = 3) ∧ tailE kind last (d.drop i) = (if kind = 2 then sevens (q - i) else []) ++ (sevens (zig (d[i] - last)) ++ tailE kind d[i] (d.drop q)) := by
  obtain ⟨_, hiq, hq2, ha, hh⟩ := hr
  have hlt3 : kind = 3 → q - i - 1 = 0 ∧ d.drop q = [] := by
    intro e
    rw [e] at h6
    have hl1 : (d.length : Int) = 1 := h6
    exact ⟨by omega, List.drop_eq_nil_of_le (by omega)⟩
  have hkk : kind = 2 ∨ kind = 3 := by
    rcases (show kind = 1 ∨ kind = 2 ∨ kind = 3 by omega) with e | e | e
    · rw [e] at h6
      have hl0 : (d.length : Int) = 0 := h6
      omega
    · exact Or.inl e
    · exact Or.inr e
  refine ⟨hkk, ?_⟩
  have htl := tail_run (last := last) hh hlt3 hkk
  rw [← drop_run hi rfl hiq hq2 ha, show q - i - 1 + 1 = q - i by omega] at htl
  exact htl
theorem run_go {d : List Int} {i q : Nat} {x : Int} (h : ∀ j (hj : j < d.length), i ≤ j → j < q → d[j] = x) (hq : q < d.length) (heq : d[q] = x) : ∀ j (hj : j < d.length), i ≤ j → j < q + 1 → d[j] = x := by
  intro j hj h1 h2
  by_cases hjq : j = q
  · subst hjq; exact heq
  · exact h j hj h1 (by omega)
theorem run_end {d : List Int} {i q : Nat} (hi : i < d.length) (hiq : i ≤ q) (h : ∀ j (hj : j < d.length), i ≤ j → j < q → d[j] = d[i]) (hq : q < d.length) (hne : d[q] ≠ d[i]) : RunTo d i q := by
  refine ⟨hi, ?_, by omega, h, ?_⟩
  · rcases Nat.lt_or_ge i q with h' | h'
    · exact h'
    · obtain rfl : i = q := by omega
      exact absurd rfl hne
  · rw [List.head?_drop, List.getElem?_eq_getElem hq]
    intro e; injection e with e; exact hne e
theorem run_all {d : List Int} {i : Nat} (hi : i < d.length) (h : ∀ j (hj : j < d.length), i ≤ j → j < d.length → d[j] = d[i]) : RunTo d i d.length :=
  ⟨hi, hi, Nat.le_refl _, h, by simp⟩
end Go.Proofs.YtiekilpddmdhnaaDoor
