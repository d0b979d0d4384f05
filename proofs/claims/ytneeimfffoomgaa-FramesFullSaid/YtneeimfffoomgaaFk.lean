/- Frames in a local variable that is written anew. No condition. -/
import Derived.Test.YtneeimfffoomgaaWb
import Derived.Test.YtneeimfffoomgaaPk
namespace Go.Proofs.Ytneeimfffoomgaa
open Go Go.RowKit Go.ChangeShapes Go.WideShapes Go.Deep
set_option linter.unusedVariables false

/-- Frames that lie in the variable B. -/
structure FSt (W : World) (B : Nat) (rs : List (List Int)) (zs : List Int) (vd vr : Value) (w : World) : Prop where
  x : w.heap[B]? = some (.cells #[vd, vr] 46 (0, 0))
  f : FramesR w.heap.size w (.agg #[vd, vr]) rs zs
  b : Below W.heap.size W w
  bd : FBd rs zs
  le : W.heap.size ≤ B

theorem FSt.mk0 {W w : World} {vd vr : Value} {rs : List (List Int)} {zs : List Int} (hf : FramesR w.heap.size w (.agg #[vd, vr]) rs zs) (hb : Below W.heap.size W w) : FSt W w.heap.size rs zs vd vr (w.alloc (.cells #[vd, vr] 46 (0, 0))) :=
  ⟨alloc_at rfl, hf.to (by simp) (same_alloc _ _), hb.alloc hb.size _, hf.bd, hb.size⟩
theorem FSt.lt {W w : World} {B : Nat} {rs : List (List Int)} {zs : List Int} {vd vr : Value} (h : FSt W B rs zs vd vr w) : B < w.heap.size := (Array.getElem?_eq_some_iff.1 h.x).1
theorem FSt.grown {W w w' : World} {B : Nat} {rs : List (List Int)} {zs : List Int} {vd vr : Value} (h : FSt W B rs zs vd vr w) (hb : Below w.heap.size w w') : FSt W B rs zs vd vr w' :=
  ⟨block_below hb h.x h.lt, h.f.to hb.size (same_below hb), h.b.trans (hb.mono h.b.size), h.bd, h.le⟩
/-- Other frames of the call's own are put into the variable. -/
theorem FSt.step {W w w' : World} {B : Nat} {rs rs' : List (List Int)} {zs zs' : List Int} {vd vr vd' vr' : Value} {vs : List Value} (h : FSt W B rs zs vd vr w) (ho : FrOwn w.heap.size w' vd' vr' rs' zs' vs) (hb : Below w.heap.size w w') (hbd : FBd rs' zs') :
    FSt W B rs' zs' vd' vr' ((w'.setCell ⟨B, 0, none⟩ vd').setCell ⟨B, 1, none⟩ vr') := by
  have hx := block_below hb h.x h.lt
  have o := (ho.set (i := 0) (u := vd') hx (by decide) (by decide)).set (i := 1) (u := vr') (set_block hx _) (by decide) (by decide)
  have hfr := o.reads hbd
  refine ⟨by simpa using set_block (i := 1) (set_block (i := 0) hx vd') vr', hfr, ?_, hbd, h.le⟩
  exact ((h.b.trans (hb.mono h.b.size)).setCell (by simpa using h.le) _).setCell (by simpa using h.le) _

theorem fok3 {a b c : List Int} {x y z : Int} (h1 : OkAt x a.length) (h2 : OkAt y b.length) (h3 : OkAt z c.length) : FOk [a, b, c] [x, y, z] := by
  refine ⟨rfl, by simp, fun k hk => ?_⟩
  match k, hk with
  | 0, _ => exact h1
  | 1, _ => exact h2
  | 2, _ => exact h3
theorem fy3 {w w' : World} {i : Int} {a b c : List Int} {x y z : Int} {e : Ending} (h : FrYesI w i [a, b, c] [x, y, z] e w') : ∃ ad cd ar cr vs, e = .returned (.tuple #[.agg #[.slice ad 3 cd, .slice ar 3 cr], .int .i64 i, .int .i64 0]) ∧ FrOwn w.heap.size w' (.slice ad 3 cd) (.slice ar 3 cr) [a, b, c] [x, y, z] vs ∧ Below w.heap.size w w' := h
theorem fs3 {w w' : World} {a b c : List Int} {x y z : Int} {e : Ending} (h : FrYes w [a, b, c] [x, y, z] e w') : ∃ ad cd ar cr vs, e = .returned (.tuple #[.agg #[.slice ad 3 cd, .slice ar 3 cr], .int .i64 0]) ∧ FrOwn w.heap.size w' (.slice ad 3 cd) (.slice ar 3 cr) [a, b, c] [x, y, z] vs ∧ Below w.heap.size w w' := h
theorem okU {n : Nat} (h : n = 16) (z : Int) (h1 : 1 ≤ z) (h2 : z ≤ 200) : OkAt z n := ⟨by omega, h2, fun e => by omega, fun _ => h⟩
theorem okF : OkAt 0 ([] : List Int).length := ⟨by omega, by omega, fun _ => rfl, fun h => absurd rfl h⟩
theorem bd3 {a b c : List Int} {x y z : Int} (h1 : (∀ u ∈ a, I64 u) ∧ a.length = 16 ∨ a = []) (h2 : (∀ u ∈ b, I64 u) ∧ b.length = 16 ∨ b = []) (h3 : (∀ u ∈ c, I64 u) ∧ c.length = 16 ∨ c = []) (hx : I64 x) (hy : I64 y) (hz : I64 z) : FBd [a, b, c] [x, y, z] := by
  have one : ∀ {l : List Int}, ((∀ u ∈ l, I64 u) ∧ l.length = 16 ∨ l = []) → (∀ u ∈ l, I64 u) ∧ l.length ≤ 17592186043904 := by
    intro l h
    rcases h with ⟨h, hl⟩ | rfl
    · exact ⟨h, by omega⟩
    · exact ⟨fun u hu => by simp at hu, by simp⟩
  refine ⟨fun r hr => ?_, fun u hu => ?_, by simp, by simp⟩
  · simp only [List.mem_cons, List.not_mem_nil, or_false] at hr
    rcases hr with rfl | rfl | rfl
    · exact one h1
    · exact one h2
    · exact one h3
  · simp only [List.mem_cons, List.not_mem_nil, or_false] at hu
    rcases hu with rfl | rfl | rfl
    · exact hx
    · exact hy
    · exact hz
end Go.Proofs.Ytneeimfffoomgaa
