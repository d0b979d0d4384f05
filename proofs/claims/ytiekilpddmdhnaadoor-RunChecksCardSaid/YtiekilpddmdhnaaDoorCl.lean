/- Contracts of slices.Clone (numbers, rows) and of the reference's words: what is handed back is the call's own. No condition beyond the readings. -/
import Derived.Test.YtiekilpddmdhnaaDoorFr1
namespace Go.Proofs.YtiekilpddmdhnaaDoor
open Go Go.RowKit Go.ChangeShapes Go.WideShapes Go.Deep
set_option linter.unusedVariables false

/-- A slice by its cells' values. -/
def SlV (m B : Nat) (w : World) (v : Value) (vs : List Value) : Prop := Sl1 m B w (fun v x => v = x) v vs

theorem Ints.vals {B : Nat} {w : World} {v : Value} {zs : List Int} (h : Ints B w v zs) : SlV 17592186043904 B w v (zs.map (Value.int .i64)) := by
  obtain ⟨a, cap, rfl, hl, hl2, hc⟩ := h
  refine ⟨a, cap, by simp, by simpa using hl, by simpa using hl2, fun i hi => ?_⟩
  obtain ⟨b, off, vi, ha, hb, hcell, hv, _⟩ := hc i (by simpa using hi)
  exact ⟨b, off, vi, ha, hb, hcell, by rw [hv]; simp⟩

/-- What a clone owns. -/
def OwnPost (t : TypeId) (w : World) (vs : List Value) (e : Ending) (w' : World) : Prop := ∃ v, e = .returned v ∧ w'.ownsRow w.heap.size t 1 v vs.length vs ∧ Below w.heap.size w w'

/-- 'append([]T{}, s...)': a clone of a slice that is not nil. -/
theorem wpList_clone {P : Program} (w : World) {ops : Array Oper} {rest : List Oper} {o : Oper} {a : Act} {Q : Exit → Act → World → Prop} (hgd : o.guard = none) (s x : Operand) (t : TypeId)
    (ho : o.op = .call { callee := .builtin .append, args := #[s, x], argTypes := #[t, t] })
    (e : TypeId) (z : Value) (m bytes B : Nat) (ht : P.underlying t = some (.slice e)) (hi : (P.info? e).map (fun i => (i.zero, i.size, i.bytes)) = some (some z, 1, bytes)) (hzs : z.cells.size = 1)
    (ad : Addr) (n c : Nat) (vs : List Value) (hB : B = w.heap.size) (hv : SlV m B w (.slice (some ad) n c) vs) (hone : ∀ u ∈ vs, u.oneCell' = true) (hmb : m * bytes ≤ 140737488355328) (hm : m ≤ 140737488355328)
    {H : Nat} (hs : a.eval s = .slice (some ⟨H, 0, none⟩) 0 0) (hH : w.heap.size = H) (hx : a.eval x = .slice (some ad) n c)
    (h : ∀ v' w', w'.ownsRow w.heap.size e 1 v' vs.length vs → Below w.heap.size w w' → (∃ a c, v' = .slice a vs.length c) → wpList P ops Q rest (a.put o.dst v') w') :
    wpList P ops Q (o :: rest) a (w.alloc (.cells #[] e)) := by
  subst hH hB
  obtain ⟨i0, hi0, hz0, hz1, hz2⟩ := info_parts hi
  obtain ⟨a', cap', hv', hl, hl2, hc⟩ := hv
  injection hv' with h1 h2 h3
  subst h2
  have hmono : vs.length * bytes ≤ m * bytes := Nat.mul_le_mul_right _ hl
  refine wpList_append_own (w := w.alloc (.cells #[] e)) hgd s x t ho w.heap.size e i0 z 1 bytes ht hi0 hz0 hz1 hz2 hzs (by decide) _ 0 [] hs (World.ownsRow_made w #[] 0 (Nat.le_refl _) (by unfold maxLen; omega) (by simp)) ad vs.length c vs hx (by omega) ?_ hone (by unfold maxLen; omega) (by rw [Nat.zero_add]; omega) (by simp) ?_
  · intro j u hj
    have hjl : j < vs.length := by
      rcases Nat.lt_or_ge j vs.length with hh | hh
      · exact hh
      · rw [List.getElem?_eq_none hh] at hj; cases hj
    obtain ⟨b, off, vi, ha, hb, hcell, hvi⟩ := hc j hjl
    rw [← h1] at ha
    injection ha with ha
    subst ha
    rw [add_plain, same_alloc w _ _ _ hb, hcell, hvi, ← hj, List.getElem?_eq_getElem hjl]
  · intro v' w' k1 k2 _
    simp only [Nat.zero_add, List.nil_append] at k1
    refine h v' w' k1 ?_ (own_shape k1)
    have hb : Below w.heap.size (w.alloc (.cells #[] e)) w' := (Below.refl _ _).grown k2 (by simp) (fun k hk => by simp [Value.ownBlock] at hk; omega)
    exact (below_alloc w _).trans hb

set_option maxHeartbeats 400000 in
set_option maxRecDepth 100000 in
theorem cloneV_any (v : Value) (vs : List Value) (w : World) (hv : SlV 17592186043904 w.heap.size w v vs) (hone : ∀ u ∈ vs, u.oneCell' = true) : Calls Tryd.prog 41 #[v] w (OwnPost 3 w vs) := by
  obtain ⟨a, cap, rfl, hl, hl2, hc⟩ := id hv
  have HV := Lib.hid hv
  have HO := Lib.hid hone
  clear hv hone
  cases a with
  | none =>
    have h0 : vs.length = 0 := by
      rcases Nat.eq_zero_or_pos vs.length with h | h
      · exact h
      · obtain ⟨_, _, _, hh, _⟩ := hc 0 h; cases hh
    have hn := eqnil_none (P := Tryd.prog) Tryd.underlying29 vs.length cap
    clear hc
    have H0 := Lib.hid h0
    clear h0
    go_enter Tryd.func41, Tryd.ntmps41
    go_wp2
    go_ret
    refine ⟨_, rfl, ?_, Below.refl _ _⟩
    have h0 := H0.out
    have e0 : vs = [] := List.eq_nil_of_length_eq_zero h0
    subst e0
    exact World.ownsRow_nil _ _ _ _
  | some ad =>
    have hn := eqnil_some (P := Tryd.prog) Tryd.underlying29 ad vs.length cap
    clear hc
    go_enter Tryd.func41, Tryd.ntmps41
    go_wp2_with (at_builtin; refine wpList_clone w rfl (.tmp 5) (.tmp 6) 29 rfl 3 (.int .i64 0) 17592186043904 8 w.heap.size Tryd.underlying29 info_int rfl ad _ _ vs rfl HV.out HO.out (by omega) (by omega) rfl rfl rfl ?_; intro v1 w1 hown1 hb1 hsh; obtain ⟨a1, c1, hv1⟩ := hsh; subst hv1)
    go_ret
    exact ⟨_, rfl, hown1, hb1⟩

theorem take_map_succ {zs : List Int} {k : Nat} (h : k < zs.length) : (zs.take k).map (Value.int .i64) ++ [.int .i64 zs[k]] = (zs.take (k + 1)).map (Value.int .i64) := by
  rw [List.take_succ_eq_append_getElem h, List.map_append]
  rfl

set_option maxHeartbeats 1000000 in
theorem words_any (v : Value) (zs : List Int) (w : World) (h : Ints w.heap.size w v zs) : Calls Tryd.prog 43 #[v] w (OwnPost 3 w (zs.map (Value.int .i64))) := by
  obtain ⟨a, cap, rfl, hl, _, hc⟩ := h
  have Hc := Lib.hid hc
  clear hc
  go_enter Tryd.func43, Tryd.ntmps43
  go_wp2
  go_loopw [3, 4] (fun v i wr => ∃ k : Nat, k ≤ zs.length ∧ i = .int .i64 k ∧ wr.ownsRow w.heap.size 3 1 v k ((zs.take k).map (Value.int .i64)) ∧ Below w.heap.size w wr) (fun _ i _ => zs.length - (intOf i).toNat)
  case atStart => exact ⟨0, Nat.zero_le _, rfl, World.ownsRow_nil _ _ _ _, Below.refl _ _⟩
  case round =>
    obtain ⟨k, hk, rfl, hown, hbel⟩ := hrel
    have hsz := hbel.size
    by_cases hlt : k < zs.length
    · obtain ⟨b, off, vi, ha, hb, hcell, hvi, hz⟩ := Hc.out k hlt
      subst ha hvi
      rw [← same_below hbel b _ hb] at hcell
      have Htk := Lib.hid (take_map_succ hlt)
      obtain ⟨hz1, hz2⟩ := hz
      generalize zs[k] = z at *
      go_wp2_with (at_builtin; refine wpList_push wr rfl (.tmp 11) (.tmp 16) 29 rfl w.heap.size 3 (.int .i64 0) 1 8 Tryd.underlying29 info_int rfl (by decide) [.int .i64 z] rfl (by simp [Value.oneCell']) _ _ _ rfl hown rfl rfl (by omega) (by omega) (by omega) ?_; intro g1 cp1 w1 hown1 hgrow1)
      rw [Htk.out] at hown1
      have hB1 := below_grown hbel hown hgrow1 hsz (Nat.le_refl _)
      go_roundw
      case rel => exact ⟨k + 1, by omega, by go_num, hown1, hB1⟩
      case measure => simp [intOf]; omega
    · obtain rfl : k = zs.length := by omega
      rw [List.take_length] at hown
      go_wp2
      go_ret
      exact ⟨_, rfl, by rw [List.length_map]; exact hown, hbel⟩
/-- Numbers of the call's own are handed back. -/
def OwnInts (w : World) (zs : List Int) (e : Ending) (w' : World) : Prop := ∃ a c, e = .returned (.slice a zs.length c) ∧ w'.ownsRow w.heap.size 3 1 (.slice a zs.length c) zs.length (zs.map (Value.int .i64)) ∧ Below w.heap.size w w'
theorem own_ints {w : World} {zs : List Int} {e : Ending} {w' : World} (h : OwnPost 3 w (zs.map (Value.int .i64)) e w') : OwnInts w zs e w' := by
  obtain ⟨v, rfl, hown, hb⟩ := h
  rw [List.length_map] at hown
  obtain ⟨a, c, rfl⟩ := own_shape hown
  exact ⟨a, c, rfl, hown, hb⟩
theorem ints_one (zs : List Int) : ∀ u ∈ zs.map (Value.int .i64), u.oneCell' = true := by
  intro u hu
  obtain ⟨z, _, rfl⟩ := List.mem_map.1 hu
  rfl
theorem cloneI_any (v : Value) (zs : List Int) (w : World) (h : Ints w.heap.size w v zs) : Calls Tryd.prog 41 #[v] w (OwnInts w zs) :=
  (cloneV_any v _ w h.vals (ints_one zs)).mono fun _ _ h => own_ints h
theorem wordsI_any (v : Value) (zs : List Int) (w : World) (h : Ints w.heap.size w v zs) : Calls Tryd.prog 43 #[v] w (OwnInts w zs) :=
  (words_any v zs w h).mono fun _ _ h => own_ints h
end Go.Proofs.YtiekilpddmdhnaaDoor
