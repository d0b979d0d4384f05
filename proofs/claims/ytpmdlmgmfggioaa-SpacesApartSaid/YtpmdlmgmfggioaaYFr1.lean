/- Several texts joined, each with its own heading in the notes: Contracts of frames. Contracts of slices. The contract of cpu. No condition beyond those of each row. -/
import Derived.Test.YtpmdlmgmfggioaaYMem
namespace Go.Proofs.Ytpmdlmgmfggioaa
open Go Go.RowKit Go.ChangeShapes Go.WideShapes Go.Deep
set_option linter.unusedVariables false

/-- Frames and an error are handed back; nothing that was there is written. -/
def RetF (w : World) (rs : List (List Int)) (zs : List Int) (err : Int) (e : Ending) (w' : World) : Prop := ∃ v, e = .returned (.tuple #[v, .int .i64 err]) ∧ FramesR w'.heap.size w' v rs zs ∧ Below w.heap.size w w'

theorem framesR_nil (B : Nat) (w : World) : FramesR B w (.agg #[.slice none 0 0, .slice none 0 0]) [] [] := ⟨_, _, rfl, RowsR.nil _ _, Ints.nil _ _⟩

theorem i64_small {z : Int} (h : -1000000000000 ≤ z ∧ z ≤ 1000000000000) : I64 z := by unfold I64; omega

set_option maxHeartbeats 400000 in
theorem new_out (n : Int) (w : World) (h : n < 0 ∨ 200 < n) : Calls Try.prog 11 #[.int .i64 n] w (RetF w [] [] 2) := by
  rcases h with h | h
  · go_enter Try.func11, Try.ntmps11
    go_wp2
    exact bodyPost_ret (v := .tuple #[.agg #[.slice none 0 0, .slice none 0 0], .int .i64 2]) (by simp [results, Try.results11, go_sem]) rfl ⟨_, rfl, framesR_nil _ _, below_alloc _ _⟩
  · have h' : ¬ n < 0 := by omega
    go_enter Try.func11, Try.ntmps11
    go_wp2
    exact bodyPost_ret (v := .tuple #[.agg #[.slice none 0 0, .slice none 0 0], .int .i64 2]) (by simp [results, Try.results11, go_sem]) rfl ⟨_, rfl, framesR_nil _ _, below_alloc _ _⟩

end Go.Proofs.Ytpmdlmgmfggioaa
namespace Go.Proofs.Ytpmdlmgmfggioaa
open Go Go.RowKit Go.ChangeShapes Go.WideShapes Go.Deep
set_option linter.unusedVariables false

/-- A slice by its cells' values. -/
def SlV (m B : Nat) (w : World) (v : Value) (vs : List Value) : Prop := Sl1 m B w (fun v x => v = x) v vs

theorem Ints.vals {B : Nat} {w : World} {v : Value} {zs : List Int} (h : Ints B w v zs) : SlV 17592186043904 B w v (zs.map (Value.int .i64)) := by
  obtain ⟨a, cap, rfl, hl, hl2, hc⟩ := h
  refine ⟨a, cap, by simp, by simpa using hl, by simpa using hl2, fun i hi => ?_⟩
  obtain ⟨b, off, vi, ha, hb, hcell, hv, _⟩ := hc i (by simpa using hi)
  exact ⟨b, off, vi, ha, hb, hcell, by rw [hv]; simp⟩

/-- What a clone owns. -/
def OwnPost (t : TypeId) (w : World) (vs : List Value) (e : Ending) (w' : World) : Prop := ∃ v, e = .returned v ∧ w'.ownsRow w.heap.size t 1 v vs.length vs ∧ Below w.heap.size w w'

/-- 'append([]T{}, s...)': a clone of a slice that is not nil. -/
theorem wpList_clone {P : Program} (w : World) {ops : Array Oper} {rest : List Oper} {o : Oper} {a : Act} {Q : Exit → Act → World → Prop} (hgd : o.guard = none) (s x : Operand) (t : TypeId)
    (ho : o.op = .call { callee := .builtin .append, args := #[s, x], argTypes := #[t, t] })
    (e : TypeId) (z : Value) (m bytes B : Nat) (ht : P.underlying t = some (.slice e)) (hi : (P.info? e).map (fun i => (i.zero, i.size, i.bytes)) = some (some z, 1, bytes)) (hzs : z.cells.size = 1)
    (ad : Addr) (n c : Nat) (vs : List Value) (hB : B = w.heap.size) (hv : SlV m B w (.slice (some ad) n c) vs) (hone : ∀ u ∈ vs, u.oneCell' = true) (hmb : m * bytes ≤ 140737488355328) (hm : m ≤ 140737488355328)
    {H : Nat} (hs : a.eval s = .slice (some ⟨H, 0, none⟩) 0 0) (hH : w.heap.size = H) (hx : a.eval x = .slice (some ad) n c)
    (h : ∀ v' w', w'.ownsRow w.heap.size e 1 v' vs.length vs → Below w.heap.size w w' → (∃ a c, v' = .slice a vs.length c) → wpList P ops Q rest (a.put o.dst v') w') :
    wpList P ops Q (o :: rest) a (w.alloc (.cells #[] e)) := by
  subst hH hB
  obtain ⟨i0, hi0, hz0, hz1, hz2⟩ := info_parts hi
  obtain ⟨a', cap', hv', hl, hl2, hc⟩ := hv
  injection hv' with h1 h2 h3
  subst h2
  have hmono : vs.length * bytes ≤ m * bytes := Nat.mul_le_mul_right _ hl
  refine wpList_append_own (w := w.alloc (.cells #[] e)) hgd s x t ho w.heap.size e i0 z 1 bytes ht hi0 hz0 hz1 hz2 hzs (by decide) _ 0 [] hs (World.ownsRow_made w #[] 0 (Nat.le_refl _) (by unfold maxLen; omega) (by simp)) ad vs.length c vs hx (by omega) ?_ hone (by unfold maxLen; omega) (by rw [Nat.zero_add]; omega) (by simp) ?_
  · intro j u hj
    have hjl : j < vs.length := by
      rcases Nat.lt_or_ge j vs.length with hh | hh
      · exact hh
      · rw [List.getElem?_eq_none hh] at hj; cases hj
    obtain ⟨b, off, vi, ha, hb, hcell, hvi⟩ := hc j hjl
    rw [← h1] at ha
    injection ha with ha
    subst ha
    rw [add_plain, same_alloc w _ _ _ hb, hcell, hvi, ← hj, List.getElem?_eq_getElem hjl]
  · intro v' w' k1 k2 _
    simp only [Nat.zero_add, List.nil_append] at k1
    refine h v' w' k1 ?_ (own_shape k1)
    have hb : Below w.heap.size (w.alloc (.cells #[] e)) w' := (Below.refl _ _).grown k2 (by simp) (fun k hk => by simp [Value.ownBlock] at hk; omega)
    exact (below_alloc w _).trans hb

set_option maxHeartbeats 400000 in
set_option maxRecDepth 100000 in
theorem cloneV_any (v : Value) (vs : List Value) (w : World) (hv : SlV 17592186043904 w.heap.size w v vs) (hone : ∀ u ∈ vs, u.oneCell' = true) : Calls Try.prog 9 #[v] w (OwnPost 3 w vs) := by
  obtain ⟨a, cap, rfl, hl, hl2, hc⟩ := id hv
  have HV := Lib.hid hv
  have HO := Lib.hid hone
  clear hv hone
  cases a with
  | none =>
    have h0 : vs.length = 0 := by
      rcases Nat.eq_zero_or_pos vs.length with h | h
      · exact h
      · obtain ⟨_, _, _, hh, _⟩ := hc 0 h; cases hh
    have hn := eqnil_none (P := Try.prog) Try.underlying24 vs.length cap
    clear hc
    have H0 := Lib.hid h0
    clear h0
    go_enter Try.func9, Try.ntmps9
    go_wp2
    go_ret
    refine ⟨_, rfl, ?_, Below.refl _ _⟩
    have h0 := H0.out
    have e0 : vs = [] := List.eq_nil_of_length_eq_zero h0
    subst e0
    exact World.ownsRow_nil _ _ _ _
  | some ad =>
    have hn := eqnil_some (P := Try.prog) Try.underlying24 ad vs.length cap
    clear hc
    go_enter Try.func9, Try.ntmps9
    go_wp2_with (at_builtin; refine wpList_clone w rfl (.tmp 5) (.tmp 6) 24 rfl 3 (.int .i64 0) 17592186043904 8 w.heap.size Try.underlying24 info_int rfl ad _ _ vs rfl HV.out HO.out (by omega) (by omega) rfl rfl rfl ?_; intro v1 w1 hown1 hb1 hsh; obtain ⟨a1, c1, hv1⟩ := hsh; subst hv1)
    go_ret
    exact ⟨_, rfl, hown1, hb1⟩

set_option maxHeartbeats 400000 in
set_option maxRecDepth 100000 in
theorem cloneR_any (v : Value) (vs : List Value) (w : World) (hv : SlV 5864062014634 w.heap.size w v vs) (hone : ∀ u ∈ vs, u.oneCell' = true) : Calls Try.prog 27 #[v] w (OwnPost 24 w vs) := by
  obtain ⟨a, cap, rfl, hl, hl2, hc⟩ := id hv
  have HV := Lib.hid hv
  have HO := Lib.hid hone
  clear hv hone
  cases a with
  | none =>
    have h0 : vs.length = 0 := by
      rcases Nat.eq_zero_or_pos vs.length with h | h
      · exact h
      · obtain ⟨_, _, _, hh, _⟩ := hc 0 h; cases hh
    have hn := eqnil_none (P := Try.prog) Try.underlying38 vs.length cap
    clear hc
    have H0 := Lib.hid h0
    clear h0
    go_enter Try.func27, Try.ntmps27
    go_wp2
    go_ret
    refine ⟨_, rfl, ?_, Below.refl _ _⟩
    have h0 := H0.out
    have e0 : vs = [] := List.eq_nil_of_length_eq_zero h0
    subst e0
    exact World.ownsRow_nil _ _ _ _
  | some ad =>
    have hn := eqnil_some (P := Try.prog) Try.underlying38 ad vs.length cap
    clear hc
    go_enter Try.func27, Try.ntmps27
    go_wp2_with (at_builtin; refine wpList_clone w rfl (.tmp 5) (.tmp 6) 38 rfl 24 (.slice none 0 0) 5864062014634 24 w.heap.size Try.underlying38 info_ints rfl ad _ _ vs rfl HV.out HO.out (by omega) (by omega) rfl rfl rfl ?_; intro v1 w1 hown1 hb1 hsh; obtain ⟨a1, c1, hv1⟩ := hsh; subst hv1)
    go_ret
    exact ⟨_, rfl, hown1, hb1⟩

/-- Numbers of the call's own are handed back. -/
def OwnInts (w : World) (zs : List Int) (e : Ending) (w' : World) : Prop := ∃ a c, e = .returned (.slice a zs.length c) ∧ w'.ownsRow w.heap.size 3 1 (.slice a zs.length c) zs.length (zs.map (Value.int .i64)) ∧ Below w.heap.size w w'
theorem own_ints {w : World} {zs : List Int} {e : Ending} {w' : World} (h : OwnPost 3 w (zs.map (Value.int .i64)) e w') : OwnInts w zs e w' := by
  obtain ⟨v, rfl, hown, hb⟩ := h
  rw [List.length_map] at hown
  obtain ⟨a, c, rfl⟩ := own_shape hown
  exact ⟨a, c, rfl, hown, hb⟩
theorem ints_one (zs : List Int) : ∀ u ∈ zs.map (Value.int .i64), u.oneCell' = true := by
  intro u hu
  obtain ⟨z, _, rfl⟩ := List.mem_map.1 hu
  rfl
theorem cloneI_any (v : Value) (zs : List Int) (w : World) (h : Ints w.heap.size w v zs) : Calls Try.prog 9 #[v] w (OwnInts w zs) :=
  (cloneV_any v _ w h.vals (ints_one zs)).mono fun _ _ h => own_ints h
end Go.Proofs.Ytpmdlmgmfggioaa
namespace Go.Proofs.Ytpmdlmgmfggioaa
open Go Go.RowKit Go.ChangeShapes Go.WideShapes Go.Deep
set_option linter.unusedVariables false

attribute [local go_sem ↓] Go.wp_at_zero Go.wp_at_succ
/-- A guest, by its parts. -/
structure Mach where
  regs : List Int
  pc : Int
  back : Int
  ints : Bool
  wait : Bool
  table : Int
  count : Int
  fin : Int
  mem : List Int
  out : List Int
  ready : Int
  want : Int

/-- The value of a guest whose slices are vr, vm, vo. -/
def Mach.agg (m : Mach) (vr vm vo : Value) : Value := .agg #[vr, .int .i64 m.pc, .int .i64 m.back, .bool m.ints, .bool m.wait, .int .i64 m.table, .int .i64 m.count, .int .i64 m.fin, vm, vo, .int .i64 m.ready, .int .i64 m.want]

/-- Two values that share no block of the call's own. -/
def Apart (v v' : Value) : Prop := v.ownBlock = none ∨ v.ownBlock ≠ v'.ownBlock
theorem apart_of {w w' : World} {b b' : Nat} {t t' : TypeId} {s s' : Nat} {v v' : Value} {n n' : Nat} {xs xs' : List Value} (h : w.ownsRow b t s v n xs) (h' : w'.ownsRow b' t' s' v' n' xs') (hle : w.heap.size ≤ b') : Apart v v' ∧ Apart v' v := by
  unfold Apart
  cases e : v.ownBlock with
  | none => exact ⟨Or.inl rfl, by cases e' : v'.ownBlock with
    | none => exact Or.inl rfl
    | some k => exact Or.inr (by simp)⟩
  | some k =>
    cases e' : v'.ownBlock with
    | none => exact ⟨Or.inr (by simp), Or.inl rfl⟩
    | some k' =>
      have h1 := (h.lt k e).2
      have h2 := (h'.lt k' e').1
      exact ⟨Or.inr (by simp; omega), Or.inr (by simp; omega)⟩
theorem own_base {w : World} {b b' : Nat} {t : TypeId} {s : Nat} {v : Value} {n : Nat} {xs : List Value} (h : w.ownsRow b t s v n xs) (hle : b' ≤ b) : w.ownsRow b' t s v n xs := by
  obtain ⟨h1, h2⟩ := h
  refine ⟨h1, ?_⟩
  rcases h2 with h2 | ⟨g, cap, cur, hv, hg, r⟩
  · exact Or.inl h2
  · exact Or.inr ⟨g, cap, cur, hv, by omega, r⟩
/-- What is owned stays owned where nothing that was there is written. -/
theorem own_below {B : Nat} {w w' : World} {b : Nat} {t : TypeId} {s : Nat} {v : Value} {n : Nat} {xs : List Value} (h : w.ownsRow b t s v n xs) (hb : Below B w w') (hB : w.heap.size ≤ B) : w'.ownsRow b t s v n xs := by
  obtain ⟨h1, h2⟩ := h
  refine ⟨h1, ?_⟩
  rcases h2 with h2 | ⟨g, cap, cur, hv, hg, hh, r⟩
  · exact Or.inl h2
  · exact Or.inr ⟨g, cap, cur, hv, hg, by rw [hb.block g (by have := (Array.getElem?_eq_some_iff.1 hh).1; omega)]; exact hh, r⟩

/-- A guest whose slices are the call's own, each in a block of its own. -/
structure MachOwn (base : Nat) (w : World) (m : Mach) (vr vm vo : Value) : Prop where
  hr : w.ownsRow base 3 1 vr m.regs.length (m.regs.map (Value.int .i64))
  hm : w.ownsRow base 3 1 vm m.mem.length (m.mem.map (Value.int .i64))
  ho : w.ownsRow base 3 1 vo m.out.length (m.out.map (Value.int .i64))
  rm : Apart vr vm
  ro : Apart vr vo
  mo : Apart vm vo
  mr : Apart vm vr
  or : Apart vo vr
  om : Apart vo vm
theorem MachOwn.set {base g i : Nat} {w : World} {m : Mach} {vr vm vo u : Value} {cs : Array Value} {t : TypeId} {fr : Nat × Nat} (h : MachOwn base w m vr vm vo) (hg : w.heap[g]? = some (.cells cs t fr)) (ht : 3 ≠ t) : MachOwn base (w.setCell ⟨g, i, none⟩ u) m vr vm vo :=
  ⟨own_set h.hr (own_ne_block h.hr hg ht) _, own_set h.hm (own_ne_block h.hm hg ht) _, own_set h.ho (own_ne_block h.ho hg ht) _, h.rm, h.ro, h.mo, h.mr, h.or, h.om⟩
end Go.Proofs.Ytpmdlmgmfggioaa
