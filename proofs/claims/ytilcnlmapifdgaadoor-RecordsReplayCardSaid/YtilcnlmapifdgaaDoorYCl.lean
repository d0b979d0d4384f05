/- Several texts joined, each with its own heading in the notes: Contracts of slices. append of whatever slice of one-cell elements onto what the call owns. The contract of cpu. No condition beyond those of each row. -/
import Derived.Test.YtilcnlmapifdgaaDoorYMem
import Derived.Deep.AppendLies
import Derived.Laws.OwnMore
namespace Go.Proofs.YtilcnlmapifdgaaDoor
open Go Go.RowKit Go.ChangeShapes Go.WideShapes Go.Deep
set_option linter.unusedVariables false

/-- A slice by its cells' values. -/
def SlV (m B : Nat) (w : World) (v : Value) (vs : List Value) : Prop := Sl1 m B w (fun v x => v = x) v vs

theorem Ints.vals {B : Nat} {w : World} {v : Value} {zs : List Int} (h : Ints B w v zs) : SlV 17592186043904 B w v (zs.map (Value.int .i64)) := by
  obtain ⟨a, cap, rfl, hl, hl2, hc⟩ := h
  refine ⟨a, cap, by simp, by simpa using hl, by simpa using hl2, fun i hi => ?_⟩
  obtain ⟨b, off, vi, ha, hb, hcell, hv, _⟩ := hc i (by simpa using hi)
  exact ⟨b, off, vi, ha, hb, hcell, by rw [hv]; simp⟩

/-- What a clone owns. -/
def OwnPost (t : TypeId) (w : World) (vs : List Value) (e : Ending) (w' : World) : Prop := ∃ v, e = .returned v ∧ w'.ownsRow w.heap.size t 1 v vs.length vs ∧ Below w.heap.size w w'

/-- 'append([]T{}, s...)': a clone of a slice that is not nil. -/
theorem wpList_clone {P : Program} (w : World) {ops : Array Oper} {rest : List Oper} {o : Oper} {a : Act} {Q : Exit → Act → World → Prop} (hgd : o.guard = none) (s x : Operand) (t : TypeId)
    (ho : o.op = .call { callee := .builtin .append, args := #[s, x], argTypes := #[t, t] })
    (e : TypeId) (z : Value) (m bytes B : Nat) (ht : P.underlying t = some (.slice e)) (hi : (P.info? e).map (fun i => (i.zero, i.size, i.bytes)) = some (some z, 1, bytes)) (hzs : z.cells.size = 1)
    (ad : Addr) (n c : Nat) (vs : List Value) (hB : B = w.heap.size) (hv : SlV m B w (.slice (some ad) n c) vs) (hone : ∀ u ∈ vs, u.oneCell' = true) (hmb : m * bytes ≤ 140737488355328) (hm : m ≤ 140737488355328)
    {H : Nat} (hs : a.eval s = .slice (some ⟨H, 0, none⟩) 0 0) (hH : w.heap.size = H) (hx : a.eval x = .slice (some ad) n c)
    (h : ∀ v' w', w'.ownsRow w.heap.size e 1 v' vs.length vs → Below w.heap.size w w' → (∃ a c, v' = .slice a vs.length c) → wpList P ops Q rest (a.put o.dst v') w') :
    wpList P ops Q (o :: rest) a (w.alloc (.cells #[] e)) := by
  subst hH hB
  obtain ⟨i0, hi0, hz0, hz1, hz2⟩ := info_parts hi
  obtain ⟨a', cap', hv', hl, hl2, hc⟩ := hv
  injection hv' with h1 h2 h3
  subst h2
  have hmono : vs.length * bytes ≤ m * bytes := Nat.mul_le_mul_right _ hl
  refine wpList_append_own (w := w.alloc (.cells #[] e)) hgd s x t ho w.heap.size e i0 z 1 bytes ht hi0 hz0 hz1 hz2 hzs (by decide) _ 0 [] hs (World.ownsRow_made w #[] 0 (Nat.le_refl _) (by unfold maxLen; omega) (by simp)) ad vs.length c vs hx (by omega) ?_ hone (by unfold maxLen; omega) (by rw [Nat.zero_add]; omega) (by simp) ?_
  · intro j u hj
    have hjl : j < vs.length := by
      rcases Nat.lt_or_ge j vs.length with hh | hh
      · exact hh
      · rw [List.getElem?_eq_none hh] at hj; cases hj
    obtain ⟨b, off, vi, ha, hb, hcell, hvi⟩ := hc j hjl
    rw [← h1] at ha
    injection ha with ha
    subst ha
    rw [add_plain, same_alloc w _ _ _ hb, hcell, hvi, ← hj, List.getElem?_eq_getElem hjl]
  · intro v' w' k1 k2 _
    simp only [Nat.zero_add, List.nil_append] at k1
    refine h v' w' k1 ?_ (own_shape k1)
    have hb : Below w.heap.size (w.alloc (.cells #[] e)) w' := (Below.refl _ _).grown k2 (by simp) (fun k hk => by simp [Value.ownBlock] at hk; omega)
    exact (below_alloc w _).trans hb

set_option maxHeartbeats 400000 in
set_option maxRecDepth 100000 in
theorem cloneV_any (v : Value) (vs : List Value) (w : World) (hv : SlV 17592186043904 w.heap.size w v vs) (hone : ∀ u ∈ vs, u.oneCell' = true) : Calls Tryd.prog 47 #[v] w (OwnPost 3 w vs) := by
  obtain ⟨a, cap, rfl, hl, hl2, hc⟩ := id hv
  have HV := Lib.hid hv
  have HO := Lib.hid hone
  clear hv hone
  cases a with
  | none =>
    have h0 : vs.length = 0 := by
      rcases Nat.eq_zero_or_pos vs.length with h | h
      · exact h
      · obtain ⟨_, _, _, hh, _⟩ := hc 0 h; cases hh
    have hn := eqnil_none (P := Tryd.prog) Tryd.underlying24 vs.length cap
    clear hc
    have H0 := Lib.hid h0
    clear h0
    go_enter Tryd.func47, Tryd.ntmps47
    go_wp2
    go_ret
    refine ⟨_, rfl, ?_, Below.refl _ _⟩
    have h0 := H0.out
    have e0 : vs = [] := List.eq_nil_of_length_eq_zero h0
    subst e0
    exact World.ownsRow_nil _ _ _ _
  | some ad =>
    have hn := eqnil_some (P := Tryd.prog) Tryd.underlying24 ad vs.length cap
    clear hc
    go_enter Tryd.func47, Tryd.ntmps47
    go_wp2_with (at_builtin; refine wpList_clone w rfl (.tmp 5) (.tmp 6) 24 rfl 3 (.int .i64 0) 17592186043904 8 w.heap.size Tryd.underlying24 info_int rfl ad _ _ vs rfl HV.out HO.out (by omega) (by omega) rfl rfl rfl ?_; intro v1 w1 hown1 hb1 hsh; obtain ⟨a1, c1, hv1⟩ := hsh; subst hv1)
    go_ret
    exact ⟨_, rfl, hown1, hb1⟩

/-- Numbers of the call's own are handed back. -/
def OwnInts (w : World) (zs : List Int) (e : Ending) (w' : World) : Prop := ∃ a c, e = .returned (.slice a zs.length c) ∧ w'.ownsRow w.heap.size 3 1 (.slice a zs.length c) zs.length (zs.map (Value.int .i64)) ∧ Below w.heap.size w w'
theorem own_ints {w : World} {zs : List Int} {e : Ending} {w' : World} (h : OwnPost 3 w (zs.map (Value.int .i64)) e w') : OwnInts w zs e w' := by
  obtain ⟨v, rfl, hown, hb⟩ := h
  rw [List.length_map] at hown
  obtain ⟨a, c, rfl⟩ := own_shape hown
  exact ⟨a, c, rfl, hown, hb⟩
theorem ints_one (zs : List Int) : ∀ u ∈ zs.map (Value.int .i64), u.oneCell' = true := by
  intro u hu
  obtain ⟨z, _, rfl⟩ := List.mem_map.1 hu
  rfl
theorem cloneI_any (v : Value) (zs : List Int) (w : World) (h : Ints w.heap.size w v zs) : Calls Tryd.prog 47 #[v] w (OwnInts w zs) :=
  (cloneV_any v _ w h.vals (ints_one zs)).mono fun _ _ h => own_ints h
end Go.Proofs.YtilcnlmapifdgaaDoor
namespace Go.Proofs.YtilcnlmapifdgaaDoor
open Go Go.RowKit Go.ChangeShapes Go.WideShapes Go.Deep
set_option linter.unusedVariables false

theorem run_append_no {P : Program} {w : World} (base : Nat) (t ty e : TypeId) (i : TypeInfo) (size : Nat) (ht : P.underlying t = some (.slice e)) (hi : P.info? e = some i)
    (v : Value) (n : Nat) (xs : List Value) (hown : w.ownsRow base e size v n xs) (c : Nat) : (Builtin.append_ #[t, t] ty #[v, .slice none 0 c]).run P w = .ok v w := by
  rcases hown.2 with ⟨rfl, rfl⟩ | ⟨g, cap, cur, rfl, _, _, hnc, _⟩
  · simp [Builtin.append_, run_underlying ht, sizeOf, typeInfo, hi, Builtin.lenOf, Builtin.firstCells]
  · simp [Builtin.append_, run_underlying ht, sizeOf, typeInfo, hi, Builtin.lenOf, Builtin.firstCells, hnc, storeCells]

/-- 'append(out, x...)': out nil or the call's own, x a slice that reads as news. -/
theorem run_append_all {P : Program} (w : World) (t ty : TypeId) (base : Nat) (e : TypeId) (z : Value) (bytes : Nat) (ht : P.underlying t = some (.slice e)) (hi : (P.info? e).map (fun i => (i.zero, i.size, i.bytes)) = some (some z, 1, bytes)) (hzs : z.cells.size = 1)
    (v : Value) (n : Nat) (xs : List Value) (hown : w.ownsRow base e 1 v n xs) (x : Value) (m B : Nat) (news : List Value) (hx : SlV m B w x news) (hone : ∀ u ∈ news, u.oneCell' = true)
    (hmax : n + news.length ≤ maxLen) (hbytes : (n + news.length) * bytes ≤ 140737488355328) (hbase : base ≤ w.heap.size) :
    ∃ v' w', (Builtin.append_ #[t, t] ty #[v, x]).run P w = .ok v' w' ∧ w'.ownsRow base e 1 v' (n + news.length) (xs ++ news) ∧ w.grownBy w' v.ownBlock ∧ (v'.ownBlock = v.ownBlock ∨ v'.ownBlock = some w.heap.size) := by
  obtain ⟨i0, hi0, hz0, hz1, hz2⟩ := info_parts hi
  obtain ⟨a, cap, rfl, hl, hl2, hc⟩ := hx
  cases a with
  | none =>
    have h0 : news.length = 0 := by
      rcases Nat.eq_zero_or_pos news.length with h | h
      · exact h
      · obtain ⟨_, _, _, hh, _⟩ := hc 0 h; cases hh
    have e0 : news = [] := List.eq_nil_of_length_eq_zero h0
    subst e0
    exact ⟨v, w, run_append_no base t ty e i0 1 ht hi0 v n xs hown cap, by simpa using hown, World.grownBy.refl _ _, Or.inl rfl⟩
  | some ad =>
    obtain ⟨v', w', hr, h2, h3, _, h5⟩ := run_append_own_at (P := P) w base t ty e i0 z 1 bytes ht hi0 hz0 hz1 hz2 hzs (by decide) v n xs hown ad news.length cap news (by omega) (by
      intro j u hj
      have hjl : j < news.length := by
        rcases Nat.lt_or_ge j news.length with hh | hh
        · exact hh
        · rw [List.getElem?_eq_none hh] at hj; cases hj
      obtain ⟨b, off, vi, ha, hb, hcell, hvi⟩ := hc j hjl
      injection ha with ha
      subst ha
      rw [add_plain, hcell, hvi, ← hj, List.getElem?_eq_getElem hjl]) hone hmax hbytes hbase
    exact ⟨v', w', hr, h2, h3, h5⟩

theorem wpList_append_all {P : Program} (w : World) {ops : Array Oper} {rest : List Oper} {o : Oper} {a : Act} {Q : Exit → Act → World → Prop} (hgd : o.guard = none) (s x : Operand) (t : TypeId)
    (ho : o.op = .call { callee := .builtin .append, args := #[s, x], argTypes := #[t, t] })
    (base : Nat) (e : TypeId) (z : Value) (bytes : Nat) (ht : P.underlying t = some (.slice e)) (hi : (P.info? e).map (fun i => (i.zero, i.size, i.bytes)) = some (some z, 1, bytes)) (hzs : z.cells.size = 1)
    (v : Value) (n : Nat) (xs : List Value) (hs : a.eval s = v) (hown : w.ownsRow base e 1 v n xs) (vx : Value) (m B : Nat) (news : List Value) (hxe : a.eval x = vx) (hx : SlV m B w vx news) (hone : ∀ u ∈ news, u.oneCell' = true)
    (hmax : n + news.length ≤ maxLen) (hbytes : (n + news.length) * bytes ≤ 140737488355328) (hbase : base ≤ w.heap.size)
    (h : ∀ a' c' w', w'.ownsRow base e 1 (.slice a' (n + news.length) c') (n + news.length) (xs ++ news) → w.grownBy w' v.ownBlock → ((Value.slice a' (n + news.length) c').ownBlock = v.ownBlock ∨ (Value.slice a' (n + news.length) c').ownBlock = some w.heap.size) → wpList P ops Q rest (a.put o.dst (.slice a' (n + news.length) c')) w') :
    wpList P ops Q (o :: rest) a w := by
  refine wpList_plain hgd fun K hK => ?_
  obtain ⟨v', w', hr, h2, h3, h5⟩ := run_append_all (P := P) w t o.type base e z bytes ht hi hzs v n xs hown vx m B news hx hone hmax hbytes hbase
  obtain ⟨a', c', rfl⟩ := own_shape h2
  unfold Oper.wp
  simp [execOp, ho, resolve, invoke, builtin, hs, hxe, hr, Result.andThen]
  exact hK _ _ (h a' c' w' h2 h3 h5)
end Go.Proofs.YtilcnlmapifdgaaDoor
namespace Go.Proofs.YtilcnlmapifdgaaDoor
open Go Go.RowKit Go.ChangeShapes Go.WideShapes Go.Deep
set_option linter.unusedVariables false

attribute [local go_sem ↓] Go.wp_at_zero Go.wp_at_succ
/-- A guest, by its parts. -/
structure Mach where
  regs : List Int
  pc : Int
  back : Int
  ints : Bool
  wait : Bool
  table : Int
  count : Int
  fin : Int
  mem : List Int
  out : List Int
  ready : Int
  want : Int

/-- The value of a guest whose slices are vr, vm, vo. -/
def Mach.agg (m : Mach) (vr vm vo : Value) : Value := .agg #[vr, .int .i64 m.pc, .int .i64 m.back, .bool m.ints, .bool m.wait, .int .i64 m.table, .int .i64 m.count, .int .i64 m.fin, vm, vo, .int .i64 m.ready, .int .i64 m.want]

/-- Two values that share no block of the call's own. -/
def Apart (v v' : Value) : Prop := v.ownBlock = none ∨ v.ownBlock ≠ v'.ownBlock
theorem apart_of {w w' : World} {b b' : Nat} {t t' : TypeId} {s s' : Nat} {v v' : Value} {n n' : Nat} {xs xs' : List Value} (h : w.ownsRow b t s v n xs) (h' : w'.ownsRow b' t' s' v' n' xs') (hle : w.heap.size ≤ b') : Apart v v' ∧ Apart v' v := by
  unfold Apart
  cases e : v.ownBlock with
  | none => exact ⟨Or.inl rfl, by cases e' : v'.ownBlock with
    | none => exact Or.inl rfl
    | some k => exact Or.inr (by simp)⟩
  | some k =>
    cases e' : v'.ownBlock with
    | none => exact ⟨Or.inr (by simp), Or.inl rfl⟩
    | some k' =>
      have h1 := (h.lt k e).2
      have h2 := (h'.lt k' e').1
      exact ⟨Or.inr (by simp; omega), Or.inr (by simp; omega)⟩
theorem own_base {w : World} {b b' : Nat} {t : TypeId} {s : Nat} {v : Value} {n : Nat} {xs : List Value} (h : w.ownsRow b t s v n xs) (hle : b' ≤ b) : w.ownsRow b' t s v n xs := by
  obtain ⟨h1, h2⟩ := h
  refine ⟨h1, ?_⟩
  rcases h2 with h2 | ⟨g, cap, cur, hv, hg, r⟩
  · exact Or.inl h2
  · exact Or.inr ⟨g, cap, cur, hv, by omega, r⟩
/-- What is owned stays owned where nothing that was there is written. -/
theorem own_below {B : Nat} {w w' : World} {b : Nat} {t : TypeId} {s : Nat} {v : Value} {n : Nat} {xs : List Value} (h : w.ownsRow b t s v n xs) (hb : Below B w w') (hB : w.heap.size ≤ B) : w'.ownsRow b t s v n xs := by
  obtain ⟨h1, h2⟩ := h
  refine ⟨h1, ?_⟩
  rcases h2 with h2 | ⟨g, cap, cur, hv, hg, hh, r⟩
  · exact Or.inl h2
  · exact Or.inr ⟨g, cap, cur, hv, hg, by rw [hb.block g (by have := (Array.getElem?_eq_some_iff.1 hh).1; omega)]; exact hh, r⟩

/-- A guest whose slices are the call's own, each in a block of its own. -/
structure MachOwn (base : Nat) (w : World) (m : Mach) (vr vm vo : Value) : Prop where
  hr : w.ownsRow base 3 1 vr m.regs.length (m.regs.map (Value.int .i64))
  hm : w.ownsRow base 3 1 vm m.mem.length (m.mem.map (Value.int .i64))
  ho : w.ownsRow base 3 1 vo m.out.length (m.out.map (Value.int .i64))
  rm : Apart vr vm
  ro : Apart vr vo
  mo : Apart vm vo
  mr : Apart vm vr
  or : Apart vo vr
  om : Apart vo vm
def CopyPost (w : World) (m : Mach) (e : Ending) (w' : World) : Prop := ∃ ar cr am cm ao co, e = .returned (m.agg (.slice ar m.regs.length cr) (.slice am m.mem.length cm) (.slice ao m.out.length co)) ∧ MachOwn w.heap.size w' m (.slice ar m.regs.length cr) (.slice am m.mem.length cm) (.slice ao m.out.length co) ∧ Below w.heap.size w w'

/-- What stands behind the three clones. -/
def CopyCut (w : World) (m : Mach) (wx : World) : Prop := ∃ ar cr am cm ao co, wx.heap[w.heap.size]? = some (.cells #[.slice ar m.regs.length cr, .int .i64 m.pc, .int .i64 m.back, .bool m.ints, .bool m.wait, .int .i64 m.table, .int .i64 m.count, .int .i64 m.fin, .slice am m.mem.length cm, .slice ao m.out.length co, .int .i64 m.ready, .int .i64 m.want] 29 (0, 0)) ∧
  wx.heap[w.heap.size + 1]? = some (.cells #[.slice none 0 0, .int .i64 0, .int .i64 0, .bool false, .bool false, .int .i64 0, .int .i64 0, .int .i64 0, .slice none 0 0, .slice none 0 0, .int .i64 0, .int .i64 0] 29 (0, 0)) ∧
  MachOwn w.heap.size wx m (.slice ar m.regs.length cr) (.slice am m.mem.length cm) (.slice ao m.out.length co) ∧ Below w.heap.size w wx

theorem MachOwn.set {base g i : Nat} {w : World} {m : Mach} {vr vm vo u : Value} {cs : Array Value} {t : TypeId} {fr : Nat × Nat} (h : MachOwn base w m vr vm vo) (hg : w.heap[g]? = some (.cells cs t fr)) (ht : 3 ≠ t) : MachOwn base (w.setCell ⟨g, i, none⟩ u) m vr vm vo :=
  ⟨own_set h.hr (own_ne_block h.hr hg ht) _, own_set h.hm (own_ne_block h.hm hg ht) _, own_set h.ho (own_ne_block h.ho hg ht) _, h.rm, h.ro, h.mo, h.mr, h.or, h.om⟩
/-- What stays while a result is laid, cell by cell. -/
structure SetInv (w0 : World) (m : Mach) (vr vm vo : Value) (w : World) : Prop where
  own : MachOwn w0.heap.size w m vr vm vo
  box : ∃ cs, w.heap[w0.heap.size + 1]? = some (.cells cs 29 (0, 0))
  below : Below w0.heap.size w0 w
theorem SetInv.mk' {w0 w : World} {m : Mach} {vr vm vo : Value} {cs : Array Value} (h : MachOwn w0.heap.size w m vr vm vo) (hb : w.heap[w0.heap.size + 1]? = some (.cells cs 29 (0, 0))) (hB : Below w0.heap.size w0 w) : SetInv w0 m vr vm vo w := ⟨h, ⟨cs, hb⟩, hB⟩
theorem SetInv.step {w0 w : World} {m : Mach} {vr vm vo : Value} (h : SetInv w0 m vr vm vo w) (i : Nat) (u : Value) : SetInv w0 m vr vm vo (w.setCell ⟨w0.heap.size + 1, i, none⟩ u) := by
  obtain ⟨ho, ⟨cs, hb⟩, hB⟩ := h
  exact ⟨ho.set hb (by decide), ⟨_, set_block hb u⟩, hB.setCell (by simp) u⟩

theorem copy_close {w W2 W2' w1 w2 w3 : World} (m : Mach) {vr vm vo : Value} {a1 a2 a3 : Option Addr} {c1 c2 c3 : Nat} (hd : W2' = W2.drew) (hs0 : W2.heap.size = w.heap.size + 2) (hb0 : Below w.heap.size w W2)
    (hx2 : W2.heap[w.heap.size + 1]? = some (.cells #[.slice none 0 0, .int .i64 0, .int .i64 0, .bool false, .bool false, .int .i64 0, .int .i64 0, .int .i64 0, .slice none 0 0, .slice none 0 0, .int .i64 0, .int .i64 0] 29 (0, 0)))
    (hx3 : w3.heap[w.heap.size]? = some (.cells #[vr, .int .i64 m.pc, .int .i64 m.back, .bool m.ints, .bool m.wait, .int .i64 m.table, .int .i64 m.count, .int .i64 m.fin, vm, vo, .int .i64 m.ready, .int .i64 m.want] 29 (0, 0)))
    (h1 : w1.ownsRow W2'.heap.size 3 1 (.slice a1 m.regs.length c1) m.regs.length (m.regs.map (Value.int .i64))) (k1 : Below W2'.heap.size W2' w1)
    (h2 : w2.ownsRow w1.heap.size 3 1 (.slice a2 m.mem.length c2) m.mem.length (m.mem.map (Value.int .i64))) (k2 : Below w1.heap.size w1 w2)
    (h3 : w3.ownsRow w2.heap.size 3 1 (.slice a3 m.out.length c3) m.out.length (m.out.map (Value.int .i64))) (k3 : Below w2.heap.size w2 w3) :
    CopyCut w m (((w3.setCell ⟨w.heap.size, 0, none⟩ (.slice a1 m.regs.length c1)).setCell ⟨w.heap.size, 8, none⟩ (.slice a2 m.mem.length c2)).setCell ⟨w.heap.size, 9, none⟩ (.slice a3 m.out.length c3)) := by
  subst hd
  have s0 : W2.drew.heap.size = w.heap.size + 2 := hs0
  have s1 := k1.size
  have s2 := k2.size
  have s3 := k3.size
  have y2 := block_below k3 (block_below k2 (block_below k1 hx2 (by omega)) (by omega)) (by omega)
  have o1 := own_below (own_below (own_base h1 (b' := w.heap.size) (by omega)) k2 (Nat.le_refl _)) k3 (Nat.le_refl _)
  have o2 := own_below (own_base h2 (b' := w.heap.size) (by omega)) k3 (Nat.le_refl _)
  have o3 := own_base h3 (b' := w.heap.size) (by omega)
  have set3 : ∀ {v : Value} {n : Nat} {xs : List Value}, w3.ownsRow w.heap.size 3 1 v n xs → (((w3.setCell ⟨w.heap.size, 0, none⟩ (.slice a1 m.regs.length c1)).setCell ⟨w.heap.size, 8, none⟩ (.slice a2 m.mem.length c2)).setCell ⟨w.heap.size, 9, none⟩ (.slice a3 m.out.length c3)).ownsRow w.heap.size 3 1 v n xs := fun h => own_set (own_set (own_set h (own_ne_block h hx3 (by decide)) _) (own_ne_block h hx3 (by decide)) _) (own_ne_block h hx3 (by decide)) _
  refine ⟨a1, c1, a2, c2, a3, c3, ?_, ?_, ⟨set3 o1, set3 o2, set3 o3, (apart_of h1 h2 (Nat.le_refl _)).1, (apart_of h1 h3 s2).1, (apart_of h2 h3 (Nat.le_refl _)).1, (apart_of h1 h2 (Nat.le_refl _)).2, (apart_of h1 h3 s2).2, (apart_of h2 h3 (Nat.le_refl _)).2⟩, ?_⟩
  · have := set_block (set_block (set_block hx3 (i := 0) (.slice a1 m.regs.length c1)) (i := 8) (.slice a2 m.mem.length c2)) (i := 9) (.slice a3 m.out.length c3)
    simpa using this
  · exact set_block_ne (set_block_ne (set_block_ne y2 (by omega) _) (by omega) _) (by omega) _
  · have hB : Below w.heap.size w w3 := (hb0.drew.trans (k1.mono (by omega))).trans ((k2.mono (by omega)).trans (k3.mono (by omega)))
    exact ((hB.setCell (by simp) _).setCell (by simp) _).setCell (by simp) _

set_option maxHeartbeats 4000000 in
set_option maxRecDepth 100000 in
theorem mcopy_any (m : Mach) (ar am ao : Option Addr) (cr cm co : Nat) (w : World)
    (hr : Ints w.heap.size w (.slice ar m.regs.length cr) m.regs) (hm : Ints w.heap.size w (.slice am m.mem.length cm) m.mem) (ho : Ints w.heap.size w (.slice ao m.out.length co) m.out) :
    Calls Tryd.prog 62 #[m.agg (.slice ar m.regs.length cr) (.slice am m.mem.length cm) (.slice ao m.out.length co)] w (CopyPost w m) := by
  have HR := Lib.hid hr
  have HM := Lib.hid hm
  have HO := Lib.hid ho
  clear hr hm ho
  obtain ⟨regs, pc, back, ints, wait, table, count, fin, mem, out, ready, want⟩ := m
  simp only [Mach.agg] at *
  go_enter Tryd.func62, Tryd.ntmps62
  go_upto_region 1 with fail
  generalize hW : (w.alloc _).alloc _ = W2
  have hx1 : W2.heap[w.heap.size]? = some (.cells #[.slice ar regs.length cr, .int .i64 pc, .int .i64 back, .bool ints, .bool wait, .int .i64 table, .int .i64 count, .int .i64 fin, .slice am mem.length cm, .slice ao out.length co, .int .i64 ready, .int .i64 want] 29 (0, 0)) := by rw [← hW]; exact (alloc_lt (by simp)).trans (alloc_at rfl)
  have hx2 : W2.heap[w.heap.size + 1]? = some (.cells #[.slice none 0 0, .int .i64 0, .int .i64 0, .bool false, .bool false, .int .i64 0, .int .i64 0, .int .i64 0, .slice none 0 0, .slice none 0 0, .int .i64 0, .int .i64 0] 29 (0, 0)) := by rw [← hW]; exact alloc_at (by simp)
  have hb0 : Below w.heap.size w W2 := by rw [← hW]; exact below_alloc2 _ _ _
  have hs0 : W2.heap.size = w.heap.size + 2 := by rw [← hW]; simp
  clear hW
  have c00 : W2.cell? ⟨w.heap.size, 0, none⟩ = some (.slice ar regs.length cr) := cell_block hx1 0
  have c08 : W2.cell? ⟨w.heap.size, 8, none⟩ = some (.slice am mem.length cm) := cell_block hx1 8
  have c09 : W2.cell? ⟨w.heap.size, 9, none⟩ = some (.slice ao out.length co) := cell_block hx1 9
  have HX1 := Lib.hid hx1
  have HX2 := Lib.hid hx2
  have HS0 := Lib.hid hs0
  clear hx1 hx2 hs0
  go_cut [] (fun wx => CopyCut w ⟨regs, pc, back, ints, wait, table, count, fin, mem, out, ready, want⟩ wx)
  case first =>
    go_region_with (first
      | (go_at_call_of 47 (Value.slice ar regs.length cr); refine (cloneI_any _ regs _ ?_).mono ?_; (exact HR.out.to (by have := HS0.out; simp; omega) (same_below hb0.drew)); rintro e w1 ⟨a1, cc1, rfl, hown1, hb1⟩; have HX11 := Lib.hid (block_below hb1 HX1.out (by have := HS0.out; simp; omega)); have c10 : w1.cell? ⟨w.heap.size, 0, none⟩ = some (.slice ar regs.length cr) := cell_block HX11.out 0; have c18 : w1.cell? ⟨w.heap.size, 8, none⟩ = some (.slice am mem.length cm) := cell_block HX11.out 8; have c19 : w1.cell? ⟨w.heap.size, 9, none⟩ = some (.slice ao out.length co) := cell_block HX11.out 9)
      | (go_at_call_of 47 (Value.slice am mem.length cm); refine (cloneI_any _ mem _ ?_).mono ?_; (exact HM.out.to (by have := HS0.out; have := hb1.size; simp at this; omega) ((same_below hb0.drew).trans ((same_below hb1).mono (by have := HS0.out; simp; omega)))); rintro e w2 ⟨a2, cc2, rfl, hown2, hb2⟩; have HX12 := Lib.hid (block_below hb2 HX11.out (by have := HS0.out; have := hb1.size; simp at this; omega)); have c20 : w2.cell? ⟨w.heap.size, 0, none⟩ = some (.slice ar regs.length cr) := cell_block HX12.out 0; have c28 : w2.cell? ⟨w.heap.size, 8, none⟩ = some (.slice am mem.length cm) := cell_block HX12.out 8; have c29 : w2.cell? ⟨w.heap.size, 9, none⟩ = some (.slice ao out.length co) := cell_block HX12.out 9)
      | (go_at_call_of 47 (Value.slice ao out.length co); refine (cloneI_any _ out _ ?_).mono ?_; (exact HO.out.to (by have := HS0.out; have := hb1.size; have := hb2.size; simp at *; omega) ((same_below hb0.drew).trans (((same_below hb1).mono (by have := HS0.out; simp; omega)).trans ((same_below hb2).mono (by have := HS0.out; have := hb1.size; simp at this; omega))))); rintro e w3 ⟨a3, cc3, rfl, hown3, hb3⟩; have HX13 := Lib.hid (block_below hb3 HX12.out (by have := HS0.out; have := hb1.size; have := hb2.size; simp at *; omega)); have c30 : w3.cell? ⟨w.heap.size, 0, none⟩ = some (.slice ar regs.length cr) := cell_block HX13.out 0; have c38 : w3.cell? ⟨w.heap.size, 8, none⟩ = some (.slice am mem.length cm) := cell_block HX13.out 8; have c39 : w3.cell? ⟨w.heap.size, 9, none⟩ = some (.slice ao out.length co) := cell_block HX13.out 9; have f30 := free_block HX13.out 0; have f38 := free_block HX13.out 8; have f39 := free_block HX13.out 9))
    all_goals (go_wp2_with fail; go_meet)
    all_goals exact copy_close ⟨regs, pc, back, ints, wait, table, count, fin, mem, out, ready, want⟩ rfl HS0.out hb0 HX2.out HX13.out hown1 hb1 hown2 hb2 hown3 hb3
  case rest =>
    obtain ⟨a1, c1, a2, c2, a3, c3, hx, hy, hown, hb⟩ := hcut
    simp only at *
    have HO := Lib.hid hown
    have HB := Lib.hid hb
    have q0 : wc.cell? ⟨w.heap.size, 0, none⟩ = some (.slice a1 regs.length c1) := cell_block hx 0
    have q1 : wc.cell? ⟨w.heap.size, 1, none⟩ = some (.int .i64 pc) := cell_block hx 1
    have q2 : wc.cell? ⟨w.heap.size, 2, none⟩ = some (.int .i64 back) := cell_block hx 2
    have q3 : wc.cell? ⟨w.heap.size, 3, none⟩ = some (.bool ints) := cell_block hx 3
    have q4 : wc.cell? ⟨w.heap.size, 4, none⟩ = some (.bool wait) := cell_block hx 4
    have q5 : wc.cell? ⟨w.heap.size, 5, none⟩ = some (.int .i64 table) := cell_block hx 5
    have q6 : wc.cell? ⟨w.heap.size, 6, none⟩ = some (.int .i64 count) := cell_block hx 6
    have q7 : wc.cell? ⟨w.heap.size, 7, none⟩ = some (.int .i64 fin) := cell_block hx 7
    have q8 : wc.cell? ⟨w.heap.size, 8, none⟩ = some (.slice a2 mem.length c2) := cell_block hx 8
    have q9 : wc.cell? ⟨w.heap.size, 9, none⟩ = some (.slice a3 out.length c3) := cell_block hx 9
    have q10 : wc.cell? ⟨w.heap.size, 10, none⟩ = some (.int .i64 ready) := cell_block hx 10
    have q11 : wc.cell? ⟨w.heap.size, 11, none⟩ = some (.int .i64 want) := cell_block hx 11
    have r0 : wc.cell? ⟨w.heap.size + 1, 0, none⟩ = some (.slice none 0 0) := cell_block hy 0
    have g0 := free_block hy 0
    have r1 : wc.cell? ⟨w.heap.size + 1, 1, none⟩ = some (.int .i64 0) := cell_block hy 1
    have g1 := free_block hy 1
    have r2 : wc.cell? ⟨w.heap.size + 1, 2, none⟩ = some (.int .i64 0) := cell_block hy 2
    have g2 := free_block hy 2
    have r3 : wc.cell? ⟨w.heap.size + 1, 3, none⟩ = some (.bool false) := cell_block hy 3
    have g3 := free_block hy 3
    have r4 : wc.cell? ⟨w.heap.size + 1, 4, none⟩ = some (.bool false) := cell_block hy 4
    have g4 := free_block hy 4
    have r5 : wc.cell? ⟨w.heap.size + 1, 5, none⟩ = some (.int .i64 0) := cell_block hy 5
    have g5 := free_block hy 5
    have r6 : wc.cell? ⟨w.heap.size + 1, 6, none⟩ = some (.int .i64 0) := cell_block hy 6
    have g6 := free_block hy 6
    have r7 : wc.cell? ⟨w.heap.size + 1, 7, none⟩ = some (.int .i64 0) := cell_block hy 7
    have g7 := free_block hy 7
    have r8 : wc.cell? ⟨w.heap.size + 1, 8, none⟩ = some (.slice none 0 0) := cell_block hy 8
    have g8 := free_block hy 8
    have r9 : wc.cell? ⟨w.heap.size + 1, 9, none⟩ = some (.slice none 0 0) := cell_block hy 9
    have g9 := free_block hy 9
    have r10 : wc.cell? ⟨w.heap.size + 1, 10, none⟩ = some (.int .i64 0) := cell_block hy 10
    have g10 := free_block hy 10
    have r11 : wc.cell? ⟨w.heap.size + 1, 11, none⟩ = some (.int .i64 0) := cell_block hy 11
    have g11 := free_block hy 11
    have HX := Lib.hid hx
    have HY := Lib.hid hy
    clear hx hy hown hb
    go_wp2
    refine bodyPost_ret (v := .agg #[.slice a1 regs.length c1, .int .i64 pc, .int .i64 back, .bool ints, .bool wait, .int .i64 table, .int .i64 count, .int .i64 fin, .slice a2 mem.length c2, .slice a3 out.length c3, .int .i64 ready, .int .i64 want]) (by simp [results, Tryd.results62, go_sem, r0, r1, r2, r3, r4, r5, r6, r7, r8, r9, r10, r11]) rfl ?_
    have hS := SetInv.mk' HO.out HY.out HB.out
    have hS' := (((((((((((hS.step 0 (.slice a1 regs.length c1)).step 1 (.int .i64 pc)).step 2 (.int .i64 back)).step 3 (.bool ints)).step 4 (.bool wait)).step 5 (.int .i64 table)).step 6 (.int .i64 count)).step 7 (.int .i64 fin)).step 8 (.slice a2 mem.length c2)).step 9 (.slice a3 out.length c3)).step 10 (.int .i64 ready)).step 11 (.int .i64 want)
    exact ⟨a1, c1, a2, c2, a3, c3, rfl, hS'.own, hS'.below⟩
end Go.Proofs.YtilcnlmapifdgaaDoor
