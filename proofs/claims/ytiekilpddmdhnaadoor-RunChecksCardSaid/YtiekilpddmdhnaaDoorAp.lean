/- append of whatever slice of one-cell elements onto what the call owns. No condition beyond the readings. -/
import Derived.Test.YtiekilpddmdhnaaDoorCl
import Derived.Deep.AppendLies
import Derived.Laws.OwnMore
namespace Go.Proofs.YtiekilpddmdhnaaDoor
open Go Go.RowKit Go.ChangeShapes Go.WideShapes Go.Deep
set_option linter.unusedVariables false

theorem run_append_no {P : Program} {w : World} (base : Nat) (t ty e : TypeId) (i : TypeInfo) (size : Nat) (ht : P.underlying t = some (.slice e)) (hi : P.info? e = some i)
    (v : Value) (n : Nat) (xs : List Value) (hown : w.ownsRow base e size v n xs) (c : Nat) : (Builtin.append_ #[t, t] ty #[v, .slice none 0 c]).run P w = .ok v w := by
  rcases hown.2 with ⟨rfl, rfl⟩ | ⟨g, cap, cur, rfl, _, _, hnc, _⟩
  · simp [Builtin.append_, run_underlying ht, sizeOf, typeInfo, hi, Builtin.lenOf, Builtin.firstCells]
  · simp [Builtin.append_, run_underlying ht, sizeOf, typeInfo, hi, Builtin.lenOf, Builtin.firstCells, hnc, storeCells]

/-- 'append(out, x...)': out nil or the call's own, x a slice that reads as news. -/
theorem run_append_all {P : Program} (w : World) (t ty : TypeId) (base : Nat) (e : TypeId) (z : Value) (bytes : Nat) (ht : P.underlying t = some (.slice e)) (hi : (P.info? e).map (fun i => (i.zero, i.size, i.bytes)) = some (some z, 1, bytes)) (hzs : z.cells.size = 1)
    (v : Value) (n : Nat) (xs : List Value) (hown : w.ownsRow base e 1 v n xs) (x : Value) (m B : Nat) (news : List Value) (hx : SlV m B w x news) (hone : ∀ u ∈ news, u.oneCell' = true)
    (hmax : n + news.length ≤ maxLen) (hbytes : (n + news.length) * bytes ≤ 140737488355328) (hbase : base ≤ w.heap.size) :
    ∃ v' w', (Builtin.append_ #[t, t] ty #[v, x]).run P w = .ok v' w' ∧ w'.ownsRow base e 1 v' (n + news.length) (xs ++ news) ∧ w.grownBy w' v.ownBlock ∧ (v'.ownBlock = v.ownBlock ∨ v'.ownBlock = some w.heap.size) := by
  obtain ⟨i0, hi0, hz0, hz1, hz2⟩ := info_parts hi
  obtain ⟨a, cap, rfl, hl, hl2, hc⟩ := hx
  cases a with
  | none =>
    have h0 : news.length = 0 := by
      rcases Nat.eq_zero_or_pos news.length with h | h
      · exact h
      · obtain ⟨_, _, _, hh, _⟩ := hc 0 h; cases hh
    have e0 : news = [] := List.eq_nil_of_length_eq_zero h0
    subst e0
    exact ⟨v, w, run_append_no base t ty e i0 1 ht hi0 v n xs hown cap, by simpa using hown, World.grownBy.refl _ _, Or.inl rfl⟩
  | some ad =>
    obtain ⟨v', w', hr, h2, h3, _, h5⟩ := run_append_own_at (P := P) w base t ty e i0 z 1 bytes ht hi0 hz0 hz1 hz2 hzs (by decide) v n xs hown ad news.length cap news (by omega) (by
      intro j u hj
      have hjl : j < news.length := by
        rcases Nat.lt_or_ge j news.length with hh | hh
        · exact hh
        · rw [List.getElem?_eq_none hh] at hj; cases hj
      obtain ⟨b, off, vi, ha, hb, hcell, hvi⟩ := hc j hjl
      injection ha with ha
      subst ha
      rw [add_plain, hcell, hvi, ← hj, List.getElem?_eq_getElem hjl]) hone hmax hbytes hbase
    exact ⟨v', w', hr, h2, h3, h5⟩

theorem wpList_append_all {P : Program} (w : World) {ops : Array Oper} {rest : List Oper} {o : Oper} {a : Act} {Q : Exit → Act → World → Prop} (hgd : o.guard = none) (s x : Operand) (t : TypeId)
    (ho : o.op = .call { callee := .builtin .append, args := #[s, x], argTypes := #[t, t] })
    (base : Nat) (e : TypeId) (z : Value) (bytes : Nat) (ht : P.underlying t = some (.slice e)) (hi : (P.info? e).map (fun i => (i.zero, i.size, i.bytes)) = some (some z, 1, bytes)) (hzs : z.cells.size = 1)
    (v : Value) (n : Nat) (xs : List Value) (hs : a.eval s = v) (hown : w.ownsRow base e 1 v n xs) (vx : Value) (m B : Nat) (news : List Value) (hxe : a.eval x = vx) (hx : SlV m B w vx news) (hone : ∀ u ∈ news, u.oneCell' = true)
    (hmax : n + news.length ≤ maxLen) (hbytes : (n + news.length) * bytes ≤ 140737488355328) (hbase : base ≤ w.heap.size)
    (h : ∀ a' c' w', w'.ownsRow base e 1 (.slice a' (n + news.length) c') (n + news.length) (xs ++ news) → w.grownBy w' v.ownBlock → ((Value.slice a' (n + news.length) c').ownBlock = v.ownBlock ∨ (Value.slice a' (n + news.length) c').ownBlock = some w.heap.size) → wpList P ops Q rest (a.put o.dst (.slice a' (n + news.length) c')) w') :
    wpList P ops Q (o :: rest) a w := by
  refine wpList_plain hgd fun K hK => ?_
  obtain ⟨v', w', hr, h2, h3, h5⟩ := run_append_all (P := P) w t o.type base e z bytes ht hi hzs v n xs hown vx m B news hx hone hmax hbytes hbase
  obtain ⟨a', c', rfl⟩ := own_shape h2
  unfold Oper.wp
  simp [execOp, ho, resolve, invoke, builtin, hs, hxe, hr, Result.andThen]
  exact hK _ _ (h a' c' w' h2 h3 h5)
end Go.Proofs.YtiekilpddmdhnaaDoor
