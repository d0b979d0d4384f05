/- Several texts joined, each with its own heading in the notes: What a recording does, in plain Lean: one instruction of a guest in a world, and all of them; what the document's look-ahead by two values tells. append of events onto events, both of the call's own; slices. No condition beyond those of each row. -/
import Derived.Test.YtilcnlmapifdgaaDoorYSu
import Derived.Test.YtilcnlmapifdgaaDoorYFr2
import Derived.Test.YtilcnlmapifdgaaDoorYDe
import Derived.Test.YtilcnlmapifdgaaDoorYCl
import Derived.Test.YtilcnlmapifdgaaDoorYMem
import Derived.Maps.AppendAt
import Derived.Deep.LoopGhost
namespace Go.Proofs.YtilcnlmapifdgaaDoor
set_option linter.unusedVariables false

/-- A recording as it goes on: the guest, the events, how many values were told, how many blocks were asked, when the next one comes. -/
structure RSs where
  m : Mach
  all : List Ev
  nv : Nat
  nb : Nat
  due : Int
/-- Does the instruction that comes next ask the world? -/
def asksM (m : Mach) : Bool := decide (m.fin = 0 ∧ (nextZ m).2 = 0 ∧ decOp (nextZ m).1 = 10 ∧ (decN (nextZ m).1 = 0 ∨ decN (nextZ m).1 = 1))
def zero16 : List Int := List.replicate 16 0
section
variable (is vs : List Int) (bs : List (List Int)) (ds : List Int)
def irqR (k : Int) : Bool := is.contains k
def blkR (s : RSs) : List Int := if s.due = s.m.count then bs.getD (s.nb - 1) zero16 else []
/-- The guest as the instruction finds it. -/
def metM (s : RSs) : Mach := blockM (irqM s.m (irqR is s.m.count)) (blkR bs s)
def aheadR (s : RSs) : List Ev := (if irqR is s.m.count then [⟨s.m.count, 1, []⟩] else []) ++ (if s.due = s.m.count then [⟨s.m.count, 2, blkR bs s⟩] else [])
def asksR (s : RSs) : Bool := asksM (enterM (metM is bs s))
def valR (s : RSs) : Int := if asksR is bs s then vs.getD s.nv 0 else 0
def ranR (s : RSs) : Mach := (execM (enterM (metM is bs s)) (valR is vs bs s)).1
def wantsR (s : RSs) : Bool := decide ((metM is bs s).want < 0 ∧ 0 ≤ (ranR is vs bs s).want)
def recS (s : RSs) : RSs :=
  { m := ranR is vs bs s
    all := s.all ++ aheadR is bs s ++ (if asksR is bs s then [⟨s.m.count, 3, [valR is vs bs s]⟩] else [])
    nv := if asksR is bs s then s.nv + 1 else s.nv
    nb := if wantsR is vs bs s then s.nb + 1 else s.nb
    due := if wantsR is vs bs s then s.m.count + 1 + ds.getD s.nb 0 else if s.due = s.m.count then -1 else s.due }
/-- All of it: where it stands in the end, and whether there were too many events. -/
def recL (n : Int) : Nat → RSs → RSs × Bool
  | 0, s => (s, false)
  | f + 1, s => if s.m.count < n ∧ s.m.fin = 0 then (if 1000 < (recS is vs bs ds s).all.length then (recS is vs bs ds s, true) else recL n f (recS is vs bs ds s)) else (s, false)
/-- What holds at each instruction. -/
structure RecOk (s : RSs) : Prop where
  ok : MOk s.m
  nb1 : 0 ≤ s.due → 1 ≤ s.nb
  due : s.due = -1 ∨ (s.m.count ≤ s.due ∧ s.due ≤ s.m.count + 3000) ∨ s.m.fin ≠ 0
  good : ∀ x ∈ s.all, EvG x
  len : s.all.length ≤ 1000
end
/-- The world may be. -/
structure WdOk (is vs : List Int) (bs : List (List Int)) (ds : List Int) : Prop where
  li : is.length ≤ 1000
  lv : vs.length ≤ 1000
  lb : bs.length ≤ 1000
  ld : ds.length ≤ 1000
  wv : ∀ z ∈ vs, WordZ z
  wd : ∀ z ∈ ds, 0 ≤ z ∧ z ≤ 3000
  b16 : ∀ b ∈ bs, b.length = 16 ∧ ∀ z ∈ b, WordZ z
theorem blocksC_ok : ∀ {bs : List (List Int)}, blocksC bs = 0 → ∀ b ∈ bs, b.length = 16 ∧ ∀ z ∈ b, WordZ z := by
  intro bs
  induction bs with
  | nil => intro _ b hb; cases hb
  | cons x l ih =>
    intro h b hb
    unfold blocksC at h
    split at h
    · cases h
    · split at h
      · cases h
      · rename_i h1 h2
        rcases List.mem_cons.1 hb with rfl | hb
        · exact ⟨by simpa using h1, words_of (by simpa using h2)⟩
        · exact ih h b hb
theorem worldC_ok {is vs : List Int} {bs : List (List Int)} {ds : List Int} (h : worldC is vs bs ds = 0) : WdOk is vs bs ds := by
  by_cases h1 : 1000 < is.length ∨ 1000 < vs.length ∨ 1000 < bs.length ∨ 1000 < ds.length
  · rw [← worldC_size h1] at h; cases h
  · by_cases h2 : vs.any oddB = true ∨ is.any farB = true ∨ ds.any farB = true
    · rw [← worldC_odd h1 h2] at h; cases h
    · rw [← worldC_go h1 h2] at h
      refine ⟨by omega, by omega, by omega, by omega, words_of (by cases e : vs.any oddB with | false => rfl | true => exact absurd (Or.inl e) h2), fun z hz => ?_, blocksC_ok h⟩
      by_cases hz2 : z < 0 ∨ 3000 < z
      · exact absurd (Or.inr (Or.inr (List.any_eq_true.2 ⟨z, hz, far_true hz2⟩))) h2
      · omega
theorem getD_mem {α : Type} {P : α → Prop} {l : List α} {d : α} (h : ∀ x ∈ l, P x) (hd : P d) (k : Nat) : P (l.getD k d) := by
  rw [List.getD_eq_getElem?_getD]
  cases e : l[k]? with
  | none => exact hd
  | some x => exact h x (List.mem_of_getElem? e)
theorem zero16_ok : zero16.length = 16 ∧ ∀ z ∈ zero16, WordZ z := ⟨rfl, fun z hz => by rw [List.eq_of_mem_replicate hz]; unfold WordZ; omega⟩
section
variable {is vs : List Int} {bs : List (List Int)} {ds : List Int}
theorem blkR_ok (hw : WdOk is vs bs ds) (s : RSs) : ((blkR bs s).length = 0 ∨ (blkR bs s).length = 16) ∧ ∀ z ∈ blkR bs s, WordZ z := by
  unfold blkR
  split
  · have := getD_mem (P := fun b : List Int => b.length = 16 ∧ ∀ z ∈ b, WordZ z) hw.b16 zero16_ok (s.nb - 1)
    exact ⟨Or.inr this.1, this.2⟩
  · exact ⟨Or.inl rfl, fun z hz => by cases hz⟩
theorem valR_ok (hw : WdOk is vs bs ds) (s : RSs) : WordZ (valR is vs bs s) := by
  unfold valR
  split
  · exact getD_mem hw.wv (by unfold WordZ; omega) _
  · unfold WordZ; omega
theorem ranR_step (s : RSs) : ranR is vs bs s = (stepM s.m (irqR is s.m.count) (blkR bs s) (valR is vs bs s)).1 := rfl
theorem metM_fin (s : RSs) : (metM is bs s).fin = s.m.fin ∧ (metM is bs s).count = s.m.count := by
  have h1 := irqM_fin s.m (irqR is s.m.count)
  have h2 := blockM_fin (irqM s.m (irqR is s.m.count)) (blkR bs s)
  exact ⟨h2.1.trans h1.1, h2.2.trans h1.2⟩
theorem ranR_count (s : RSs) (h : s.m.fin = 0) : (ranR is vs bs s).count = s.m.count + 1 := by
  have h1 := metM_fin (is := is) (bs := bs) s
  have h3 := enterM_fin (metM is bs s)
  unfold ranR
  rw [execM_count (by rw [h3.1, h1.1]; exact h), h3.2, h1.2]
theorem aheadR_good (hw : WdOk is vs bs ds) {s : RSs} (h0 : 0 ≤ s.m.count) (h1 : s.m.count < 3000) : ∀ x ∈ aheadR is bs s, EvG x := by
  intro x hx
  unfold aheadR at hx
  rcases List.mem_append.1 hx with hx | hx
  · split at hx
    · rw [List.mem_singleton.1 hx]
      exact ⟨by show (1:Int) ≤ 1; omega, by show (1:Int) ≤ 3; omega, h0, h1, fun e => by exact absurd (show (1:Int) = 2 from e) (by decide), fun e => by exact absurd (show (1:Int) = 3 from e) (by decide), fun z hz => by cases hz⟩
    · cases hx
  · split at hx
    · rename_i hd
      rw [List.mem_singleton.1 hx]
      have hb := blkR_ok hw s
      have h16 : (blkR bs s).length = 16 := by
        rcases hb.1 with h | h
        · unfold blkR at h; rw [if_pos hd] at h
          have := (getD_mem (P := fun b : List Int => b.length = 16 ∧ ∀ z ∈ b, WordZ z) hw.b16 zero16_ok (s.nb - 1)).1
          omega
        · exact h
      exact ⟨by show (1:Int) ≤ 2; omega, by show (2:Int) ≤ 3; omega, h0, h1, fun _ => h16, fun e => by exact absurd (show (2:Int) = 3 from e) (by decide), hb.2⟩
    · cases hx
theorem RecOk.step (hw : WdOk is vs bs ds) {s : RSs} (h : RecOk s) (hf : s.m.fin = 0) (hc : s.m.count < 3000) (hl : (recS is vs bs ds s).all.length ≤ 1000) : RecOk (recS is vs bs ds s) := by
  have hc0 := h.ok.count
  have hb := blkR_ok hw s
  have hv := valR_ok hw s
  have hct : (recS is vs bs ds s).m.count = s.m.count + 1 := ranR_count s hf
  refine ⟨stepM_ok h.ok _ _ hb.1 hb.2 hv (by omega), ?_, ?_, ?_, hl⟩
  · show 0 ≤ (if wantsR is vs bs s then _ else _) → 1 ≤ (if wantsR is vs bs s then s.nb + 1 else s.nb)
    split
    · intro _; omega
    · split
      · intro h; omega
      · exact h.nb1
  · rw [hct]
    show (if wantsR is vs bs s then _ else _) = _ ∨ _
    split
    · rename_i hwn
      have := getD_mem hw.wd (by omega : (0:Int) ≤ 0 ∧ (0:Int) ≤ 3000) s.nb
      refine Or.inr (Or.inl ?_)
      show s.m.count + 1 ≤ (if wantsR is vs bs s then _ else _) ∧ (if wantsR is vs bs s then _ else _) ≤ _
      rw [if_pos hwn]; omega
    · rename_i hwn
      split
      · exact Or.inl rfl
      · rename_i hd
        show s.due = -1 ∨ (_ ≤ (if wantsR is vs bs s then _ else _) ∧ (if wantsR is vs bs s then _ else _) ≤ _) ∨ _
        rw [if_neg hwn, if_neg hd]
        rcases h.due with q | q | q
        · exact Or.inl q
        · exact Or.inr (Or.inl (by omega))
        · exact absurd hf q
  · intro x hx
    have hx : x ∈ s.all ++ aheadR is bs s ++ (if asksR is bs s then [⟨s.m.count, 3, [valR is vs bs s]⟩] else []) := hx
    rcases List.mem_append.1 hx with hx | hx
    · rcases List.mem_append.1 hx with hx | hx
      · exact h.good x hx
      · exact aheadR_good hw hc0.1 hc x hx
    · split at hx
      · rw [List.mem_singleton.1 hx]
        exact ⟨by show (1:Int) ≤ 3; omega, by show (3:Int) ≤ 3; omega, hc0.1, hc, fun e => by exact absurd (show (3:Int) = 2 from e) (by decide), fun _ => rfl, fun z hz => by rw [List.mem_singleton.1 hz]; exact hv⟩
      · cases hx
end
end Go.Proofs.YtilcnlmapifdgaaDoor
namespace Go.Proofs.YtilcnlmapifdgaaDoor
open Go Go.RowKit Go.ChangeShapes Go.WideShapes Go.Deep
set_option linter.unusedVariables false

theorem flatE_one (ps : List (Ev × Value)) (B : Nat) (w : World) (h : ∀ p ∈ ps, DOwn B w p) : ∀ u ∈ flatE ps, u.oneCell' = true := by
  intro u hu
  unfold flatE at hu
  obtain ⟨p, hp, hu⟩ := List.mem_flatMap.1 hu
  obtain ⟨ad, cd, hv⟩ := own_shape (h p hp).1
  rw [hv] at hu
  rcases List.mem_cons.1 hu with rfl | hu
  · rfl
  · rcases List.mem_cons.1 hu with rfl | hu
    · rfl
    · rw [List.mem_singleton.1 hu]; rfl
/-- 'append(all, l...)' of events. -/
theorem wpList_append_evs (w : World) {ops : Array Oper} {rest : List Oper} {o : Oper} {a : Act} {Q : Exit → Act → World → Prop} (hgd : o.guard = none) (s x : Operand)
    (ho : o.op = .call { callee := .builtin .append, args := #[s, x], argTypes := #[53, 53] })
    (B : Nat) (ps qs : List (Ev × Value)) (a1 a2 : Option Addr) (c1 c2 : Nat) (hs : a.eval s = .slice a1 ps.length c1) (hx : a.eval x = .slice a2 qs.length c2) (h1 : OutSt B ps a1 c1 w) (h2 : OutSt B qs a2 c2 w)
    (hmax : ps.length + qs.length ≤ 100000) (hbase : B ≤ w.heap.size)
    (h : ∀ a' c' w', OutSt B (ps ++ qs) a' c' w' → w.grownBy w' (Value.slice a1 ps.length c1).ownBlock → ((Value.slice a' (ps.length + qs.length) c').ownBlock = (Value.slice a1 ps.length c1).ownBlock ∨ (Value.slice a' (ps.length + qs.length) c').ownBlock = some w.heap.size) → wpList Tryd.prog ops Q rest (a.put o.dst (.slice a' (ps.length + qs.length) c')) w') :
    wpList Tryd.prog ops Q (o :: rest) a w := by
  refine wpList_plain hgd fun K hK => ?_
  have key : ∃ a' c' w', (Builtin.append_ #[53, 53] o.type #[.slice a1 ps.length c1, .slice a2 qs.length c2]).run Tryd.prog w = .ok (.slice a' (ps.length + qs.length) c') w' ∧ w'.ownsRow B 62 3 (.slice a' (ps.length + qs.length) c') (ps.length + qs.length) (flatE ps ++ flatE qs) ∧ w.grownBy w' (Value.slice a1 ps.length c1).ownBlock ∧ ((Value.slice a' (ps.length + qs.length) c').ownBlock = (Value.slice a1 ps.length c1).ownBlock ∨ (Value.slice a' (ps.length + qs.length) c').ownBlock = some w.heap.size) := by
    obtain ⟨i0, hi0, hz0, hz1, hz2⟩ := info_parts info_ev
    rcases h2.row.2 with ⟨hv, h0⟩ | ⟨g, cap, cur, hv, hb, hg, hnc, hcap, hcs, htk⟩
    · have e0 : qs = [] := List.eq_nil_of_length_eq_zero h0
      subst e0
      injection hv with e1 e2 e3
      subst e1 e3
      refine ⟨a1, c1, w, ?_, by simpa [flatE] using h1.row, World.grownBy.refl _ _, Or.inl rfl⟩
      exact run_append_no B 53 o.type 62 i0 3 Tryd.underlying53 hi0 _ ps.length (flatE ps) h1.row 0
    · injection hv with e1 e2 e3
      subst e1 e3
      obtain ⟨v', w', hr, q2, q3, _, q5⟩ := run_append_own_at (P := Tryd.prog) w B 53 o.type 62 i0 (.agg #[.int .i64 0, .int .i64 0, .slice none 0 0]) 3 40 Tryd.underlying53 hi0 hz0 hz1 hz2 rfl (by decide) _ ps.length (flatE ps) h1.row ⟨g, 0, none⟩ qs.length c2 (flatE qs) (flatE_len qs) (fun j u hj => by
        rw [add_plain]
        have := h2.row.cells (g := g) rfl j u hj
        rw [add_plain] at this
        exact this) (flatE_one qs B w h2.data) (by unfold maxLen; omega) (by omega) hbase
      obtain ⟨a', c', rfl⟩ := own_shape q2
      exact ⟨a', c', w', hr, q2, q3, q5⟩
  obtain ⟨a', c', w', hr, q2, q3, q5⟩ := key
  unfold Oper.wp
  simp [execOp, ho, resolve, invoke, builtin, hs, hx, hr, Result.andThen]
  have hk : ∀ q, DOwn B w q → DOwn B w' q := fun q hq => hq.kept q3 (own_ne hq.1 h1.row (by decide))
  refine hK _ _ (h a' c' w' ⟨by rw [List.length_append, flatE_app]; exact q2, fun q hq => ?_⟩ q3 q5)
  rcases List.mem_append.1 hq with hq | hq
  · exact hk q (h1.data q hq)
  · exact hk q (h2.data q hq)

theorem index_none {zs : List Int} {k : Int} {i : Nat} (h : ∀ j, j < i → zs[j]? ≠ some k) (hi : i = zs.length) : zs.contains k = false := by
  subst hi
  cases e : zs.contains k with
  | false => rfl
  | true =>
    obtain ⟨j, hj, hz⟩ := List.getElem_of_mem (List.contains_iff_mem.1 e)
    exact absurd (by rw [List.getElem?_eq_getElem hj, hz]) (h j hj)
set_option maxRecDepth 100000 in
theorem cindex_any (v : Value) (zs : List Int) (k : Int) (w : World) (hv : Ints w.heap.size w v zs) : Calls Tryd.prog 99 #[v, .int .i64 k] w fun e w' => (∃ z, e = .returned (.int .i64 z) ∧ decide (0 ≤ z) = zs.contains k) ∧ w' = w := by
  obtain ⟨a, c, rfl, hl, hl2, hc⟩ := hv
  have HC := Lib.hid hc
  clear hc
  go_enter Tryd.func99, Tryd.ntmps99
  go_wp2_with fail
  go_loopg [8] zs.length (fun gh s8 wr => ∃ i : Nat, i ≤ zs.length ∧ gh = zs.length - i ∧ s8 = .int .i64 i ∧ wr = w ∧ Hid (∀ j, j < i → zs[j]? ≠ some k))
  case atStart => exact ⟨0, Nat.zero_le _, by omega, rfl, rfl, Lib.hid (fun j h => absurd h (Nat.not_lt_zero _))⟩
  case round =>
    obtain ⟨i, hi, rfl, rfl, rfl, HN⟩ := hrel
    by_cases hlt : i < zs.length
    · obtain ⟨b, off, vi, rfl, hb, hci, hvi⟩ := HC.out i hlt
      obtain ⟨rfl, hi64⟩ := hvi
      have hi1 : (i : Int) < (zs.length : Int) := by omega
      have hi0 : (0 : Int) ≤ (i : Int) := by omega
      have HG : Hid (zs[i]? = some zs[i]) := Lib.hid (List.getElem?_eq_getElem hlt)
      have HM : Hid (zs[i] ∈ zs) := Lib.hid (List.getElem_mem hlt)
      generalize zs[i] = z at *
      clear hi64
      by_cases hz : k = z
      · subst hz
        have HCT := Lib.hid (show zs.contains k = true from List.contains_iff_mem.2 HM.out)
        go_wp2
        go_ret
        exact ⟨⟨_, rfl, by rw [HCT.out]; simp⟩, rfl⟩
      · have hzb : (k == z) = false := by rw [beq_eq_false_iff_ne]; exact hz
        have HN2 : Hid (∀ j, j < i + 1 → zs[j]? ≠ some k) := Lib.hid (fun j hj => by
          by_cases e : j = i
          · subst e; rw [HG.out]; intro e; injection e with e; exact hz e.symm
          · exact HN.out j (by omega))
        clear hz
        go_wp2
        go_roundg (zs.length - (i + 1))
        case measure => omega
        case rel => exact ⟨i + 1, by omega, rfl, by go_num, rfl, HN2⟩
    · have HF := Lib.hid (index_none HN.out (by omega))
      clear HN
      go_wp2
      go_ret
      exact ⟨⟨-1, rfl, by rw [HF.out]; rfl⟩, rfl⟩
set_option maxRecDepth 100000 in
theorem ccontains_any (v : Value) (zs : List Int) (k : Int) (w : World) (hv : Ints w.heap.size w v zs) : Calls Tryd.prog 75 #[v, .int .i64 k] w fun e w' => e = .returned (.bool (zs.contains k)) ∧ w' = w := by
  have H := Lib.hid (cindex_any v zs k w hv)
  clear hv
  go_enter Tryd.func75, Tryd.ntmps75
  go_wp2_with fail
  refine H.out.mono ?_
  rintro e w1 ⟨⟨z, rfl, hz⟩, rfl⟩
  have HZ := Lib.hid hz
  clear hz H
  go_wp2
  go_ret
  exact ⟨ret_bool (by rw [← HZ.out]), rfl⟩
end Go.Proofs.YtilcnlmapifdgaaDoor
