/- The contract of the keep's Events: events that may be, in memory of the call's own. No condition beyond the reading. -/
import Derived.Test.YtnhccnjdpdhhaaaDoorDf
import Derived.Test.YtnhccnjdpdhhaaaDoorRl
import Derived.Test.YtnhccnjdpdhhaaaDoorPk
import Derived.Deep.RegionLaw
namespace Go.Proofs.YtnhccnjdpdhhaaaDoor
open Go Go.RowKit Go.ChangeShapes Go.WideShapes Go.Deep
set_option linter.unusedVariables false
attribute [local go_sem ↓] Go.wp_at_zero Go.wp_at_succ

structure WSt (w : World) (gr gx : Nat) (rk ra rb rc : Int) (ps : List (Ev × Value)) (ao : Option Addr) (co : Nat) (x0 x1 : Int) (acc : List Int) (wr : World) : Prop where
  b : Below w.heap.size w wr
  out : OutSt w.heap.size ps ao co wr
  raw : wr.heap[gr]? = some (.cells #[.int .i64 rk, .int .i64 ra, .int .i64 rb, .int .i64 rc] 69 (0, 0))
  xb : ∃ a c, wr.heap[gx]? = some (.cells #[.int .i64 x0, .int .i64 x1, .slice a acc.length c] 44 (0, 0)) ∧ wr.ownsRow (gx + 1) 3 1 (.slice a acc.length c) acc.length (acc.map (Value.int .i64))
  ge : w.heap.size ≤ gr
  hg : gr < gx
  lts : ∀ p ∈ ps, ∀ k, p.2.ownBlock = some k → k < gx
  lto : ∀ k, (Value.slice ao ps.length co).ownBlock = some k → k < gx
theorem WSt.start {w wr : World} {rk ra rb rc x0 x1 : Int} {ps : List (Ev × Value)} {ao : Option Addr} {co : Nat} (hb : Below w.heap.size w wr) (ho : OutSt w.heap.size ps ao co wr) : WSt w wr.heap.size (wr.alloc (.cells #[.int .i64 rk, .int .i64 ra, .int .i64 rb, .int .i64 rc] 69)).heap.size rk ra rb rc ps ao co x0 x1 [] ((wr.alloc (.cells #[.int .i64 rk, .int .i64 ra, .int .i64 rb, .int .i64 rc] 69)).alloc (.cells #[.int .i64 x0, .int .i64 x1, .slice none 0 0] 44)) := by
  have h1 := hb.size
  refine ⟨(hb.alloc h1 _).alloc (by simp; omega) _, (ho.alloc _).alloc _, ?_, ⟨none, 0, alloc_at rfl, World.ownsRow_nil _ _ _ _⟩, h1, by simp, fun p hp k hk => ?_, fun k hk => ?_⟩
  · rw [alloc_lt (by simp)]; exact alloc_at rfl
  · have := ((ho.data p hp).1.lt k hk).2; simp; omega
  · have := (ho.row.lt k hk).2; simp; omega
theorem WSt.drewN {w wr : World} {gr gx : Nat} {rk ra rb rc x0 x1 : Int} {ps : List (Ev × Value)} {ao : Option Addr} {co : Nat} {acc : List Int} (h : WSt w gr gx rk ra rb rc ps ao co x0 x1 acc wr) (n : Nat) : WSt w gr gx rk ra rb rc ps ao co x0 x1 acc (wr.drewN n) := ⟨below_drewN h.b n, h.out.drewN n, h.raw, h.xb, h.ge, h.hg, h.lts, h.lto⟩
theorem WSt.y {w wr : World} {gr gx : Nat} {rk ra rb rc x0 x1 : Int} {ps : List (Ev × Value)} {ao : Option Addr} {co : Nat} {acc : List Int} (h : WSt w gr gx rk ra rb rc ps ao co x0 x1 acc wr) : wr.cell? ⟨gr, 2, none⟩ = some (.int .i64 rb) ∧ wr.cell? ⟨gr, 3, none⟩ = some (.int .i64 rc) ∧ wr.cell? ⟨gx, 0, none⟩ = some (.int .i64 x0) ∧ wr.cell? ⟨gx, 1, none⟩ = some (.int .i64 x1) ∧ wr.frozen? ⟨gx, 2, none⟩ = false ∧ gx < wr.heap.size ∧ w.heap.size ≤ wr.heap.size := by
  obtain ⟨a, c, hx, ho⟩ := h.xb
  exact ⟨cell_block h.raw 2, cell_block h.raw 3, cell_block hx 0, cell_block hx 1, free_block hx 2, (Array.getElem?_eq_some_iff.1 hx).1, h.b.size⟩
theorem WSt.row {w wr w' : World} {gr gx : Nat} {rk ra rb rc x0 x1 : Int} {ps : List (Ev × Value)} {ao : Option Addr} {co : Nat} {acc acc2 : List Int} (h : WSt w gr gx rk ra rb rc ps ao co x0 x1 acc wr) {r : Option Nat} (hg : wr.grownBy w' r) (hr : ∀ k, r = some k → gx < k) {g1 cap n2 : Nat} (hn : n2 = acc2.length) (hown : w'.ownsRow (gx + 1) 3 1 (.slice (some ⟨g1, 0, none⟩) n2 cap) n2 (acc2.map (Value.int .i64))) : WSt w gr gx rk ra rb rc ps ao co x0 x1 acc2 (w'.setCell ⟨gx, 2, none⟩ (.slice (some ⟨g1, 0, none⟩) n2 cap)) := by
  subst hn
  have hgx := h.hg
  have hge := h.ge
  obtain ⟨a, c, hx, ho⟩ := h.xb
  have hx1 := block_grown hg hx (fun e => by have := hr gx e.symm; omega)
  have hw1 := block_grown hg h.raw (fun e => by have := hr gr e.symm; omega)
  have hgs : w'.grownBy (w'.setCell ⟨gx, 2, none⟩ (.slice (some ⟨g1, 0, none⟩) acc2.length cap)) (some gx) := grown_set _ _ _ _
  have hout1 : OutSt w.heap.size ps ao co w' := ⟨h.out.row.kept hg (by
    cases hob : (Value.slice ao ps.length co).ownBlock with
    | none => exact Or.inl rfl
    | some k => exact Or.inr (fun e => by have := h.lto k hob; have := hr k e.symm; omega)), fun p hp => (h.out.data p hp).kept hg (by
    cases hob : p.2.ownBlock with
    | none => exact Or.inl rfl
    | some k => exact Or.inr (fun e => by have := h.lts p hp k hob; have := hr k e.symm; omega))⟩
  have hout2 : OutSt w.heap.size ps ao co (w'.setCell ⟨gx, 2, none⟩ (.slice (some ⟨g1, 0, none⟩) acc2.length cap)) := ⟨hout1.row.kept hgs (by
    cases hob : (Value.slice ao ps.length co).ownBlock with
    | none => exact Or.inl rfl
    | some k => exact Or.inr (by have := h.lto k hob; simp; omega)), fun p hp => (hout1.data p hp).kept hgs (by
    cases hob : p.2.ownBlock with
    | none => exact Or.inl rfl
    | some k => exact Or.inr (by have := h.lts p hp k hob; simp; omega))⟩
  exact ⟨(h.b.grown hg h.b.size (fun k hk => by have := hr k hk; omega)).setCell (p := ⟨gx, 2, none⟩) (by show w.heap.size ≤ gx; omega) _, hout2, block_grown hgs hw1 (by simp; omega), ⟨some ⟨g1, 0, none⟩, cap, set_block (i := 2) hx1 _, hown.kept hgs (Or.inr (fun e => own_ne_block hown hx1 (by decide) e.symm))⟩, hge, hgx, h.lts, h.lto⟩

theorem wrap_rng (x : Int) : -9223372036854775808 ≤ IntKind.i64.wrap x ∧ IntKind.i64.wrap x ≤ 9223372036854775807 := by rw [IntKind.wrap_i64]; omega
theorem EvOk.nil : EvOk [] := fun j hj => absurd hj (Nat.not_lt_zero _)
theorem EvOk.push {l : List Ev} {x : Ev} (h : EvOk l) (h1 : 1 ≤ x.kind ∧ x.kind ≤ 3) (h2 : 0 ≤ x.at_ ∧ x.at_ < 3000) (h3 : x.data.any oddB = false) (h4 : (x.data.length : Int) = evW x.kind) (h5 : lastAt 0 l < x.at_) : EvOk (l ++ [x]) := by
  intro j hj
  rw [List.length_append] at hj
  simp only [List.length_cons, List.length_nil] at hj
  unfold fAt
  by_cases hjl : j < l.length
  · have := h j hjl
    unfold fAt at this
    rw [List.getElem?_eq_getElem hjl] at this
    rw [List.getElem?_append_left hjl, List.getElem?_eq_getElem hjl]
    simp only at this ⊢
    by_cases h0 : j = 0
    · rw [if_pos h0] at this ⊢; exact this
    · rw [if_neg h0] at this ⊢
      rw [List.getElem?_append_left (by omega)]
      exact this
  · obtain rfl : j = l.length := by omega
    rw [List.getElem?_append_right (Nat.le_refl _), Nat.sub_self]
    simp only [List.getElem?_cons_zero]
    rw [evFp (by omega) (by rintro (k | k | k); omega; omega; rw [h3] at k; cases k) h4]
    by_cases h0 : l.length = 0
    · rw [if_pos h0]
    · rw [if_neg h0, List.getElem?_append_left (by omega), List.getElem?_eq_getElem (by omega)]
      simp only
      have hla : lastAt 0 l = l[l.length - 1].at_ := by
        have := lastAt_take (l := l) (k := l.length - 1) (by omega)
        have e : l.take (l.length - 1 + 1) = l := List.take_of_length_le (by omega)
        rw [e] at this
        exact this
      rw [hla] at h5
      rw [if_neg (by omega)]
theorem small_words {acc : List Int} (h : ∀ z ∈ acc, Word z) : acc.any oddB = false := by
  rw [List.any_eq_false]
  intro z hz
  have := h z hz
  unfold Word at this
  rw [odd_false ⟨this.1, this.2⟩]
  decide

set_option maxHeartbeats 4000000 in
set_option maxRecDepth 100000 in
theorem events_any (v : Value) (xs : List Rw) (w : World) (hf : RawsR w.heap.size w v xs) : Calls Tryd.prog 17 #[v] w fun e w' => ∃ ps a c, e = .returned (.slice a ps.length c) ∧ OutSt w.heap.size ps a c w' ∧ Below w.heap.size w w' ∧ ps.length ≤ 30 ∧ EvOk (ps.map (·.1)) := by
  obtain ⟨ad, cap, rfl, hl, hl2, hcl⟩ := hf
  have HC := Lib.hid hcl
  clear hcl
  go_enter Tryd.func17, Tryd.ntmps17
  go_wp2_with fail
  go_loopg [3, 4, 5] 31 (fun gh s3 s4 s5 wr => ∃ (i : Nat) (ps : List (Ev × Value)) (a : Option Addr) (c : Nat) (at_ : Int), i ≤ 30 ∧ i ≤ xs.length ∧ gh = 31 - i ∧ s5 = .int .i64 i ∧ s4 = .int .i64 at_ ∧ 0 ≤ at_ ∧ at_ ≤ i * 60 ∧ ps.length = i ∧ s3 = .slice a ps.length c ∧ Hid (OutSt w.heap.size ps a c wr) ∧ Hid (Below w.heap.size w wr) ∧ Hid (EvOk (ps.map (·.1)) ∧ lastAt 0 (ps.map (·.1)) = at_))
  case atStart => exact ⟨0, [], none, 0, 0, by omega, by omega, rfl, rfl, rfl, by omega, by omega, rfl, rfl, Lib.hid (OutSt.nil _ _), Lib.hid (Below.refl _ _), Lib.hid ⟨EvOk.nil, rfl⟩⟩
  case round =>
    obtain ⟨i, ps, a, c, at_, hi, hix, rfl, rfl, rfl, hat0, hat1, hpl, rfl, HO, HB, HE⟩ := hrel
    have HPL := Lib.hid hpl
    have hpl2 : ps.length ≤ 30 := by omega
    clear hpl
    by_cases hgo : i < xs.length ∧ i < 30
    · obtain ⟨hil, hi30⟩ := hgo
      obtain ⟨b, off, cs, ha, hbb, hcs, hcell, hrc, i1, i2, i3, i4⟩ := HC.out i hil
      subst ha hrc
      generalize xs[i] = x at *
      obtain ⟨rk, ra, rb, rc⟩ := x
      simp only at i1 i2 i3 i4
      unfold I64 at i1 i2 i3 i4
      obtain ⟨i1a, i1b⟩ := i1
      obtain ⟨i2a, i2b⟩ := i2
      obtain ⟨i3a, i3b⟩ := i3
      obtain ⟨i4a, i4b⟩ := i4
      have q0 : wr.cell? ⟨b, off + i * 4, none⟩ = some (.int .i64 rk) := (same_below HB.out _ _ hbb).trans (hcell 0 (by simp))
      have q1 : wr.cell? ⟨b, off + i * 4 + 1, none⟩ = some (.int .i64 ra) := (same_below HB.out _ _ hbb).trans (hcell 1 (by simp))
      have q2 : wr.cell? ⟨b, off + i * 4 + 2, none⟩ = some (.int .i64 rb) := (same_below HB.out _ _ hbb).trans (hcell 2 (by simp))
      have q3 : wr.cell? ⟨b, off + i * 4 + 3, none⟩ = some (.int .i64 rc) := (same_below HB.out _ _ hbb).trans (hcell 3 (by simp))
      have hbw := HB.out.size
      have hbl : b < wr.heap.size := by omega
      clear hcell hcs
      go_wp2_with fail
      refine (picked_in ra 60 _ i2a i2b (by omega) (by omega)).mono ?_
      rintro en w1 ⟨z1, hz1, hz1', rfl, rfl⟩
      go_wp2_with fail
      refine (picked_in rk 3 _ i1a i1b (by omega) (by omega)).mono ?_
      rintro en w1 ⟨z2, hz2, hz2', rfl, rfl⟩
      clear q0 q1 q2 q3 hbl
      rcases (show z2 = 0 ∨ z2 = 1 ∨ z2 = 2 by omega) with rfl | rfl | rfl
      · have HX := Lib.hid (WSt.start (rk := rk) (ra := ra) (rb := rb) (rc := rc) (x0 := (at_ + (1 + z1))) (x1 := 1) HB.out HO.out)
        have e1 : (wr.alloc (.cells #[.int .i64 rk, .int .i64 ra, .int .i64 rb, .int .i64 rc] 69)).heap.size = wr.heap.size + 1 := by simp
        rw [e1] at HX
        obtain ⟨y2, y3, y0, y1, yf, l1, l2⟩ := HX.out.y
        have zz2 : ((wr.alloc (.cells #[.int .i64 rk, .int .i64 ra, .int .i64 rb, .int .i64 rc] 69)).alloc (.cells #[.int .i64 (at_ + (1 + z1)), .int .i64 1, .slice none 0 0] 44)).cell? ⟨wr.heap.size + 1, 2, none⟩ = some (.slice none 0 0) := cell_block (alloc_at (by simp)) 2
        go_upto_region 18 with fail
        clear y2 y3 y0 y1 yf l1 l2 zz2 e1
        generalize (wr.alloc (.cells #[.int .i64 rk, .int .i64 ra, .int .i64 rb, .int .i64 rc] 69)).alloc (.cells #[.int .i64 (at_ + (1 + z1)), .int .i64 1, .slice none 0 0] 44) = W4 at *
        generalize wr.heap.size + 1 = gx at *
        have HAC := Lib.hid (show (∀ z ∈ ([] : List Int), I64 z) ∧ ([] : List Int).length ≤ 16 ∧ I64 (at_ + (1 + z1)) ∧ I64 1 from ⟨by simp, by simp, by unfold I64; omega, by unfold I64; omega⟩)
        obtain ⟨y2, y3, y0, y1, yf, l1, l2⟩ := HX.out.y
        obtain ⟨aq, cq, hxq, hoq⟩ := HX.out.xb
        have zz2 : W4.cell? ⟨gx, 2, none⟩ = some (.slice aq 0 cq) := cell_block hxq 2
        have HOQ := Lib.hid hoq
        have hgx := HX.out.hg
        have hge := HX.out.ge
        have HRW := Lib.hid HX.out.out.row
        clear hxq hoq
        go_wp2_with (at_builtin; go_loud (refine wpList_push W4 rfl (.tmp 63) (.tmp 65) 22 rfl w.heap.size 44 (.agg #[.int .i64 0, .int .i64 0, .slice none 0 0]) 3 40 Tryd.underlying22 info_ev rfl (by decide) [.int .i64 (at_ + (1 + z1)), .int .i64 1, .slice aq 0 cq] rfl (by simp [Value.oneCell']) _ _ _ (by rfl) HRW.out (by rfl) (by simp) (by omega) (by omega) (by omega) ?_); intro g5 cp5 w5 hown5 hgrow5; have HW5 := Lib.hid hown5; have HGR5 := Lib.hid hgrow5; clear hown5 hgrow5)
        have HO6 := Lib.hid (HX.out.out.push (p := (⟨(at_ + (1 + z1)), 1, []⟩, .slice aq 0 cq)) ⟨own_base HOQ.out (by omega), HAC.out⟩ HW5.out HGR5.out)
        have HB6 := Lib.hid (below_grown HX.out.b HRW.out HGR5.out HX.out.b.size (Nat.le_refl _))
        go_roundg (31 - (i + 1))
        case measure => omega
        case rel => exact ⟨i + 1, ps ++ [(⟨(at_ + (1 + z1)), 1, []⟩, .slice aq 0 cq)], _, _, (at_ + (1 + z1)), by omega, by omega, rfl, by go_num, rfl, by omega, by omega, by rw [List.length_append, HPL.out]; rfl, by rw [List.length_append]; rfl, HO6, HB6, Lib.hid ⟨by rw [List.map_append]; exact HE.out.1.push ⟨by show (1 : Int) ≤ 1; omega, by show (1 : Int) ≤ 3; omega⟩ ⟨by show 0 ≤ (at_ + (1 + z1)); omega, by show (at_ + (1 + z1)) < 3000; omega⟩ rfl (by simp [evW]) (by rw [HE.out.2]; show at_ < (at_ + (1 + z1)); omega), by rw [List.map_append]; exact lastAt_app _ _ _⟩⟩
      · have HX := Lib.hid (WSt.start (rk := rk) (ra := ra) (rb := rb) (rc := rc) (x0 := (at_ + (1 + z1))) (x1 := 2) HB.out HO.out)
        have e1 : (wr.alloc (.cells #[.int .i64 rk, .int .i64 ra, .int .i64 rb, .int .i64 rc] 69)).heap.size = wr.heap.size + 1 := by simp
        rw [e1] at HX
        obtain ⟨y2, y3, y0, y1, yf, l1, l2⟩ := HX.out.y
        go_wp2_with fail
        generalize (wr.alloc (.cells #[.int .i64 rk, .int .i64 ra, .int .i64 rb, .int .i64 rc] 69)).alloc (.cells #[.int .i64 (at_ + (1 + z1)), .int .i64 2, .slice none 0 0] 44) = W4 at *
        generalize hgx0 : wr.heap.size + 1 = gx at *
        generalize wr.heap.size = gr at *
        clear y2 y3 y0 y1 yf l1 l2 e1
        go_loopg [8, 39] 16 (fun gh s8 s39 wq => ∃ (j : Nat) (acc : List Int), j ≤ 16 ∧ gh = 16 - j ∧ s39 = .int .i64 j ∧ acc.length = j ∧ Hid (∀ z ∈ acc, -2 ≤ z ∧ z ≤ 2) ∧ Hid (WSt w gr gx rk ra rb rc ps a c (at_ + (1 + z1)) 2 acc wq))
        case atStart => exact ⟨0, [], by omega, rfl, rfl, rfl, Lib.hid (by simp), HX⟩
        case round =>
          clear HX
          obtain ⟨j, acc, hj, rfl, rfl, hal, HZ, HX⟩ := hrel
          have HAL := Lib.hid hal
          have hal2 : acc.length ≤ 16 := by omega
          clear hal
          by_cases hj16 : j < 16
          · obtain ⟨y2, y3, y0, y1, yf, l1, l2⟩ := HX.out.y
            obtain ⟨aq, cq, hxq, hoq⟩ := HX.out.xb
            have zz2 : wr.cell? ⟨gx, 2, none⟩ = some (.slice aq acc.length cq) := cell_block hxq 2
            have HOQ := Lib.hid hoq
            have HXQ := Lib.hid hxq
            clear hxq hoq
            have HWR := Lib.hid (HX.out.drewN 1)
            have hw1 : IntKind.i64.wrap ((j : Int) / 3) = (j : Int) / 3 := IntWalk.i64_in _ (by omega)
            have hw2 : IntKind.i64.wrap ((j : Int) / 3 + 1) = (j : Int) / 3 + 1 := IntWalk.i64_in _ (by omega)
            have hnd : ¬ IntKind.i64.wrap (IntKind.i64.wrap ((j : Int) / 3) + 1) = 0 := by rw [hw1, hw2]; omega
            have hnd2 : ¬ (j : Int) / 3 + 1 = 0 := by omega
            go_upto_region 14 with fail
            go_region_law ((first
              | (go_simp; go_at_call 18; refine (picked_in _ _ _ ?_ ?_ ?_ ?_).mono ?_; exact (wrap_rng _).1; exact (wrap_rng _).2; omega; omega; rintro en w' ⟨z, hz1, hz2, rfl, rfl⟩; have hwz : IntKind.i64.wrap (z - 2) = z - 2 := IntWalk.i64_in _ (by omega))
              | (go_loud (refine step_push wr.drew rfl (.tmp 43) (.tmp 52) 32 rfl (gx + 1) 3 (.int .i64 0) 1 8 Tryd.underlying32 info_int' rfl (by decide) [.int .i64 (z - 2)] rfl (by simp [Value.oneCell']) _ _ _ (by rfl) HOQ.out (by rfl) (by simp) (by omega) (by omega) (by simp; omega) ?_); intro g4 cp4 w4 hown4 hgrow4; have hx4 := block_grown (w := wr.drew) hgrow4 HXQ.out (own_ne_block HOQ.out HXQ.out (by decide)); have c4 : w4.cell? ⟨gx, 2, none⟩ = some (.slice aq acc.length cq) := cell_block hx4 2; have f4 := free_block hx4 2; have HN4 := Lib.hid hown4; have HG4 := Lib.hid hgrow4; clear hx4 hown4 hgrow4)))
            all_goals (
              have hps := HWR.out.row HG4.out (fun k hk => by have := (HOQ.out.lt k hk).1; omega) (acc2 := acc ++ [z - 2]) (n2 := acc.length + 1) (by simp) (by rw [List.map_append]; exact HN4.out)
              go_wp2
              go_roundg (16 - (j + 1))
              case measure => omega
              case rel => exact ⟨j + 1, acc ++ [z - 2], by omega, rfl, by go_num, by rw [List.length_append, HAL.out]; rfl, Lib.hid (by intro y hy; rcases List.mem_append.1 hy with hy | hy; exact HZ.out y hy; rw [List.mem_singleton.1 hy]; omega), Lib.hid hps⟩)
          · obtain rfl : j = 16 := by omega
            have hsm := HZ.out
            have HOD := Lib.hid (small_words (acc := acc) (fun z hz => by have := hsm z hz; unfold Word; omega))
            have HI6 := Lib.hid (show ∀ z ∈ acc, I64 z from fun z hz => by have := hsm z hz; unfold I64; omega)
            clear hsm
            go_upto_region 18 with fail
            have HAC := Lib.hid (show (∀ z ∈ acc, I64 z) ∧ acc.length ≤ 16 ∧ I64 (at_ + (1 + z1)) ∧ I64 2 from ⟨HI6.out, by omega, by unfold I64; omega, by unfold I64; omega⟩)
            obtain ⟨y2, y3, y0, y1, yf, l1, l2⟩ := HX.out.y
            obtain ⟨aq, cq, hxq, hoq⟩ := HX.out.xb
            have zz2 : wr.cell? ⟨gx, 2, none⟩ = some (.slice aq acc.length cq) := cell_block hxq 2
            have HOQ := Lib.hid hoq
            have hgx := HX.out.hg
            have hge := HX.out.ge
            have HRW := Lib.hid HX.out.out.row
            clear hxq hoq
            go_wp2_with (at_builtin; go_loud (refine wpList_push wr rfl (.tmp 63) (.tmp 65) 22 rfl w.heap.size 44 (.agg #[.int .i64 0, .int .i64 0, .slice none 0 0]) 3 40 Tryd.underlying22 info_ev rfl (by decide) [.int .i64 (at_ + (1 + z1)), .int .i64 2, .slice aq acc.length cq] rfl (by simp [Value.oneCell']) _ _ _ (by rfl) HRW.out (by rfl) (by simp) (by omega) (by omega) (by omega) ?_); intro g5 cp5 w5 hown5 hgrow5; have HW5 := Lib.hid hown5; have HGR5 := Lib.hid hgrow5; clear hown5 hgrow5)
            have HO6 := Lib.hid (HX.out.out.push (p := (⟨(at_ + (1 + z1)), 2, acc⟩, .slice aq acc.length cq)) ⟨own_base HOQ.out (by omega), HAC.out⟩ HW5.out HGR5.out)
            have HB6 := Lib.hid (below_grown HX.out.b HRW.out HGR5.out HX.out.b.size (Nat.le_refl _))
            go_roundg (31 - (i + 1))
            case measure => omega
            case rel => exact ⟨i + 1, ps ++ [(⟨(at_ + (1 + z1)), 2, acc⟩, .slice aq acc.length cq)], _, _, (at_ + (1 + z1)), by omega, by omega, rfl, by go_num, rfl, by omega, by omega, by rw [List.length_append, HPL.out]; rfl, by rw [List.length_append]; rfl, HO6, HB6, Lib.hid ⟨by rw [List.map_append]; exact HE.out.1.push ⟨by show (1 : Int) ≤ 2; omega, by show (2 : Int) ≤ 3; omega⟩ ⟨by show 0 ≤ (at_ + (1 + z1)); omega, by show (at_ + (1 + z1)) < 3000; omega⟩ HOD.out (by show (acc.length : Int) = 16; rw [HAL.out]; rfl) (by rw [HE.out.2]; show at_ < (at_ + (1 + z1)); omega), by rw [List.map_append]; exact lastAt_app _ _ _⟩⟩
    
      · have HX := Lib.hid (WSt.start (rk := rk) (ra := ra) (rb := rb) (rc := rc) (x0 := (at_ + (1 + z1))) (x1 := 3) HB.out HO.out)
        have e1 : (wr.alloc (.cells #[.int .i64 rk, .int .i64 ra, .int .i64 rb, .int .i64 rc] 69)).heap.size = wr.heap.size + 1 := by simp
        rw [e1] at HX
        obtain ⟨y2, y3, y0, y1, yf, l1, l2⟩ := HX.out.y
        have hcm1 : -1099511627776 < rc.tmod 1099511627776 := Int.lt_tmod_of_pos rc (by decide)
        have hcm2 : rc.tmod 1099511627776 < 1099511627776 := Int.tmod_lt_of_pos rc (by decide)
        have zz0 : ((wr.alloc (.cells #[.int .i64 rk, .int .i64 ra, .int .i64 rb, .int .i64 rc] 69)).alloc (.cells #[.int .i64 (at_ + (1 + z1)), .int .i64 3, .slice none 0 0] 44)).cell? ⟨wr.heap.size + 1, 2, none⟩ = some (.slice none 0 0) := cell_block (alloc_at (by simp)) 2
        go_upto_region 17 with fail
        generalize (wr.alloc (.cells #[.int .i64 rk, .int .i64 ra, .int .i64 rb, .int .i64 rc] 69)).alloc (.cells #[.int .i64 (at_ + (1 + z1)), .int .i64 3, .slice none 0 0] 44) = W4 at *
        generalize hgx0 : wr.heap.size + 1 = gx at *
        generalize wr.heap.size = gr at *
        clear hgx0 e1
        go_upto_region 18 with fail
        generalize rc.tmod 1099511627776 = v at *
        have HX := Lib.hid (HX.out.row (w' := W4.alloc (.cells #[.int .i64 v] 3)) (r := none) (World.grownBy_alloc _ _ none) (fun k h => by cases h) (acc2 := [v]) (g1 := W4.heap.size) (cap := 1) (n2 := 1) rfl (World.ownsRow_lit (base := gx + 1) (e := 3) (size := 1) W4 #[.int .i64 v] 1 (by omega) (by unfold maxLen; omega) rfl))
        have hsw : (W4.alloc (.cells #[.int .i64 v] 3)).setCell ⟨gx, 2, none⟩ (.slice (some ⟨W4.heap.size, 0, none⟩) 1 1) = (W4.setCell ⟨gx, 2, none⟩ (.slice (some ⟨W4.heap.size, 0, none⟩) 1 1)).alloc (.cells #[.int .i64 v] 3) := World.setCell_alloc_past _ _ _ _ l1
        rw [hsw] at HX
        clear hsw
        generalize (W4.setCell ⟨gx, 2, none⟩ (.slice (some ⟨W4.heap.size, 0, none⟩) 1 1)).alloc (.cells #[.int .i64 v] 3) = W5 at *
        clear y2 y3 y0 y1 yf l1 l2 zz0
        have HAC := Lib.hid (show (∀ z ∈ [v], I64 z) ∧ [v].length ≤ 16 ∧ I64 (at_ + (1 + z1)) ∧ I64 3 from ⟨by intro y hy; rw [List.mem_singleton.1 hy]; unfold I64; omega, by simp, by unfold I64; omega, by unfold I64; omega⟩)
        obtain ⟨y2, y3, y0, y1, yf, l1, l2⟩ := HX.out.y
        obtain ⟨aq, cq, hxq, hoq⟩ := HX.out.xb
        have zz2 : W5.cell? ⟨gx, 2, none⟩ = some (.slice aq 1 cq) := cell_block hxq 2
        have HOQ := Lib.hid hoq
        have hgx := HX.out.hg
        have hge := HX.out.ge
        have HRW := Lib.hid HX.out.out.row
        clear hxq hoq
        go_wp2_with (at_builtin; go_loud (refine wpList_push W5 rfl (.tmp 63) (.tmp 65) 22 rfl w.heap.size 44 (.agg #[.int .i64 0, .int .i64 0, .slice none 0 0]) 3 40 Tryd.underlying22 info_ev rfl (by decide) [.int .i64 (at_ + (1 + z1)), .int .i64 3, .slice aq 1 cq] rfl (by simp [Value.oneCell']) _ _ _ (by rfl) HRW.out (by rfl) (by simp) (by omega) (by omega) (by omega) ?_); intro g5 cp5 w5 hown5 hgrow5; have HW5 := Lib.hid hown5; have HGR5 := Lib.hid hgrow5; clear hown5 hgrow5)
        have HO6 := Lib.hid (HX.out.out.push (p := (⟨(at_ + (1 + z1)), 3, [v]⟩, .slice aq 1 cq)) ⟨own_base HOQ.out (by omega), HAC.out⟩ HW5.out HGR5.out)
        have HB6 := Lib.hid (below_grown HX.out.b HRW.out HGR5.out HX.out.b.size (Nat.le_refl _))
        go_roundg (31 - (i + 1))
        case measure => omega
        case rel => exact ⟨i + 1, ps ++ [(⟨(at_ + (1 + z1)), 3, [v]⟩, .slice aq 1 cq)], _, _, (at_ + (1 + z1)), by omega, by omega, rfl, by go_num, rfl, by omega, by omega, by rw [List.length_append, HPL.out]; rfl, by rw [List.length_append]; rfl, HO6, HB6, Lib.hid ⟨by rw [List.map_append]; exact HE.out.1.push ⟨by show (1 : Int) ≤ 3; omega, by show (3 : Int) ≤ 3; omega⟩ ⟨by show 0 ≤ (at_ + (1 + z1)); omega, by show (at_ + (1 + z1)) < 3000; omega⟩ (small_words (by intro y hy; rw [List.mem_singleton.1 hy]; unfold Word; omega)) (by simp [evW]) (by rw [HE.out.2]; show at_ < (at_ + (1 + z1)); omega), by rw [List.map_append]; exact lastAt_app _ _ _⟩⟩
    · have HBX := Lib.hid (show EvOk (ps.map (·.1)) from HE.out.1)
      have hnot : ¬ ((i : Int) < (xs.length : Int)) ∨ ¬ ((i : Int) < 30) := by omega
      clear hgo
      rcases hnot with hnot | hnot
      all_goals (
        go_wp2
        all_goals (
          go_ret
          exact ⟨ps, a, c, rfl, HO.out, HB.out, by rw [HPL.out]; omega, HBX.out⟩))
end Go.Proofs.YtnhccnjdpdhhaaaDoor
