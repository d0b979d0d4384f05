/- The contracts of evlog's reader: wrong, number, signed. No condition beyond those of each row. -/
import Derived.Test.YtiekilpddmdhnaaDoorEb
namespace Go.Proofs.YtiekilpddmdhnaaDoor
open Go Go.RowKit Go.ChangeShapes Go.WideShapes Go.Deep
set_option linter.unusedVariables false

theorem grown_set (w : World) (g i : Nat) (v : Value) : w.grownBy (w.setCell ⟨g, i, none⟩ v) (some g) :=
  ⟨rfl, rfl, rfl, by simp, fun k _ hne => Below.heap_setCell w _ v k (fun e => hne (by rw [e]))⟩
theorem grown_same {w w1 w2 : World} {r : Option Nat} (h : w.grownBy w1 r) (h2 : w1.grownBy w2 r) : w.grownBy w2 r :=
  ⟨h2.os.trans h.os, h2.tape.trans h.tape, h2.output.trans h.output, Nat.le_trans h.size h2.size, fun k hk hne => (h2.block k (Nat.lt_of_lt_of_le hk h.size) hne).trans (h.block k hk hne)⟩
theorem grown_drewN {w w1 : World} {r : Option Nat} (h : w.grownBy w1 r) (n : Nat) : w.grownBy (w1.drewN n) r := ⟨h.os, h.tape, h.output, h.size, h.block⟩
theorem below_grown_ge {B : Nat} {a w w' : World} {g : Nat} (h : Below B a w) (hg : w.grownBy w' (some g)) (hB : B ≤ w.heap.size) (hge : B ≤ g) : Below B a w' :=
  h.grown hg hB (fun k hk => by injection hk with hk; omega)

/-- The reader's box. -/
structure Rd (w0 : World) (g : Nat) (bs : List UInt8) (e : Int) (w : World) : Prop where
  box : ∃ a c, w.heap[g]? = some (.cells #[.slice a bs.length c, .int .i64 e] 51 (0, 0)) ∧ BytesR w0.heap.size w0 (.slice a bs.length c) bs
  ge : w0.heap.size ≤ g
  b : Below w0.heap.size w0 w
theorem Rd.drewN {w0 w : World} {g : Nat} {bs : List UInt8} {e : Int} (h : Rd w0 g bs e w) (n : Nat) : Rd w0 g bs e (w.drewN n) := ⟨h.box, h.ge, below_drewN h.b n⟩
theorem Rd.lt {w0 w : World} {g : Nat} {bs : List UInt8} {e : Int} (h : Rd w0 g bs e w) : g < w.heap.size := by obtain ⟨a, c, hx, _⟩ := h.box; exact (Array.getElem?_eq_some_iff.1 hx).1
theorem Rd.other {w0 w w' : World} {g : Nat} {r : Option Nat} {bs : List UInt8} {e : Int} (h : Rd w0 g bs e w) (hg : w.grownBy w' r) (hne : some g ≠ r) (hr : ∀ k, r = some k → w0.heap.size ≤ k) : Rd w0 g bs e w' := by
  obtain ⟨a, c, hx, hb⟩ := h.box
  exact ⟨⟨a, c, block_grown hg hx hne, hb⟩, h.ge, h.b.grown hg h.b.size (fun k hk => hr k hk)⟩
theorem bytes_tail {B : Nat} {w : World} {b off cap : Nat} {x : UInt8} {bs : List UInt8} (h : BytesR B w (.slice (some ⟨b, off, none⟩) (bs.length + 1) cap) (x :: bs)) : BytesR B w (.slice (some ⟨b, off + 1, none⟩) bs.length (cap - 1)) bs := by
  obtain ⟨a, c, hv, hl, hl2, hc⟩ := h
  injection hv with h1 h2 h3
  subst h1 h3
  simp only [List.length_cons] at hl hl2
  refine ⟨_, _, rfl, by omega, by omega, fun i hi => ?_⟩
  obtain ⟨b', o', vi, ha, hb, hcell, hvi⟩ := hc (i + 1) (by simp; omega)
  injection ha with ha
  injection ha with e1 e2
  subst e1 e2
  exact ⟨_, _, vi, rfl, hb, by rw [Nat.add_assoc, Nat.add_comm 1 i]; exact hcell, by simpa using hvi⟩
theorem bytes_head {B : Nat} {w : World} {a : Option Addr} {cap n : Nat} {x : UInt8} {bs : List UInt8} (h : BytesR B w (.slice a n cap) (x :: bs)) : ∃ b off, a = some ⟨b, off, none⟩ ∧ b < B ∧ w.cell? ⟨b, off, none⟩ = some (.int .u8 (x.toNat : Int)) ∧ bs.length + 1 ≤ cap := by
  obtain ⟨a', c, hv, hl, hl2, hc⟩ := h
  injection hv with h1 h2 h3
  subst h1 h3
  obtain ⟨b', o', vi, ha, hb, hcell, hvi⟩ := hc 0 (by simp)
  unfold ByteV at hvi
  exact ⟨b', o', ha, hb, by rw [hvi] at hcell; simpa using hcell, by simpa using hl2⟩

theorem or_sevens {i n z : Nat} (hi : i < 7) (hn : n < 128 ^ i) : bits .or .i64 (n : Int) (wrap64 ((z : Int) % 128 * 2 ^ (7 * i))) = ((n + z % 128 * 128 ^ i : Nat) : Int) := by
  rw [or_comm64]
  rcases (show i = 0 ∨ i = 1 ∨ i = 2 ∨ i = 3 ∨ i = 4 ∨ i = 5 ∨ i = 6 by omega) with rfl | rfl | rfl | rfl | rfl | rfl | rfl <;> simp only [Nat.reduceMul, Int.reducePow, Nat.reducePow] at hn ⊢
  · rw [wrap_id (by omega), i64_or_join 0 (by decide) _ _ (by omega) (by unfold I64; omega) (by omega) (by omega)]; omega
  · rw [wrap_id (by omega), i64_or_join 7 (by decide) _ _ (by omega) (by unfold I64; omega) (by omega) (by omega)]; omega
  · rw [wrap_id (by omega), i64_or_join 14 (by decide) _ _ (by omega) (by unfold I64; omega) (by omega) (by omega)]; omega
  · rw [wrap_id (by omega), i64_or_join 21 (by decide) _ _ (by omega) (by unfold I64; omega) (by omega) (by omega)]; omega
  · rw [wrap_id (by omega), i64_or_join 28 (by decide) _ _ (by omega) (by unfold I64; omega) (by omega) (by omega)]; omega
  · rw [wrap_id (by omega), i64_or_join 35 (by decide) _ _ (by omega) (by unfold I64; omega) (by omega) (by omega)]; omega
  · rw [wrap_id (by omega), i64_or_join 42 (by decide) _ _ (by omega) (by unfold I64; omega) (by omega) (by omega)]; omega
theorem pow_step {i n r : Nat} (hn : n < 128 ^ i) (hr : r < 128) : n + r * 128 ^ i < 128 ^ (i + 1) := by
  rw [Nat.pow_succ]
  have := Nat.mul_le_mul_right (128 ^ i) (show r ≤ 127 by omega)
  omega
theorem bytes_tail1 {B : Nat} {w : World} {b off : Nat} {x : UInt8} {bs : List UInt8} (h : BytesR B w (.slice (some ⟨b, off, none⟩) (bs.length + 1) 1) (x :: bs)) : bs = [] := by
  obtain ⟨a, c, hv, hl, hl2, hc⟩ := h
  injection hv with h1 h2 h3
  simp only [List.length_cons] at hl hl2
  exact List.eq_nil_of_length_eq_zero (by omega)
theorem bytes_nil (B : Nat) (w : World) (a : Option Addr) (c : Nat) : BytesR B w (.slice a 0 c) [] := ⟨a, c, rfl, by simp, by simp, fun i h => absurd h (Nat.not_lt_zero _)⟩

theorem wrong_any (w0 : World) (g : Nat) (bs : List UInt8) (x : Int) (w : World) (h : Rd w0 g bs 0 w) : Calls Tryd.prog 21 #[.pointer (some ⟨g, 0, none⟩), .int .i64 x] w fun e w' => e = .returned (.int .i64 0) ∧ Rd w0 g bs x w' ∧ w.grownBy w' (some g) := by
  obtain ⟨⟨a, c, hx, hb⟩, hge, hbl⟩ := h
  have q1 : w.cell? ⟨g, 1, none⟩ = some (.int .i64 0) := cell_block hx 1
  have f1 := free_block hx 1
  have lg : g < w.heap.size := (Array.getElem?_eq_some_iff.1 hx).1
  have HX := Lib.hid (show (w.setCell ⟨g, 1, none⟩ (.int .i64 x)).heap[g]? = some (.cells #[.slice a bs.length c, .int .i64 x] 51 (0, 0)) from set_block hx _)
  have HB := Lib.hid hb
  have HBL := Lib.hid (hbl.setCell (p := ⟨g, 1, none⟩) hge (.int .i64 x))
  clear hx hb hbl
  go_enter Tryd.func21, Tryd.ntmps21
  go_wp2
  go_ret
  exact ⟨rfl, ⟨⟨a, c, HX.out, HB.out⟩, hge, HBL.out⟩, grown_set _ _ _ _⟩

set_option maxHeartbeats 4000000 in
theorem number_bad (w0 : World) (g : Nat) (bs : List UInt8) (x : Int) (w : World) (h : Rd w0 g bs x w) (h0 : x ≠ 0) : Calls Tryd.prog 19 #[.pointer (some ⟨g, 0, none⟩)] w fun e w' => e = .returned (.int .i64 0) ∧ Rd w0 g bs x w' ∧ w.grownBy w' (some g) := by
  have HD := Lib.hid h
  obtain ⟨⟨a, c, hx, hb⟩, hge, hbl⟩ := h
  have q1 : w.cell? ⟨g, 1, none⟩ = some (.int .i64 x) := cell_block hx 1
  have lg : g < w.heap.size := (Array.getElem?_eq_some_iff.1 hx).1
  have hx0 : (x == 0) = false := by rw [beq_eq_false_iff_ne]; exact h0
  clear hx hb hbl
  go_enter Tryd.func19, Tryd.ntmps19
  go_wp2_with fail
  go_loopg [3, 4] 1 (fun gh s3 s4 wr => gh = 1 ∧ wr = w)
  case atStart => exact ⟨rfl, rfl⟩
  case round =>
    obtain ⟨rfl, rfl⟩ := hrel
    go_wp2
    go_ret
    exact ⟨rfl, HD.out, World.grownBy.refl _ _⟩

set_option maxHeartbeats 8000000 in
set_option maxRecDepth 100000 in
theorem number_good (w0 : World) (g : Nat) (bs : List UInt8) (w : World) (h : Rd w0 g bs 0 w) : Calls Tryd.prog 19 #[.pointer (some ⟨g, 0, none⟩)] w fun e w' => e = .returned (.int .i64 ((numP 0 0 bs).2.1 : Int)) ∧ Rd w0 g (numP 0 0 bs).2.2 (numP 0 0 bs).1 w' ∧ w.grownBy w' (some g) := by
  have HD := Lib.hid h
  clear h
  go_enter Tryd.func19, Tryd.ntmps19
  go_wp2_with fail
  go_loopg [3, 4] (bs.length + 1) (fun gh s3 s4 wr => ∃ (i n : Nat) (cs : List UInt8), gh = cs.length + 1 ∧ i ≤ 7 ∧ n < 128 ^ i ∧ s3 = .int .i64 n ∧ s4 = .int .i64 i ∧ Hid (numP 0 0 bs = numP i n cs) ∧ Hid (Rd w0 g cs 0 wr) ∧ Hid (w.grownBy wr (some g)))
  case atStart => exact ⟨0, 0, bs, rfl, by omega, by decide, rfl, rfl, Lib.hid rfl, HD, Lib.hid (World.grownBy.refl _ _)⟩
  case round =>
    obtain ⟨i, n, cs, rfl, hi, hn, rfl, rfl, E, R, G⟩ := hrel
    obtain ⟨a, c, hx, hb⟩ := R.out.box
    have lg := R.out.lt
    have hge := R.out.ge
    have q1 : wr.cell? ⟨g, 1, none⟩ = some (.int .i64 0) := cell_block hx 1
    have q0 : wr.cell? ⟨g, 0, none⟩ = some (.slice a cs.length c) := cell_block hx 0
    have f0 := free_block hx 0
    cases cs with
    | nil =>
      have hw := Lib.hid (wrong_any w0 g [] 5 wr R.out)
      have e0 : numP 0 0 bs = (5, 0, []) := by rw [E.out]; rfl
      have E0 := Lib.hid e0
      clear hx hb e0
      simp only [List.length_nil] at q0
      go_wp2_with fail
      refine hw.out.mono ?_
      rintro e w1 ⟨rfl, hr1, hg1⟩
      go_wp2
      go_ret
      rw [E0.out]
      exact ⟨rfl, hr1, grown_same G.out hg1⟩
    | cons x cs =>
      obtain ⟨b, off, rfl, hbB, hcell, hcap⟩ := bytes_head hb
      have hc := u8_lt x
      have r0 : wr.cell? ⟨b, off, none⟩ = some (.int .u8 (x.toNat : Int)) := (same_below R.out.b _ _ hbB).trans hcell
      have hbg : b < wr.heap.size := by have := R.out.b.size; omega
      have HBR := Lib.hid hb
      have HXX := Lib.hid hx
      simp only [List.length_cons] at q0
      clear hx hb hcell
      go_upto_region 8 with fail
      go_cut [] from 6 to 57 (fun wx => Hid (Rd w0 g cs 0 wx) ∧ Hid (w.grownBy wx (some g)))
      case first =>
        by_cases hc1 : c = 1
        · subst hc1
          obtain rfl := bytes_tail1 HBR.out
          have HX := Lib.hid (set_block (i := 0) HXX.out (.slice (some ⟨b, off, none⟩) 0 0))
          have HR1 := Lib.hid (show Rd w0 g [] 0 (wr.setCell ⟨g, 0, none⟩ (.slice (some ⟨b, off, none⟩) 0 0)) from ⟨⟨_, _, HX.out, bytes_nil _ _ _ _⟩, hge, R.out.b.setCell (p := ⟨g, 0, none⟩) hge _⟩)
          have HG1 := Lib.hid (grown_same G.out (grown_set wr g 0 (.slice (some ⟨b, off, none⟩) 0 0)))
          simp only [List.length_nil] at q0
          go_wp2_with fail
          all_goals (go_meet; exact ⟨HR1, HG1⟩)
        · have hb2 := bytes_tail HBR.out
          have HX := Lib.hid (set_block (i := 0) HXX.out (.slice (some ⟨b, off + 1, none⟩) cs.length (c - 1)))
          have HR1 := Lib.hid (show Rd w0 g cs 0 (wr.setCell ⟨g, 0, none⟩ (.slice (some ⟨b, off + 1, none⟩) cs.length (c - 1))) from ⟨⟨_, _, HX.out, hb2⟩, hge, R.out.b.setCell (p := ⟨g, 0, none⟩) hge _⟩)
          have HG1 := Lib.hid (grown_same G.out (grown_set wr g 0 (.slice (some ⟨b, off + 1, none⟩) cs.length (c - 1))))
          clear hb2
          go_wp2_with fail
          all_goals (go_meet; exact ⟨HR1, HG1⟩)
      case rest =>
        obtain ⟨HR1, HG1⟩ := hcut
        clear q0 q1 f0 r0 HXX HBR
        by_cases h1 : (0 < i ∧ x.toNat = 0) ∨ i = 7
        · have e0 : numP 0 0 bs = (4, 0, cs) := by rw [E.out]; exact numP_bad h1
          have E0 := Lib.hid e0
          have HW := Lib.hid (wrong_any w0 g cs 4 _ HR1.out)
          clear e0
          rcases (show i = 7 ∨ (0 < i ∧ i < 7 ∧ x.toNat = 0) by omega) with rfl | ⟨hi0, hi7, hx0⟩
          · go_wp2_with fail
            all_goals (
              refine HW.out.mono ?_
              rintro e w1 ⟨rfl, hr1, hg1⟩
              go_wp2
              go_ret
              rw [E0.out]
              exact ⟨rfl, hr1, grown_same HG1.out hg1⟩)
          · rw [hx0]
            go_wp2_with fail
            all_goals (
              refine HW.out.mono ?_
              rintro e w1 ⟨rfl, hr1, hg1⟩
              go_wp2
              go_ret
              rw [E0.out]
              exact ⟨rfl, hr1, grown_same HG1.out hg1⟩)
        · have hi7 : i < 7 := by omega
          have e1 : bits .and .i64 (x.toNat : Int) 127 = (x.toNat : Int) % 128 := i64_and127 _
          have e2 := or_sevens (z := x.toNat) hi7 hn
          have hp := pow_step (r := x.toNat % 128) hn (by omega)
          by_cases hx8 : x.toNat < 128
          · have e0 : numP 0 0 bs = (0, n + x.toNat % 128 * 128 ^ i, cs) := by rw [E.out]; exact numP_end h1 hx8
            have E0 := Lib.hid e0
            clear e0 E
            generalize x.toNat = z at *
            generalize hm : n + z % 128 * 128 ^ i = m at *
            have HP := Lib.hid hp
            have h0i : ¬ (0 < i) ∨ (¬ z = 0 ∧ 0 < i) := by omega
            clear hp hm hn
            rcases h0i with h0i | ⟨h0i, hi0⟩
            · have hi7b : ((i : Int) == 7) = false := by rw [beq_eq_false_iff_ne]; omega
              clear h1
              go_wp2
              go_ret
              rw [E0.out]
              exact ⟨rfl, HR1.out, HG1.out⟩
            · have hz0 : ((z : Int) == 0) = false := by rw [beq_eq_false_iff_ne]; omega
              have hi7b : ((i : Int) == 7) = false := by rw [beq_eq_false_iff_ne]; omega
              clear h1
              go_wp2
              go_ret
              rw [E0.out]
              exact ⟨rfl, HR1.out, HG1.out⟩
          · have e0 : numP 0 0 bs = numP (i + 1) (n + x.toNat % 128 * 128 ^ i) cs := by rw [E.out]; exact numP_more h1 hx8
            have E0 := Lib.hid e0
            clear e0 E
            generalize x.toNat = z at *
            generalize hm : n + z % 128 * 128 ^ i = m at *
            have HP := Lib.hid hp
            clear hp hm hn
            have h0z : ¬ z = 0 := by omega
            have hz0 : ((z : Int) == 0) = false := by rw [beq_eq_false_iff_ne]; omega
            have hi7b : ((i : Int) == 7) = false := by rw [beq_eq_false_iff_ne]; omega
            clear h1
            go_wp2
            all_goals (
              go_roundg (cs.length + 1)
              case measure => simp
              case rel => exact ⟨i + 1, m, cs, rfl, by omega, HP.out, rfl, by go_num, E0, HR1, HG1⟩)

theorem number_any' (w0 : World) (g : Nat) (bs : List UInt8) (w : World) (h : Rd w0 g bs 0 w) {e : Int} {v : Nat} {r : List UInt8} (hn : numP 0 0 bs = (e, v, r)) : Calls Tryd.prog 19 #[.pointer (some ⟨g, 0, none⟩)] w fun en w' => en = .returned (.int .i64 (v : Int)) ∧ Rd w0 g r e w' ∧ w.grownBy w' (some g) := by
  have := number_good w0 g bs w h
  rw [hn] at this
  exact this

theorem rsigned_good (w0 : World) (g : Nat) (bs : List UInt8) (w : World) (h : Rd w0 g bs 0 w) {e : Int} {v : Nat} {r : List UInt8} (hn : numP 0 0 bs = (e, v, r)) : Calls Tryd.prog 49 #[.pointer (some ⟨g, 0, none⟩)] w fun en w' => en = .returned (.int .i64 (zag v)) ∧ Rd w0 g r e w' ∧ w.grownBy w' (some g) := by
  have HN := Lib.hid (number_any' w0 g bs w h hn)
  have hv : v < 128 ^ 7 := by
    rcases numP_err bs 0 0 with h0 | ⟨_, h0⟩
    · rw [hn] at h0; simp only at h0; subst h0; exact numP_lt hn
    · rw [hn] at h0; simp only at h0; subst h0; decide
  have hv2 : v < 562949953421312 := Nat.lt_of_lt_of_le hv (by decide)
  clear h hn hv
  have e1 : bits .and .i64 (v : Int) 1 = (v : Int) % 2 := i64_and1 _
  by_cases ho : v % 2 = 1
  · have hz : zag v = -(((v : Int) + 1) / 2) := by unfold zag; rw [if_pos ho]; omega
    have ho2 : (v : Int) % 2 = 1 := by omega
    rw [ho2] at e1
    rw [hz]
    clear hz
    go_enter Tryd.func49, Tryd.ntmps49
    go_wp2_with fail
    refine HN.out.mono ?_
    rintro e w1 ⟨rfl, h1, h2⟩
    go_wp2
    have ht : ((v : Int) + 1).tdiv 2 = ((v : Int) + 1) / 2 := Int.tdiv_eq_ediv_of_nonneg (by omega)
    go_ret
    exact ⟨ret_int (by (try rw [Int.neg_tdiv]); rw [ht, wrap_id (by omega)]), h1, h2⟩
  · have hz : zag v = (v : Int) / 2 := by unfold zag; rw [if_neg ho]; omega
    have ho2 : (v : Int) % 2 = 0 := by omega
    rw [ho2] at e1
    rw [hz]
    clear hz
    go_enter Tryd.func49, Tryd.ntmps49
    go_wp2_with fail
    refine HN.out.mono ?_
    rintro e w1 ⟨rfl, h1, h2⟩
    go_wp2
    go_ret
    exact ⟨rfl, h1, h2⟩
theorem rsigned_bad (w0 : World) (g : Nat) (bs : List UInt8) (x : Int) (w : World) (h : Rd w0 g bs x w) (h0 : x ≠ 0) : Calls Tryd.prog 49 #[.pointer (some ⟨g, 0, none⟩)] w fun en w' => en = .returned (.int .i64 0) ∧ Rd w0 g bs x w' ∧ w.grownBy w' (some g) := by
  have HN := Lib.hid (number_bad w0 g bs x w h h0)
  clear h
  have e1 : bits .and .i64 0 1 = 0 := by decide
  go_enter Tryd.func49, Tryd.ntmps49
  go_wp2_with fail
  refine HN.out.mono ?_
  rintro e w1 ⟨rfl, h1, h2⟩
  go_wp2
  go_ret
  exact ⟨rfl, h1, h2⟩
end Go.Proofs.YtiekilpddmdhnaaDoor
