/- The contracts of a core's do, of whatever instruction, and of Next. No condition beyond the readings. -/
import Derived.Test.YtbenfbfbohecmaaOa
import Derived.Test.YtbenfbfbohecmaaOb
import Derived.Test.YtbenfbfbohecmaaOc
import Derived.Test.YtbenfbfbohecmaaOd
import Derived.Test.YtbenfbfbohecmaaOe
import Derived.Test.YtbenfbfbohecmaaOg
import Derived.Test.YtbenfbfbohecmaaOh
import Derived.Handy
namespace Go.Proofs.Ytbenfbfbohecmaa
open Go Go.RowKit Go.ChangeShapes Go.WideShapes Go.Deep
set_option linter.unusedVariables false
attribute [local go_sem ↓] Go.wp_at_zero Go.wp_at_succ

theorem iCode_small {op a b n : Int} (h : iCode op a b n = 0) (ho : op = 2 ∨ op = 3) : 0 ≤ n ∧ n < 8 := by
  have r := iCode_rng h
  by_cases k : n < 0 ∨ 8 ≤ n
  · have := iCode4 (op := op) (a := a) (b := b) (n := n) (by omega) (by omega) (Or.inl ⟨ho, k⟩)
    omega
  · omega
theorem do_any {t fL fS : Nat} {v : Value} {St : World → (Nat → Prop) → List Int → Bool → Prop} (hM : MemI t fL fS v St) {w0 w : World} {D : Nat → Prop} {cb gr cr : Nat} {vm : Value} {m : Mach} {x : Bool} {ao : Option Addr} {co : Nat} {F : Nat → Prop} (h : GSt St w0 D cb gr cr vm m (-1) x ao co F w) (hm : MOk m) (op a b n value : Int) (hc : iCode op a b n = 0) (hv : WordZ value) : Calls Try.prog 26 #[.pointer (some ⟨cb, 0, none⟩), .iface t v, .agg #[.int .i64 op, .int .i64 a, .int .i64 b, .int .i64 n], .int .i64 value] w (DoPost St w0 D cb gr cr vm m x (doM m op a b n value)) := by
  obtain ⟨h0, h1, a0, a1, b0, b1, n0, n1⟩ := iCode_rng hc
  have hs := iCode_small hc
  obtain ⟨a, rfl⟩ := Int.eq_ofNat_of_zero_le a0
  obtain ⟨b, rfl⟩ := Int.eq_ofNat_of_zero_le b0
  have hop : op = 0 ∨ op = 1 ∨ op = 2 ∨ op = 3 ∨ op = 4 ∨ op = 5 ∨ op = 6 ∨ op = 7 ∨ op = 8 ∨ op = 9 ∨ op = 10 ∨ op = 11 ∨ op = 12 ∨ op = 13 ∨ op = 14 ∨ op = 15 := by omega
  rcases hop with rfl | rfl | rfl | rfl | rfl | rfl | rfl | rfl | rfl | rfl | rfl | rfl | rfl | rfl | rfl | rfl
  · exact do_0 hM h hm a b n value (by omega) (by omega) ⟨n0, n1⟩ hv
  · exact do_1 hM h hm a b n value (by omega) (by omega) ⟨n0, n1⟩ hv
  · exact do_2 hM h hm a b n value (by omega) (by omega) ⟨n0, n1⟩ (hs (by decide)) hv
  · exact do_3 hM h hm a b n value (by omega) (by omega) ⟨n0, n1⟩ (hs (by decide)) hv
  · exact do_4 hM h hm a b n value (by omega) (by omega) ⟨n0, n1⟩ hv
  · exact do_5 hM h hm a b n value (by omega) (by omega) ⟨n0, n1⟩ hv
  · exact do_6 hM h hm a b n value (by omega) (by omega) ⟨n0, n1⟩ hv
  · exact do_7 hM h hm a b n value (by omega) (by omega) ⟨n0, n1⟩ hv
  · exact do_8 hM h hm a b n value (by omega) (by omega) ⟨n0, n1⟩ hv
  · exact do_9 hM h hm a b n value (by omega) (by omega) ⟨n0, n1⟩ hv
  · exact do_10 hM h hm a b n value (by omega) (by omega) ⟨n0, n1⟩ hv
  · exact do_11 hM h hm a b n value (by omega) (by omega) ⟨n0, n1⟩ hv
  · exact do_12 hM h hm a b n value (by omega) (by omega) ⟨n0, n1⟩ hv
  · exact do_13 hM h hm a b n value (by omega) (by omega) ⟨n0, n1⟩ hv
  · exact do_14 hM h hm a b n value (by omega) (by omega) ⟨n0, n1⟩ hv
  · exact do_15 hM h hm a b n value (by omega) (by omega) ⟨n0, n1⟩ hv

/-- An instruction that comes, or none. -/
def instV (z : Int × Int) : Value := if z.2 = 0 then decV z.1 else .agg #[.int .i64 0, .int .i64 0, .int .i64 0, .int .i64 0]
theorem nextZ_load (m : Mach) : nextZ m = if (loadZ m.table m.mem m.pc).2 ≠ 0 then (0, (loadZ m.table m.mem m.pc).2) else if decC (loadZ m.table m.mem m.pc).1 ≠ 0 then (0, 2) else ((loadZ m.table m.mem m.pc).1, 0) := by
  unfold nextZ loadZ
  by_cases h : (placeZ m.table m.mem m.pc false).2 = 0
  · rw [if_neg (fun k => k h), if_pos h]
    rfl
  · rw [if_pos h, if_neg h, if_pos h]
theorem loadZ_word {m : Mach} (h : MOk m) (at_ : Int) : WordZ (loadZ m.table m.mem at_).1 := by
  unfold loadZ
  by_cases k : (placeZ m.table m.mem at_ false).2 = 0
  · rw [if_pos k]; exact h.wmem _
  · rw [if_neg k]; show WordZ 0; unfold WordZ; omega
set_option maxHeartbeats 4000000 in
set_option maxRecDepth 100000 in
theorem next_any {t fL fS : Nat} {v : Value} {St : World → (Nat → Prop) → List Int → Bool → Prop} (hM : MemI t fL fS v St) {w0 w : World} {D : Nat → Prop} {cb gr cr : Nat} {vm : Value} {m : Mach} {wrote : Int} {x : Bool} {ao : Option Addr} {co : Nat} {F : Nat → Prop} (h : GSt St w0 D cb gr cr vm m wrote x ao co F w) (hm : MOk m) : Calls Try.prog 25 #[.pointer (some ⟨cb, 0, none⟩), .iface t v] w fun e w' => e = .returned (.tuple #[instV (nextZ m), .int .i64 (nextZ m).2]) ∧ Below w.heap.size w w' := by
  have HL := Lib.hid (fun w' (hw : GSt St w0 D cb gr cr vm m wrote x ao co F w') => load_any hM w' F m.mem x hw.mem cb m.table (cell_block hw.box 5) hm.table m.pc)
  have HN := Lib.hid (nextZ_load m)
  have hw := loadZ_word hm m.pc
  generalize loadZ m.table m.mem m.pc = lz at *
  obtain ⟨z, e⟩ := lz
  simp only at hw HN
  have HD := Lib.hid (fun w => decode_any z w hw.i64)
  have c1 : w.cell? ⟨cb, 1, none⟩ = some (.int .i64 m.pc) := cell_block h.box 1
  have lc := h.clt
  have HH := Lib.hid h
  have HM := Lib.hid hM
  generalize nextZ m = nz at *
  clear hM h hm hw
  by_cases he : e = 0
  · subst he
    by_cases hc : decC z = 0
    · have HE : Hid (nz = (z, 0)) := Lib.hid (by rw [HN.out, if_neg (by simp), if_neg (by simpa using hc)])
      have HV : Hid (decV z = .agg #[.int .i64 (decOp z), .int .i64 (decA z), .int .i64 (decB z), .int .i64 (decN z)]) := Lib.hid (by unfold decV; rw [if_pos hc])
      rw [hc, HV.out] at HD
      clear HN hc
      generalize decOp z = o1 at *
      generalize decA z = o2 at *
      generalize decB z = o3 at *
      generalize decN z = o4 at *
      go_enter Try.func25, Try.ntmps25
      go_wp2_with (first
        | (go_at_call 31; (with_reducible refine (HL.out _ ?_).mono ?_); exact HH.out.alloc HM.out _; rintro en w1 ⟨rfl, n1, rfl⟩)
        | (go_at_call 32; refine (HD.out _).mono ?_; rintro en w2 ⟨rfl, hb2⟩; have x0 := block_below hb2 (alloc_at (w := w) rfl) (by simp); have q0 : w2.cell? ⟨w.heap.size, 0, none⟩ = some (.int .i64 0) := cell_block x0 0; have q1 : w2.cell? ⟨w.heap.size, 1, none⟩ = some (.int .i64 0) := cell_block x0 1; have q2 : w2.cell? ⟨w.heap.size, 2, none⟩ = some (.int .i64 0) := cell_block x0 2; have q3 : w2.cell? ⟨w.heap.size, 3, none⟩ = some (.int .i64 0) := cell_block x0 3; have g0 := free_block x0 0; have g1 := free_block x0 1; have g2 := free_block x0 2; have g3 := free_block x0 3; have l2 : w.heap.size < w2.heap.size := (by have := hb2.size; simp at this; omega); have HB2 := Lib.hid hb2; clear x0 hb2))
      refine bodyPost_ret (v := .tuple #[.agg #[.int .i64 o1, .int .i64 o2, .int .i64 o3, .int .i64 o4], .int .i64 0]) (by simp [results, Try.results25, go_sem, q0, q1, q2, q3, l2]) rfl (And.intro ?_ ?_)
      · rw [HE.out]; simp only [instV, if_true, HV.out]
      · go_grown
        exact (below_drewN (below_alloc w _) n1).trans (HB2.out.mono (by simp))
    · have HE : Hid (nz = (0, 2)) := Lib.hid (by rw [HN.out, if_neg (by simp), if_pos hc])
      have HV : Hid (decV z = .agg #[.int .i64 0, .int .i64 0, .int .i64 0, .int .i64 0]) := Lib.hid (by unfold decV; rw [if_neg hc])
      have hb1 : (decC z != 0) = true := by rw [bne_iff_ne]; exact hc
      rw [HV.out] at HD
      clear HN hc HV
      generalize decC z = c at *
      go_enter Try.func25, Try.ntmps25
      go_wp2_with (first
        | (go_at_call 31; (with_reducible refine (HL.out _ ?_).mono ?_); exact HH.out.alloc HM.out _; rintro en w1 ⟨rfl, n1, rfl⟩)
        | (go_at_call 32; refine (HD.out _).mono ?_; rintro en w2 ⟨rfl, hb2⟩; have x0 := block_below hb2 (alloc_at (w := w) rfl) (by simp); have q0 : w2.cell? ⟨w.heap.size, 0, none⟩ = some (.int .i64 0) := cell_block x0 0; have q1 : w2.cell? ⟨w.heap.size, 1, none⟩ = some (.int .i64 0) := cell_block x0 1; have q2 : w2.cell? ⟨w.heap.size, 2, none⟩ = some (.int .i64 0) := cell_block x0 2; have q3 : w2.cell? ⟨w.heap.size, 3, none⟩ = some (.int .i64 0) := cell_block x0 3; have g0 := free_block x0 0; have g1 := free_block x0 1; have g2 := free_block x0 2; have g3 := free_block x0 3; have l2 : w.heap.size < w2.heap.size := (by have := hb2.size; simp at this; omega); have HB2 := Lib.hid hb2; clear x0 hb2))
      refine bodyPost_ret (v := .tuple #[.agg #[.int .i64 0, .int .i64 0, .int .i64 0, .int .i64 0], .int .i64 2]) (by simp [results, Try.results25, go_sem, q0, q1, q2, q3, l2]) rfl (And.intro ?_ ?_)
      · rw [HE.out]; rfl
      · go_grown
        exact (below_drewN (below_alloc w _) n1).trans (HB2.out.mono (by simp))
  · have HE : Hid (nz = (0, e)) := Lib.hid (by rw [HN.out, if_pos he])
    have HV : Hid (instV (0, e) = .agg #[.int .i64 0, .int .i64 0, .int .i64 0, .int .i64 0]) := Lib.hid (by unfold instV; rw [if_neg he])
    have hb1 : (e != 0) = true := by rw [bne_iff_ne]; exact he
    clear HN he
    go_enter Try.func25, Try.ntmps25
    go_wp2_with (first
      | (go_at_call 31; (with_reducible refine (HL.out _ ?_).mono ?_); exact HH.out.alloc HM.out _; rintro en w1 ⟨rfl, n1, rfl⟩)
      | (go_at_call 32; refine (HD.out _).mono ?_; rintro en w2 ⟨rfl, hb2⟩; have x0 := block_below hb2 (alloc_at (w := w) rfl) (by simp); have q0 : w2.cell? ⟨w.heap.size, 0, none⟩ = some (.int .i64 0) := cell_block x0 0; have q1 : w2.cell? ⟨w.heap.size, 1, none⟩ = some (.int .i64 0) := cell_block x0 1; have q2 : w2.cell? ⟨w.heap.size, 2, none⟩ = some (.int .i64 0) := cell_block x0 2; have q3 : w2.cell? ⟨w.heap.size, 3, none⟩ = some (.int .i64 0) := cell_block x0 3; have g0 := free_block x0 0; have g1 := free_block x0 1; have g2 := free_block x0 2; have g3 := free_block x0 3; have l2 : w.heap.size < w2.heap.size := (by have := hb2.size; simp at this; omega); have HB2 := Lib.hid hb2; clear x0 hb2))
    refine bodyPost_ret (v := .tuple #[.agg #[.int .i64 0, .int .i64 0, .int .i64 0, .int .i64 0], .int .i64 e]) (by simp [results, Try.results25, go_sem]) rfl (And.intro ?_ ?_)
    · rw [HE.out]; simp only [HV.out]
    · go_grown
      exact below_drewN (below_alloc w _) n1
end Go.Proofs.Ytbenfbfbohecmaa
