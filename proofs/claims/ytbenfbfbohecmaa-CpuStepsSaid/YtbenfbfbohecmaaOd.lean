/- The contract of a core's do, operations 7, 8, 9, 12, 13 and 14. No condition beyond the readings. -/
import Derived.Test.YtbenfbfbohecmaaOy
import Derived.Deep.RegionWith
import Derived.Deep.RegionLaw
import Derived.Deep.CutBlock
import Derived.Deep.RegionHeld3
namespace Go.Proofs.Ytbenfbfbohecmaa
open Go Go.RowKit Go.ChangeShapes Go.WideShapes Go.Deep
set_option linter.unusedVariables false
attribute [local go_sem ↓] Go.wp_at_zero Go.wp_at_succ

set_option maxHeartbeats 4000000 in
set_option maxRecDepth 100000 in
theorem do_7 {t fL fS : Nat} {v : Value} {St : World → (Nat → Prop) → List Int → Bool → Prop} (hM : MemI t fL fS v St) {w0 w : World} {D : Nat → Prop} {cb gr cr : Nat} {vm : Value} {m : Mach} {x : Bool} {ao : Option Addr} {co : Nat} {F : Nat → Prop} (h : GSt St w0 D cb gr cr vm m (-1) x ao co F w) (hm : MOk m) (a b : Nat) (n value : Int) (ha : a < 8) (hb : b < 8) (hn : -1048576 ≤ n ∧ n ≤ 1048575) (hv : WordZ value) : Calls Try.prog 26 #[.pointer (some ⟨cb, 0, none⟩), .iface t v, .agg #[.int .i64 7, .int .i64 a, .int .i64 b, .int .i64 n], .int .i64 value] w (DoPost St w0 D cb gr cr vm m x (doM m 7 a b n value)) := by
  have HOK := Lib.hid (doM_ok hm 7 a b n value (by unfold WordZ; omega) hv)
  have c0 : w.cell? ⟨cb, 0, none⟩ = some (.slice (some ⟨gr, 0, none⟩) 8 cr) := cell_block h.box 0
  have c1 : w.cell? ⟨cb, 1, none⟩ = some (.int .i64 m.pc) := cell_block h.box 1
  have f1 := free_block h.box 1
  have ra := h.reg_at ha
  have rb := h.reg_at hb
  have fa := h.reg_free a
  have lc := h.clt
  have lr := h.rlt
  have hpc := hm.pc
  have hne1 : ¬ gr = cb := h.rne
  have hne2 : ¬ cb = gr := fun e => h.rne e.symm
  have ha' : (a : Int) < 8 := by omega
  have hb' : (b : Int) < 8 := by omega
  have wa := hm.wreg a
  have wb := hm.wreg b
  have w1 : IntKind.i64.wrap (m.pc + 1) = m.pc + 1 := IntWalk.i64_in _ (by omega)
  have HH := Lib.hid h
  have HM := Lib.hid hM
  have HMO := Lib.hid hm
  have w2 : IntKind.i64.wrap (m.pc + n) = m.pc + n := IntWalk.i64_in _ (by omega)
  generalize hra : m.reg a = z at *
  by_cases hz : z = 0
  · have hzb : (z == 0) = true := by rw [hz]; rfl
    rw [show doM m 7 a b n value = (m.goTo (m.pc + n), 0, -1) from (by show (m.goTo (if m.reg a = 0 then _ else _), _) = _; rw [hra, if_pos hz])] at HOK ⊢
    clear h hm hM
    go_enter Try.func26, Try.ntmps26
    go_wp2_with (go_at_call 33; refine (fold_any _ _ (by omega) (by omega)).mono ?_; rintro e w' ⟨rfl, rfl⟩)
    go_quiet (fail)
    go_wp2_with (go_at_call 33; refine (fold_any _ _ (by omega) (by omega)).mono ?_; rintro e w' ⟨rfl, rfl⟩)
    go_ret
    refine DoPost.ok HOK.out rfl ?_
    exact (GSt.put HM.out ((HH.out.alloc HM.out _).drewN HM.out _) 1 _ (m.goTo (m.pc + n)) (-1) rfl rfl rfl rfl).gs
  · have hzb : (z == 0) = false := by rw [beq_eq_false_iff_ne]; exact hz
    rw [show doM m 7 a b n value = (m.goTo (m.pc + 1), 0, -1) from (by show (m.goTo (if m.reg a = 0 then _ else _), _) = _; rw [hra, if_neg hz])] at HOK ⊢
    clear h hm hM
    go_enter Try.func26, Try.ntmps26
    go_wp2_with (go_at_call 33; refine (fold_any _ _ (by omega) (by omega)).mono ?_; rintro e w' ⟨rfl, rfl⟩)
    go_ret
    refine DoPost.ok HOK.out rfl ?_
    exact (GSt.alloc HM.out (GSt.put HM.out HH.out 1 _ (m.goTo (m.pc + 1)) (-1) rfl rfl rfl rfl) _).gs
set_option maxHeartbeats 4000000 in
set_option maxRecDepth 100000 in
theorem do_8 {t fL fS : Nat} {v : Value} {St : World → (Nat → Prop) → List Int → Bool → Prop} (hM : MemI t fL fS v St) {w0 w : World} {D : Nat → Prop} {cb gr cr : Nat} {vm : Value} {m : Mach} {x : Bool} {ao : Option Addr} {co : Nat} {F : Nat → Prop} (h : GSt St w0 D cb gr cr vm m (-1) x ao co F w) (hm : MOk m) (a b : Nat) (n value : Int) (ha : a < 8) (hb : b < 8) (hn : -1048576 ≤ n ∧ n ≤ 1048575) (hv : WordZ value) : Calls Try.prog 26 #[.pointer (some ⟨cb, 0, none⟩), .iface t v, .agg #[.int .i64 8, .int .i64 a, .int .i64 b, .int .i64 n], .int .i64 value] w (DoPost St w0 D cb gr cr vm m x (doM m 8 a b n value)) := by
  have HOK := Lib.hid (doM_ok hm 8 a b n value (by unfold WordZ; omega) hv)
  have c0 : w.cell? ⟨cb, 0, none⟩ = some (.slice (some ⟨gr, 0, none⟩) 8 cr) := cell_block h.box 0
  have c1 : w.cell? ⟨cb, 1, none⟩ = some (.int .i64 m.pc) := cell_block h.box 1
  have f1 := free_block h.box 1
  have ra := h.reg_at ha
  have rb := h.reg_at hb
  have fa := h.reg_free a
  have lc := h.clt
  have lr := h.rlt
  have hpc := hm.pc
  have hne1 : ¬ gr = cb := h.rne
  have hne2 : ¬ cb = gr := fun e => h.rne e.symm
  have ha' : (a : Int) < 8 := by omega
  have hb' : (b : Int) < 8 := by omega
  have wa := hm.wreg a
  have wb := hm.wreg b
  have w1 : IntKind.i64.wrap (m.pc + 1) = m.pc + 1 := IntWalk.i64_in _ (by omega)
  have HH := Lib.hid h
  have HM := Lib.hid hM
  have HMO := Lib.hid hm
  have w2 : IntKind.i64.wrap (m.pc + n) = m.pc + n := IntWalk.i64_in _ (by omega)
  generalize hra : m.reg a = z at *
  by_cases hz : z < 0
  · have hzb : decide (z < 0) = true := decide_eq_true hz
    rw [show doM m 8 a b n value = (m.goTo (m.pc + n), 0, -1) from (by show (m.goTo (if m.reg a < 0 then _ else _), _) = _; rw [hra, if_pos hz])] at HOK ⊢
    clear h hm hM
    go_enter Try.func26, Try.ntmps26
    go_wp2_with (go_at_call 33; refine (fold_any _ _ (by omega) (by omega)).mono ?_; rintro e w' ⟨rfl, rfl⟩)
    go_quiet (fail)
    go_wp2_with (go_at_call 33; refine (fold_any _ _ (by omega) (by omega)).mono ?_; rintro e w' ⟨rfl, rfl⟩)
    go_ret
    refine DoPost.ok HOK.out rfl ?_
    exact (GSt.put HM.out ((HH.out.alloc HM.out _).drewN HM.out _) 1 _ (m.goTo (m.pc + n)) (-1) rfl rfl rfl rfl).gs
  · have hzb : decide (z < 0) = false := decide_eq_false hz
    rw [show doM m 8 a b n value = (m.goTo (m.pc + 1), 0, -1) from (by show (m.goTo (if m.reg a < 0 then _ else _), _) = _; rw [hra, if_neg hz])] at HOK ⊢
    clear h hm hM
    go_enter Try.func26, Try.ntmps26
    go_wp2_with (go_at_call 33; refine (fold_any _ _ (by omega) (by omega)).mono ?_; rintro e w' ⟨rfl, rfl⟩)
    go_ret
    refine DoPost.ok HOK.out rfl ?_
    exact (GSt.alloc HM.out (GSt.put HM.out HH.out 1 _ (m.goTo (m.pc + 1)) (-1) rfl rfl rfl rfl) _).gs
set_option maxHeartbeats 4000000 in
set_option maxRecDepth 100000 in
theorem do_9 {t fL fS : Nat} {v : Value} {St : World → (Nat → Prop) → List Int → Bool → Prop} (hM : MemI t fL fS v St) {w0 w : World} {D : Nat → Prop} {cb gr cr : Nat} {vm : Value} {m : Mach} {x : Bool} {ao : Option Addr} {co : Nat} {F : Nat → Prop} (h : GSt St w0 D cb gr cr vm m (-1) x ao co F w) (hm : MOk m) (a b : Nat) (n value : Int) (ha : a < 8) (hb : b < 8) (hn : -1048576 ≤ n ∧ n ≤ 1048575) (hv : WordZ value) : Calls Try.prog 26 #[.pointer (some ⟨cb, 0, none⟩), .iface t v, .agg #[.int .i64 9, .int .i64 a, .int .i64 b, .int .i64 n], .int .i64 value] w (DoPost St w0 D cb gr cr vm m x (doM m 9 a b n value)) := by
  have HOK := Lib.hid (doM_ok hm 9 a b n value (by unfold WordZ; omega) hv)
  have c0 : w.cell? ⟨cb, 0, none⟩ = some (.slice (some ⟨gr, 0, none⟩) 8 cr) := cell_block h.box 0
  have c1 : w.cell? ⟨cb, 1, none⟩ = some (.int .i64 m.pc) := cell_block h.box 1
  have f1 := free_block h.box 1
  have ra := h.reg_at ha
  have rb := h.reg_at hb
  have fa := h.reg_free a
  have lc := h.clt
  have lr := h.rlt
  have hpc := hm.pc
  have hne1 : ¬ gr = cb := h.rne
  have hne2 : ¬ cb = gr := fun e => h.rne e.symm
  have ha' : (a : Int) < 8 := by omega
  have hb' : (b : Int) < 8 := by omega
  have wa := hm.wreg a
  have wb := hm.wreg b
  have w1 : IntKind.i64.wrap (m.pc + 1) = m.pc + 1 := IntWalk.i64_in _ (by omega)
  have HH := Lib.hid h
  have HM := Lib.hid hM
  have HMO := Lib.hid hm
  have w2 : IntKind.i64.wrap (m.pc + n) = m.pc + n := IntWalk.i64_in _ (by omega)
  rw [show doM m 9 a b n value = (m.goTo (m.pc + n), 0, -1) from rfl] at HOK ⊢
  clear h hm hM
  go_enter Try.func26, Try.ntmps26
  go_wp2_with (go_at_call 33; refine (fold_any _ _ (by omega) (by omega)).mono ?_; rintro e w' ⟨rfl, rfl⟩)
  go_quiet (fail)
  go_wp2_with (go_at_call 33; refine (fold_any _ _ (by omega) (by omega)).mono ?_; rintro e w' ⟨rfl, rfl⟩)
  go_ret
  refine DoPost.ok HOK.out rfl ?_
  exact (GSt.put HM.out ((HH.out.alloc HM.out _).drewN HM.out _) 1 _ (m.goTo (m.pc + n)) (-1) rfl rfl rfl rfl).gs
set_option maxHeartbeats 4000000 in
set_option maxRecDepth 100000 in
theorem do_12 {t fL fS : Nat} {v : Value} {St : World → (Nat → Prop) → List Int → Bool → Prop} (hM : MemI t fL fS v St) {w0 w : World} {D : Nat → Prop} {cb gr cr : Nat} {vm : Value} {m : Mach} {x : Bool} {ao : Option Addr} {co : Nat} {F : Nat → Prop} (h : GSt St w0 D cb gr cr vm m (-1) x ao co F w) (hm : MOk m) (a b : Nat) (n value : Int) (ha : a < 8) (hb : b < 8) (hn : -1048576 ≤ n ∧ n ≤ 1048575) (hv : WordZ value) : Calls Try.prog 26 #[.pointer (some ⟨cb, 0, none⟩), .iface t v, .agg #[.int .i64 12, .int .i64 a, .int .i64 b, .int .i64 n], .int .i64 value] w (DoPost St w0 D cb gr cr vm m x (doM m 12 a b n value)) := by
  have HOK := Lib.hid (doM_ok hm 12 a b n value (by unfold WordZ; omega) hv)
  have c0 : w.cell? ⟨cb, 0, none⟩ = some (.slice (some ⟨gr, 0, none⟩) 8 cr) := cell_block h.box 0
  have c1 : w.cell? ⟨cb, 1, none⟩ = some (.int .i64 m.pc) := cell_block h.box 1
  have f1 := free_block h.box 1
  have ra := h.reg_at ha
  have rb := h.reg_at hb
  have fa := h.reg_free a
  have lc := h.clt
  have lr := h.rlt
  have hpc := hm.pc
  have hne1 : ¬ gr = cb := h.rne
  have hne2 : ¬ cb = gr := fun e => h.rne e.symm
  have ha' : (a : Int) < 8 := by omega
  have hb' : (b : Int) < 8 := by omega
  have wa := hm.wreg a
  have wb := hm.wreg b
  have w1 : IntKind.i64.wrap (m.pc + 1) = m.pc + 1 := IntWalk.i64_in _ (by omega)
  have HH := Lib.hid h
  have HM := Lib.hid hM
  have HMO := Lib.hid hm
  have f3 := free_block h.box 3
  have c3 : w.cell? ⟨cb, 3, none⟩ = some (.bool m.ints) := cell_block h.box 3
  rw [show doM m 12 a b n value = (({ m with ints := decide (n = 1) } : Mach).goTo (m.pc + 1), 0, -1) from rfl] at HOK ⊢
  clear h hm hM
  by_cases hn1 : n = 1
  · subst hn1
    go_enter Try.func26, Try.ntmps26
    go_wp2_with (go_at_call 33; refine (fold_any _ _ (by omega) (by omega)).mono ?_; rintro e w' ⟨rfl, rfl⟩)
    go_ret
    refine DoPost.ok HOK.out rfl ?_
    exact (GSt.alloc HM.out (GSt.put HM.out (GSt.put HM.out HH.out 3 _ ({ m with ints := true } : Mach) (-1) rfl rfl rfl rfl) 1 _ (({ m with ints := true } : Mach).goTo (m.pc + 1)) (-1) rfl rfl rfl rfl) _).gs
  · have hnb : (n == 1) = false := by rw [beq_eq_false_iff_ne]; exact hn1
    have hnd : decide (n = 1) = false := decide_eq_false hn1
    rw [hnd] at HOK ⊢
    clear hn1
    go_enter Try.func26, Try.ntmps26
    go_wp2_with (go_at_call 33; refine (fold_any _ _ (by omega) (by omega)).mono ?_; rintro e w' ⟨rfl, rfl⟩)
    go_ret
    refine DoPost.ok HOK.out rfl ?_
    exact (GSt.alloc HM.out (GSt.put HM.out (GSt.put HM.out HH.out 3 _ ({ m with ints := false } : Mach) (-1) rfl rfl rfl rfl) 1 _ (({ m with ints := false } : Mach).goTo (m.pc + 1)) (-1) rfl rfl rfl rfl) _).gs
set_option maxHeartbeats 4000000 in
set_option maxRecDepth 100000 in
theorem do_13 {t fL fS : Nat} {v : Value} {St : World → (Nat → Prop) → List Int → Bool → Prop} (hM : MemI t fL fS v St) {w0 w : World} {D : Nat → Prop} {cb gr cr : Nat} {vm : Value} {m : Mach} {x : Bool} {ao : Option Addr} {co : Nat} {F : Nat → Prop} (h : GSt St w0 D cb gr cr vm m (-1) x ao co F w) (hm : MOk m) (a b : Nat) (n value : Int) (ha : a < 8) (hb : b < 8) (hn : -1048576 ≤ n ∧ n ≤ 1048575) (hv : WordZ value) : Calls Try.prog 26 #[.pointer (some ⟨cb, 0, none⟩), .iface t v, .agg #[.int .i64 13, .int .i64 a, .int .i64 b, .int .i64 n], .int .i64 value] w (DoPost St w0 D cb gr cr vm m x (doM m 13 a b n value)) := by
  have HOK := Lib.hid (doM_ok hm 13 a b n value (by unfold WordZ; omega) hv)
  have c0 : w.cell? ⟨cb, 0, none⟩ = some (.slice (some ⟨gr, 0, none⟩) 8 cr) := cell_block h.box 0
  have c1 : w.cell? ⟨cb, 1, none⟩ = some (.int .i64 m.pc) := cell_block h.box 1
  have f1 := free_block h.box 1
  have ra := h.reg_at ha
  have rb := h.reg_at hb
  have fa := h.reg_free a
  have lc := h.clt
  have lr := h.rlt
  have hpc := hm.pc
  have hne1 : ¬ gr = cb := h.rne
  have hne2 : ¬ cb = gr := fun e => h.rne e.symm
  have ha' : (a : Int) < 8 := by omega
  have hb' : (b : Int) < 8 := by omega
  have wa := hm.wreg a
  have wb := hm.wreg b
  have w1 : IntKind.i64.wrap (m.pc + 1) = m.pc + 1 := IntWalk.i64_in _ (by omega)
  have HH := Lib.hid h
  have HM := Lib.hid hM
  have HMO := Lib.hid hm
  have f3 := free_block h.box 3
  have c3 : w.cell? ⟨cb, 3, none⟩ = some (.bool m.ints) := cell_block h.box 3
  have c2 : w.cell? ⟨cb, 2, none⟩ = some (.int .i64 m.back) := cell_block h.box 2
  have hbk := hm.back
  rw [show doM m 13 a b n value = (({ m with ints := true } : Mach).goTo m.back, 0, -1) from rfl] at HOK ⊢
  clear h hm hM
  go_enter Try.func26, Try.ntmps26
  go_wp2_with (go_at_call 33; refine (fold_any _ _ (by omega) (by omega)).mono ?_; rintro e w' ⟨rfl, rfl⟩)
  go_ret
  refine DoPost.ok HOK.out rfl ?_
  exact (GSt.alloc HM.out (GSt.put HM.out (GSt.put HM.out HH.out 3 _ ({ m with ints := true } : Mach) (-1) rfl rfl rfl rfl) 1 _ (({ m with ints := true } : Mach).goTo m.back) (-1) rfl rfl rfl rfl) _).gs
set_option maxHeartbeats 4000000 in
set_option maxRecDepth 100000 in
theorem do_14 {t fL fS : Nat} {v : Value} {St : World → (Nat → Prop) → List Int → Bool → Prop} (hM : MemI t fL fS v St) {w0 w : World} {D : Nat → Prop} {cb gr cr : Nat} {vm : Value} {m : Mach} {x : Bool} {ao : Option Addr} {co : Nat} {F : Nat → Prop} (h : GSt St w0 D cb gr cr vm m (-1) x ao co F w) (hm : MOk m) (a b : Nat) (n value : Int) (ha : a < 8) (hb : b < 8) (hn : -1048576 ≤ n ∧ n ≤ 1048575) (hv : WordZ value) : Calls Try.prog 26 #[.pointer (some ⟨cb, 0, none⟩), .iface t v, .agg #[.int .i64 14, .int .i64 a, .int .i64 b, .int .i64 n], .int .i64 value] w (DoPost St w0 D cb gr cr vm m x (doM m 14 a b n value)) := by
  have HOK := Lib.hid (doM_ok hm 14 a b n value (by unfold WordZ; omega) hv)
  have c0 : w.cell? ⟨cb, 0, none⟩ = some (.slice (some ⟨gr, 0, none⟩) 8 cr) := cell_block h.box 0
  have c1 : w.cell? ⟨cb, 1, none⟩ = some (.int .i64 m.pc) := cell_block h.box 1
  have f1 := free_block h.box 1
  have ra := h.reg_at ha
  have rb := h.reg_at hb
  have fa := h.reg_free a
  have lc := h.clt
  have lr := h.rlt
  have hpc := hm.pc
  have hne1 : ¬ gr = cb := h.rne
  have hne2 : ¬ cb = gr := fun e => h.rne e.symm
  have ha' : (a : Int) < 8 := by omega
  have hb' : (b : Int) < 8 := by omega
  have wa := hm.wreg a
  have wb := hm.wreg b
  have w1 : IntKind.i64.wrap (m.pc + 1) = m.pc + 1 := IntWalk.i64_in _ (by omega)
  have HH := Lib.hid h
  have HM := Lib.hid hM
  have HMO := Lib.hid hm
  have f5 := free_block h.box 5
  have c5 : w.cell? ⟨cb, 5, none⟩ = some (.int .i64 m.table) := cell_block h.box 5
  generalize hra : m.reg a = z at *
  by_cases hz : z < -1 ∨ 16 ≤ z
  · rw [show doM m 14 a b n value = (m, 3, -1) from (by show (if m.reg a < -1 ∨ 16 ≤ m.reg a then _ else _) = _; rw [hra, if_pos hz])] at HOK ⊢
    clear h hm hM
    rcases hz with hz | hz
    · have hz1 : decide (z < -1) = true := decide_eq_true hz
      go_enter Try.func26, Try.ntmps26
      go_wp2_with (go_at_call 33; refine (fold_any _ _ (by omega) (by omega)).mono ?_; rintro e w' ⟨rfl, rfl⟩)
      go_ret
      exact DoPost.ok HOK.out rfl (GSt.alloc HM.out HH.out _).gs
    · have hz1 : ¬ z < -1 := by omega
      go_enter Try.func26, Try.ntmps26
      go_wp2_with (go_at_call 33; refine (fold_any _ _ (by omega) (by omega)).mono ?_; rintro e w' ⟨rfl, rfl⟩)
      go_ret
      exact DoPost.ok HOK.out rfl (GSt.alloc HM.out HH.out _).gs
  · have hz1 : ¬ z < -1 := by omega
    have hz2 : ¬ 16 ≤ z := by omega
    rw [show doM m 14 a b n value = (({ m with table := z } : Mach).goTo (m.pc + 1), 0, -1) from (by show (if m.reg a < -1 ∨ 16 ≤ m.reg a then _ else _) = _; rw [hra, if_neg hz])] at HOK ⊢
    clear h hm hM
    clear hz
    go_enter Try.func26, Try.ntmps26
    go_wp2_with (go_at_call 33; refine (fold_any _ _ (by omega) (by omega)).mono ?_; rintro e w' ⟨rfl, rfl⟩)
    go_ret
    refine DoPost.ok HOK.out rfl ?_
    exact (GSt.alloc HM.out (GSt.put HM.out (GSt.put HM.out HH.out 5 _ ({ m with table := z } : Mach) (-1) rfl rfl rfl rfl) 1 _ (({ m with table := z } : Mach).goTo (m.pc + 1)) (-1) rfl rfl rfl rfl) _).gs
end Go.Proofs.Ytbenfbfbohecmaa
