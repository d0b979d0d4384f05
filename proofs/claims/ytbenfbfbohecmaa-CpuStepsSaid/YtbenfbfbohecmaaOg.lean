/- The contract of a core's do, operations 10 and 11. No condition beyond the readings. -/
import Derived.Test.YtbenfbfbohecmaaOf
import Derived.Deep.RegionWith
import Derived.Deep.RegionLaw
import Derived.Deep.CutBlock
import Derived.Deep.RegionHeld3
namespace Go.Proofs.Ytbenfbfbohecmaa
open Go Go.RowKit Go.ChangeShapes Go.WideShapes Go.Deep
set_option linter.unusedVariables false
attribute [local go_sem ↓] Go.wp_at_zero Go.wp_at_succ

set_option maxHeartbeats 4000000 in
set_option maxRecDepth 100000 in
theorem do_10 {t fL fS : Nat} {v : Value} {St : World → (Nat → Prop) → List Int → Bool → Prop} (hM : MemI t fL fS v St) {w0 w : World} {D : Nat → Prop} {cb gr cr : Nat} {vm : Value} {m : Mach} {x : Bool} {ao : Option Addr} {co : Nat} {F : Nat → Prop} (h : GSt St w0 D cb gr cr vm m (-1) x ao co F w) (hm : MOk m) (a b : Nat) (n value : Int) (ha : a < 8) (hb : b < 8) (hn : -1048576 ≤ n ∧ n ≤ 1048575) (hv : WordZ value) : Calls Try.prog 26 #[.pointer (some ⟨cb, 0, none⟩), .iface t v, .agg #[.int .i64 10, .int .i64 a, .int .i64 b, .int .i64 n], .int .i64 value] w (DoPost St w0 D cb gr cr vm m x (doM m 10 a b n value)) := by
  have HOK := Lib.hid (doM_ok hm 10 a b n value (by unfold WordZ; omega) hv)
  have c0 : w.cell? ⟨cb, 0, none⟩ = some (.slice (some ⟨gr, 0, none⟩) 8 cr) := cell_block h.box 0
  have c1 : w.cell? ⟨cb, 1, none⟩ = some (.int .i64 m.pc) := cell_block h.box 1
  have f1 := free_block h.box 1
  have ra := h.reg_at ha
  have rb := h.reg_at hb
  have fa := h.reg_free a
  have lc := h.clt
  have lr := h.rlt
  have hpc := hm.pc
  have hne1 : ¬ gr = cb := h.rne
  have hne2 : ¬ cb = gr := fun e => h.rne e.symm
  have ha' : (a : Int) < 8 := by omega
  have hb' : (b : Int) < 8 := by omega
  have wa := hm.wreg a
  have wb := hm.wreg b
  have w1 : IntKind.i64.wrap (m.pc + 1) = m.pc + 1 := IntWalk.i64_in _ (by omega)
  have HH := Lib.hid h
  have HM := Lib.hid hM
  have HMO := Lib.hid hm
  clear h hm hM
  by_cases h1 : n = 0 ∨ n = 1
  · rw [show doM m 10 a b n value = ((m.setReg a value).goTo (m.pc + 1), 0, -1) from (by show (if n = 0 ∨ n = 1 then _ else _) = _; rw [if_pos h1])] at HOK ⊢
    have H1 := Lib.hid h1
    clear h1
    go_enter Try.func26, Try.ntmps26
    go_wp2_with (first | (go_at_call 33; refine (fold_any _ _ (by omega) (by omega)).mono ?_; rintro e w' ⟨rfl, rfl⟩) | (go_at_call 35; refine (port_clock HM.out (HH.out.alloc HM.out _) HMO.out a b n value ha H1.out).mono ?_; rintro e w' ⟨rfl, hgs⟩; obtain ⟨ao', co', F', hgst⟩ := hgs; have HG := Lib.hid hgst; have f1' := free_block hgst.box 1; have c1' := cell_block hgst.box 1; have lc' := hgst.clt; clear hgst))
    go_ret
    refine DoPost.ok HOK.out rfl ?_
    exact (GSt.put HM.out HG.out 1 _ ((m.setReg a value).goTo (m.pc + 1)) (-1) rfl rfl rfl rfl).gs
  · by_cases h2 : n = 2
    · subst h2
      rw [show doM m 10 a b 2 value = ((m.setReg a m.ready).goTo (m.pc + 1), 0, -1) from rfl] at HOK ⊢
      clear h1
      go_enter Try.func26, Try.ntmps26
      go_wp2_with (first | (go_at_call 33; refine (fold_any _ _ (by omega) (by omega)).mono ?_; rintro e w' ⟨rfl, rfl⟩) | (go_at_call 35; refine (port_state HM.out (HH.out.alloc HM.out _) HMO.out a b 2 value ha).mono ?_; rintro e w' ⟨rfl, hgs⟩; obtain ⟨ao', co', F', hgst⟩ := hgs; have HG := Lib.hid hgst; have f1' := free_block hgst.box 1; have c1' := cell_block hgst.box 1; have lc' := hgst.clt; clear hgst))
      go_ret
      refine DoPost.ok HOK.out rfl ?_
      exact (GSt.put HM.out HG.out 1 _ ((m.setReg a m.ready).goTo (m.pc + 1)) (-1) rfl rfl rfl rfl).gs
    · rw [show doM m 10 a b n value = (m, 3, -1) from (by show (if n = 0 ∨ n = 1 then _ else if n = 2 then _ else _) = _; rw [if_neg h1, if_neg h2])] at HOK ⊢
      have H1 := Lib.hid h1
      have H2 := Lib.hid h2
      clear h1 h2
      go_enter Try.func26, Try.ntmps26
      go_wp2_with (go_at_call 35; refine (port_none HM.out (HH.out.alloc HM.out _) HMO.out a b n value ha H1.out H2.out).mono ?_; rintro e w' ⟨rfl, hgs⟩; obtain ⟨ao', co', F', hgst⟩ := hgs; have HG := Lib.hid hgst; have f1' := free_block hgst.box 1; have c1' := cell_block hgst.box 1; have lc' := hgst.clt; clear hgst)
      go_ret
      exact DoPost.ok HOK.out rfl HG.out.gs
set_option maxHeartbeats 4000000 in
set_option maxRecDepth 100000 in
theorem do_11 {t fL fS : Nat} {v : Value} {St : World → (Nat → Prop) → List Int → Bool → Prop} (hM : MemI t fL fS v St) {w0 w : World} {D : Nat → Prop} {cb gr cr : Nat} {vm : Value} {m : Mach} {x : Bool} {ao : Option Addr} {co : Nat} {F : Nat → Prop} (h : GSt St w0 D cb gr cr vm m (-1) x ao co F w) (hm : MOk m) (a b : Nat) (n value : Int) (ha : a < 8) (hb : b < 8) (hn : -1048576 ≤ n ∧ n ≤ 1048575) (hv : WordZ value) : Calls Try.prog 26 #[.pointer (some ⟨cb, 0, none⟩), .iface t v, .agg #[.int .i64 11, .int .i64 a, .int .i64 b, .int .i64 n], .int .i64 value] w (DoPost St w0 D cb gr cr vm m x (doM m 11 a b n value)) := by
  have HOK := Lib.hid (doM_ok hm 11 a b n value (by unfold WordZ; omega) hv)
  have c0 : w.cell? ⟨cb, 0, none⟩ = some (.slice (some ⟨gr, 0, none⟩) 8 cr) := cell_block h.box 0
  have c1 : w.cell? ⟨cb, 1, none⟩ = some (.int .i64 m.pc) := cell_block h.box 1
  have f1 := free_block h.box 1
  have ra := h.reg_at ha
  have rb := h.reg_at hb
  have fa := h.reg_free a
  have lc := h.clt
  have lr := h.rlt
  have hpc := hm.pc
  have hne1 : ¬ gr = cb := h.rne
  have hne2 : ¬ cb = gr := fun e => h.rne e.symm
  have ha' : (a : Int) < 8 := by omega
  have hb' : (b : Int) < 8 := by omega
  have wa := hm.wreg a
  have wb := hm.wreg b
  have w1 : IntKind.i64.wrap (m.pc + 1) = m.pc + 1 := IntWalk.i64_in _ (by omega)
  have HH := Lib.hid h
  have HM := Lib.hid hM
  have HMO := Lib.hid hm
  clear h hm hM
  by_cases h1 : n = 3
  · subst h1
    by_cases h2 : m.out.length < 200
    · rw [show doM m 11 a b 3 value = (({ m with out := m.out ++ [m.reg a] } : Mach).goTo (m.pc + 1), 0, -1) from (by show (Mach.goTo { m with out := if m.out.length < 200 then _ else _ } _, _) = _; rw [if_pos h2])] at HOK ⊢
      have H2 := Lib.hid h2
      clear h2
      go_enter Try.func26, Try.ntmps26
      go_wp2_with (first | (go_at_call 33; refine (fold_any _ _ (by omega) (by omega)).mono ?_; rintro e w' ⟨rfl, rfl⟩) | (go_at_call 35; refine (port_tell HM.out (HH.out.alloc HM.out _) HMO.out a b 3 value ha H2.out).mono ?_; rintro e w' ⟨rfl, hgs⟩; obtain ⟨ao', co', F', hgst⟩ := hgs; have HG := Lib.hid hgst; have f1' := free_block hgst.box 1; have c1' := cell_block hgst.box 1; have lc' := hgst.clt; clear hgst))
      go_ret
      refine DoPost.ok HOK.out rfl ?_
      exact (GSt.put HM.out HG.out 1 _ (({ m with out := m.out ++ [m.reg a] } : Mach).goTo (m.pc + 1)) (-1) rfl rfl rfl rfl).gs
    · rw [show doM m 11 a b 3 value = (m.goTo (m.pc + 1), 0, -1) from (by show (Mach.goTo { m with out := if m.out.length < 200 then _ else _ } _, _) = _; rw [if_neg h2])] at HOK ⊢
      have H2 := Lib.hid h2
      clear h2
      go_enter Try.func26, Try.ntmps26
      go_wp2_with (first | (go_at_call 33; refine (fold_any _ _ (by omega) (by omega)).mono ?_; rintro e w' ⟨rfl, rfl⟩) | (go_at_call 35; refine (port_full HM.out (HH.out.alloc HM.out _) HMO.out a b 3 value ha H2.out).mono ?_; rintro e w' ⟨rfl, hgs⟩; obtain ⟨ao', co', F', hgst⟩ := hgs; have HG := Lib.hid hgst; have f1' := free_block hgst.box 1; have c1' := cell_block hgst.box 1; have lc' := hgst.clt; clear hgst))
      go_ret
      refine DoPost.ok HOK.out rfl ?_
      exact (GSt.put HM.out HG.out 1 _ ((m).goTo (m.pc + 1)) (-1) rfl rfl rfl rfl).gs
  · by_cases h2 : n = 4 ∧ 0 ≤ m.reg a ∧ m.reg a < 16
    · have H2 := Lib.hid h2.2
      obtain rfl : n = 4 := h2.1
      by_cases h3 : m.want < 0
      · rw [show doM m 11 a b 4 value = (({ m with want := m.reg a, ready := 0 } : Mach).goTo (m.pc + 1), 0, -1) from (by show (if (4:Int) = 4 ∧ 0 ≤ m.reg a ∧ m.reg a < 16 then (Mach.goTo (if m.want < 0 then _ else _) _, _) else _) = _; rw [if_pos h2, if_pos h3])] at HOK ⊢
        have H3 := Lib.hid h3
        clear h1 h2 h3
        go_enter Try.func26, Try.ntmps26
        go_wp2_with (first | (go_at_call 33; refine (fold_any _ _ (by omega) (by omega)).mono ?_; rintro e w' ⟨rfl, rfl⟩) | (go_at_call 35; refine (port_want HM.out (HH.out.alloc HM.out _) HMO.out a b 4 value ha H2.out H3.out).mono ?_; rintro e w' ⟨rfl, hgs⟩; obtain ⟨ao', co', F', hgst⟩ := hgs; have HG := Lib.hid hgst; have f1' := free_block hgst.box 1; have c1' := cell_block hgst.box 1; have lc' := hgst.clt; clear hgst))
        go_ret
        refine DoPost.ok HOK.out rfl ?_
        exact (GSt.put HM.out HG.out 1 _ (({ m with want := m.reg a, ready := 0 } : Mach).goTo (m.pc + 1)) (-1) rfl rfl rfl rfl).gs
      · rw [show doM m 11 a b 4 value = (m.goTo (m.pc + 1), 0, -1) from (by show (if (4:Int) = 4 ∧ 0 ≤ m.reg a ∧ m.reg a < 16 then (Mach.goTo (if m.want < 0 then _ else _) _, _) else _) = _; rw [if_pos h2, if_neg h3])] at HOK ⊢
        have H3 := Lib.hid h3
        clear h1 h2 h3
        go_enter Try.func26, Try.ntmps26
        go_wp2_with (first | (go_at_call 33; refine (fold_any _ _ (by omega) (by omega)).mono ?_; rintro e w' ⟨rfl, rfl⟩) | (go_at_call 35; refine (port_old HM.out (HH.out.alloc HM.out _) HMO.out a b 4 value ha H2.out H3.out).mono ?_; rintro e w' ⟨rfl, hgs⟩; obtain ⟨ao', co', F', hgst⟩ := hgs; have HG := Lib.hid hgst; have f1' := free_block hgst.box 1; have c1' := cell_block hgst.box 1; have lc' := hgst.clt; clear hgst))
        go_ret
        refine DoPost.ok HOK.out rfl ?_
        exact (GSt.put HM.out HG.out 1 _ ((m).goTo (m.pc + 1)) (-1) rfl rfl rfl rfl).gs
    · rw [show doM m 11 a b n value = (m, 3, -1) from (by show (if n = 3 then _ else if n = 4 ∧ 0 ≤ m.reg a ∧ m.reg a < 16 then _ else _) = _; rw [if_neg h1, if_neg h2])] at HOK ⊢
      have H1 := Lib.hid h1
      have H2 := Lib.hid h2
      clear h1 h2
      go_enter Try.func26, Try.ntmps26
      go_wp2_with (go_at_call 35; refine (port_bad HM.out (HH.out.alloc HM.out _) HMO.out a b n value ha H1.out H2.out).mono ?_; rintro e w' ⟨rfl, hgs⟩; obtain ⟨ao', co', F', hgst⟩ := hgs; have HG := Lib.hid hgst; have f1' := free_block hgst.box 1; have c1' := cell_block hgst.box 1; have lc' := hgst.clt; clear hgst)
      go_ret
      exact DoPost.ok HOK.out rfl HG.out.gs
end Go.Proofs.Ytbenfbfbohecmaa
