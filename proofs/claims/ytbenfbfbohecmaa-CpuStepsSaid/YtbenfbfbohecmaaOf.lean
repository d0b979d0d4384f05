/- The contract of a core's port. No condition beyond the readings. -/
import Derived.Test.YtbenfbfbohecmaaOy
import Derived.Test.YtbenfbfbohecmaaAp
import Derived.Deep.RegionWith
import Derived.Deep.RegionLaw
import Derived.Deep.CutBlock
namespace Go.Proofs.Ytbenfbfbohecmaa
open Go Go.RowKit Go.ChangeShapes Go.WideShapes Go.Deep
set_option linter.unusedVariables false
attribute [local go_sem ↓] Go.wp_at_zero Go.wp_at_succ

/-- What port leaves. -/
def PortPost (St : World → (Nat → Prop) → List Int → Bool → Prop) (w0 : World) (D : Nat → Prop) (cb gr cr : Nat) (vm : Value) (m' : Mach) (en : Int) (x : Bool) (e : Ending) (w' : World) : Prop := e = .returned (.int .i64 en) ∧ GS St w0 D cb gr cr vm m' (-1) x w'

set_option maxHeartbeats 4000000 in
set_option maxRecDepth 100000 in
theorem port_clock {t fL fS : Nat} {v : Value} {St : World → (Nat → Prop) → List Int → Bool → Prop} (hM : MemI t fL fS v St) {w0 w : World} {D : Nat → Prop} {cb gr cr : Nat} {vm : Value} {m : Mach} {x : Bool} {ao : Option Addr} {co : Nat} {F : Nat → Prop} (h : GSt St w0 D cb gr cr vm m (-1) x ao co F w) (hm : MOk m) (a b : Nat) (n value : Int) (ha : a < 8) (hn : n = 0 ∨ n = 1) : Calls Try.prog 35 #[.pointer (some ⟨cb, 0, none⟩), .agg #[.int .i64 10, .int .i64 a, .int .i64 b, .int .i64 n], .int .i64 value] w (PortPost St w0 D cb gr cr vm (m.setReg a value) 0 x) := by
  have c0 : w.cell? ⟨cb, 0, none⟩ = some (.slice (some ⟨gr, 0, none⟩) 8 cr) := cell_block h.box 0
  have ra := h.reg_at ha
  have fa := h.reg_free a
  have lc := h.clt
  have lr := h.rlt
  have hne1 : ¬ gr = cb := h.rne
  have hne2 : ¬ cb = gr := fun e => h.rne e.symm
  have ha' : (a : Int) < 8 := by omega
  generalize hz : m.reg a = z at *
  have hn0 : (n == 0) = true ∨ ((n == 0) = false ∧ (n == 1) = true) := by
    rcases hn with rfl | rfl
    · exact Or.inl rfl
    · exact Or.inr ⟨rfl, rfl⟩
  clear hn
  have HH := Lib.hid h
  have HM := Lib.hid hM
  clear h hM hm
  go_enter Try.func35, Try.ntmps35
  go_wp2_with fail
  go_quiet (fail)
  rcases hn0 with h1 | ⟨h1, h2⟩
  · go_wp2_with fail
    go_region
    all_goals (go_wp2_with fail; go_ret; (first | exact ⟨rfl, GSt.gs (GSt.drew HM.out (GSt.setReg HM.out ((HH.out.alloc HM.out _).drewN HM.out _) a value))⟩ | exact ⟨rfl, GSt.gs (GSt.setReg HM.out (GSt.drew HM.out ((HH.out.alloc HM.out _).drewN HM.out _)) a value)⟩ | exact ⟨rfl, GSt.gs (GSt.setReg HM.out ((HH.out.alloc HM.out _).drewN HM.out _) a value)⟩))
  · go_wp2_with fail
    go_region
    all_goals (go_wp2_with fail; go_ret; (first | exact ⟨rfl, GSt.gs (GSt.drew HM.out (GSt.setReg HM.out ((HH.out.alloc HM.out _).drewN HM.out _) a value))⟩ | exact ⟨rfl, GSt.gs (GSt.setReg HM.out (GSt.drew HM.out ((HH.out.alloc HM.out _).drewN HM.out _)) a value)⟩ | exact ⟨rfl, GSt.gs (GSt.setReg HM.out ((HH.out.alloc HM.out _).drewN HM.out _) a value)⟩))
set_option maxHeartbeats 4000000 in
set_option maxRecDepth 100000 in
theorem port_state {t fL fS : Nat} {v : Value} {St : World → (Nat → Prop) → List Int → Bool → Prop} (hM : MemI t fL fS v St) {w0 w : World} {D : Nat → Prop} {cb gr cr : Nat} {vm : Value} {m : Mach} {x : Bool} {ao : Option Addr} {co : Nat} {F : Nat → Prop} (h : GSt St w0 D cb gr cr vm m (-1) x ao co F w) (hm : MOk m) (a b : Nat) (n value : Int) (ha : a < 8) : Calls Try.prog 35 #[.pointer (some ⟨cb, 0, none⟩), .agg #[.int .i64 10, .int .i64 a, .int .i64 b, .int .i64 2], .int .i64 value] w (PortPost St w0 D cb gr cr vm (m.setReg a m.ready) 0 x) := by
  have c0 : w.cell? ⟨cb, 0, none⟩ = some (.slice (some ⟨gr, 0, none⟩) 8 cr) := cell_block h.box 0
  have ra := h.reg_at ha
  have fa := h.reg_free a
  have lc := h.clt
  have lr := h.rlt
  have hne1 : ¬ gr = cb := h.rne
  have hne2 : ¬ cb = gr := fun e => h.rne e.symm
  have ha' : (a : Int) < 8 := by omega
  generalize hz : m.reg a = z at *
  have c10 : w.cell? ⟨cb, 10, none⟩ = some (.int .i64 m.ready) := cell_block h.box 10
  have HH := Lib.hid h
  have HM := Lib.hid hM
  clear h hM hm
  go_enter Try.func35, Try.ntmps35
  go_wp2_with fail
  go_quiet (fail)
  go_wp2_with fail
  go_region
  all_goals (go_wp2_with fail; go_ret; (first | exact ⟨rfl, GSt.gs (GSt.drew HM.out (GSt.setReg HM.out ((HH.out.alloc HM.out _).drewN HM.out _) a m.ready))⟩ | exact ⟨rfl, GSt.gs (GSt.setReg HM.out (GSt.drew HM.out ((HH.out.alloc HM.out _).drewN HM.out _)) a m.ready)⟩ | exact ⟨rfl, GSt.gs (GSt.setReg HM.out ((HH.out.alloc HM.out _).drewN HM.out _) a m.ready)⟩))
set_option maxHeartbeats 4000000 in
set_option maxRecDepth 100000 in
theorem port_none {t fL fS : Nat} {v : Value} {St : World → (Nat → Prop) → List Int → Bool → Prop} (hM : MemI t fL fS v St) {w0 w : World} {D : Nat → Prop} {cb gr cr : Nat} {vm : Value} {m : Mach} {x : Bool} {ao : Option Addr} {co : Nat} {F : Nat → Prop} (h : GSt St w0 D cb gr cr vm m (-1) x ao co F w) (hm : MOk m) (a b : Nat) (n value : Int) (ha : a < 8) (hn : ¬ (n = 0 ∨ n = 1)) (hn2 : ¬ n = 2) : Calls Try.prog 35 #[.pointer (some ⟨cb, 0, none⟩), .agg #[.int .i64 10, .int .i64 a, .int .i64 b, .int .i64 n], .int .i64 value] w (PortPost St w0 D cb gr cr vm (m) 3 x) := by
  have c0 : w.cell? ⟨cb, 0, none⟩ = some (.slice (some ⟨gr, 0, none⟩) 8 cr) := cell_block h.box 0
  have ra := h.reg_at ha
  have fa := h.reg_free a
  have lc := h.clt
  have lr := h.rlt
  have hne1 : ¬ gr = cb := h.rne
  have hne2 : ¬ cb = gr := fun e => h.rne e.symm
  have ha' : (a : Int) < 8 := by omega
  generalize hz : m.reg a = z at *
  have h0 : (n == 0) = false := by rw [beq_eq_false_iff_ne]; exact fun e => hn (Or.inl e)
  have h1 : (n == 1) = false := by rw [beq_eq_false_iff_ne]; exact fun e => hn (Or.inr e)
  have h2 : (n == 2) = false := by rw [beq_eq_false_iff_ne]; exact hn2
  clear hn hn2
  have HH := Lib.hid h
  have HM := Lib.hid hM
  clear h hM hm
  go_enter Try.func35, Try.ntmps35
  go_wp2_with fail
  go_quiet (fail)
  go_wp2_with fail
  go_ret
  (first | exact ⟨rfl, GSt.gs (((HH.out.alloc HM.out _).drewN HM.out _))⟩)
set_option maxHeartbeats 4000000 in
set_option maxRecDepth 100000 in
theorem port_full {t fL fS : Nat} {v : Value} {St : World → (Nat → Prop) → List Int → Bool → Prop} (hM : MemI t fL fS v St) {w0 w : World} {D : Nat → Prop} {cb gr cr : Nat} {vm : Value} {m : Mach} {x : Bool} {ao : Option Addr} {co : Nat} {F : Nat → Prop} (h : GSt St w0 D cb gr cr vm m (-1) x ao co F w) (hm : MOk m) (a b : Nat) (n value : Int) (ha : a < 8) (hl : ¬ m.out.length < 200) : Calls Try.prog 35 #[.pointer (some ⟨cb, 0, none⟩), .agg #[.int .i64 11, .int .i64 a, .int .i64 b, .int .i64 3], .int .i64 value] w (PortPost St w0 D cb gr cr vm (m) 0 x) := by
  have c0 : w.cell? ⟨cb, 0, none⟩ = some (.slice (some ⟨gr, 0, none⟩) 8 cr) := cell_block h.box 0
  have ra := h.reg_at ha
  have fa := h.reg_free a
  have lc := h.clt
  have lr := h.rlt
  have hne1 : ¬ gr = cb := h.rne
  have hne2 : ¬ cb = gr := fun e => h.rne e.symm
  have ha' : (a : Int) < 8 := by omega
  generalize hz : m.reg a = z at *
  have c9 : w.cell? ⟨cb, 9, none⟩ = some (.slice ao m.out.length co) := cell_block h.box 9
  have hl2 : ¬ (m.out.length : Int) < 200 := by omega
  clear hl
  have HH := Lib.hid h
  have HM := Lib.hid hM
  clear h hM hm
  go_enter Try.func35, Try.ntmps35
  go_wp2_with fail
  go_quiet (fail)
  go_wp2_with fail
  go_ret
  (first | exact ⟨rfl, GSt.gs (((HH.out.alloc HM.out _).drewN HM.out _))⟩)
set_option maxHeartbeats 4000000 in
set_option maxRecDepth 100000 in
theorem port_old {t fL fS : Nat} {v : Value} {St : World → (Nat → Prop) → List Int → Bool → Prop} (hM : MemI t fL fS v St) {w0 w : World} {D : Nat → Prop} {cb gr cr : Nat} {vm : Value} {m : Mach} {x : Bool} {ao : Option Addr} {co : Nat} {F : Nat → Prop} (h : GSt St w0 D cb gr cr vm m (-1) x ao co F w) (hm : MOk m) (a b : Nat) (n value : Int) (ha : a < 8) (hr : 0 ≤ m.reg a ∧ m.reg a < 16) (hw : ¬ m.want < 0) : Calls Try.prog 35 #[.pointer (some ⟨cb, 0, none⟩), .agg #[.int .i64 11, .int .i64 a, .int .i64 b, .int .i64 4], .int .i64 value] w (PortPost St w0 D cb gr cr vm (m) 0 x) := by
  have c0 : w.cell? ⟨cb, 0, none⟩ = some (.slice (some ⟨gr, 0, none⟩) 8 cr) := cell_block h.box 0
  have ra := h.reg_at ha
  have fa := h.reg_free a
  have lc := h.clt
  have lr := h.rlt
  have hne1 : ¬ gr = cb := h.rne
  have hne2 : ¬ cb = gr := fun e => h.rne e.symm
  have ha' : (a : Int) < 8 := by omega
  generalize hz : m.reg a = z at *
  have c11 : w.cell? ⟨cb, 11, none⟩ = some (.int .i64 m.want) := cell_block h.box 11
  obtain ⟨hr1, hr2⟩ := hr
  have HH := Lib.hid h
  have HM := Lib.hid hM
  clear h hM hm
  go_enter Try.func35, Try.ntmps35
  go_wp2_with fail
  go_quiet (fail)
  go_wp2_with fail
  go_ret
  (first | exact ⟨rfl, GSt.gs (((HH.out.alloc HM.out _).drewN HM.out _))⟩)
set_option maxHeartbeats 4000000 in
set_option maxRecDepth 100000 in
theorem port_want {t fL fS : Nat} {v : Value} {St : World → (Nat → Prop) → List Int → Bool → Prop} (hM : MemI t fL fS v St) {w0 w : World} {D : Nat → Prop} {cb gr cr : Nat} {vm : Value} {m : Mach} {x : Bool} {ao : Option Addr} {co : Nat} {F : Nat → Prop} (h : GSt St w0 D cb gr cr vm m (-1) x ao co F w) (hm : MOk m) (a b : Nat) (n value : Int) (ha : a < 8) (hr : 0 ≤ m.reg a ∧ m.reg a < 16) (hw : m.want < 0) : Calls Try.prog 35 #[.pointer (some ⟨cb, 0, none⟩), .agg #[.int .i64 11, .int .i64 a, .int .i64 b, .int .i64 4], .int .i64 value] w (PortPost St w0 D cb gr cr vm ({ m with want := m.reg a, ready := 0 }) 0 x) := by
  have c0 : w.cell? ⟨cb, 0, none⟩ = some (.slice (some ⟨gr, 0, none⟩) 8 cr) := cell_block h.box 0
  have ra := h.reg_at ha
  have fa := h.reg_free a
  have lc := h.clt
  have lr := h.rlt
  have hne1 : ¬ gr = cb := h.rne
  have hne2 : ¬ cb = gr := fun e => h.rne e.symm
  have ha' : (a : Int) < 8 := by omega
  generalize hz : m.reg a = z at *
  have c11 : w.cell? ⟨cb, 11, none⟩ = some (.int .i64 m.want) := cell_block h.box 11
  have f11 := free_block h.box 11
  have f10 := free_block h.box 10
  have c10 : w.cell? ⟨cb, 10, none⟩ = some (.int .i64 m.ready) := cell_block h.box 10
  obtain ⟨hr1, hr2⟩ := hr
  have HH := Lib.hid h
  have HM := Lib.hid hM
  clear h hM hm
  go_enter Try.func35, Try.ntmps35
  go_wp2_with fail
  go_quiet (fail)
  go_wp2_with fail
  go_ret
  (first | exact ⟨rfl, GSt.gs (GSt.put HM.out (GSt.put HM.out ((HH.out.alloc HM.out _).drewN HM.out _) 11 _ ({ m with want := z } : Mach) (-1) rfl rfl rfl rfl) 10 _ ({ m with want := z, ready := 0 } : Mach) (-1) rfl rfl rfl rfl)⟩)
set_option maxHeartbeats 4000000 in
set_option maxRecDepth 100000 in
theorem port_bad {t fL fS : Nat} {v : Value} {St : World → (Nat → Prop) → List Int → Bool → Prop} (hM : MemI t fL fS v St) {w0 w : World} {D : Nat → Prop} {cb gr cr : Nat} {vm : Value} {m : Mach} {x : Bool} {ao : Option Addr} {co : Nat} {F : Nat → Prop} (h : GSt St w0 D cb gr cr vm m (-1) x ao co F w) (hm : MOk m) (a b : Nat) (n value : Int) (ha : a < 8) (hn : ¬ n = 3) (hn4 : ¬ (n = 4 ∧ 0 ≤ m.reg a ∧ m.reg a < 16)) : Calls Try.prog 35 #[.pointer (some ⟨cb, 0, none⟩), .agg #[.int .i64 11, .int .i64 a, .int .i64 b, .int .i64 n], .int .i64 value] w (PortPost St w0 D cb gr cr vm (m) 3 x) := by
  have c0 : w.cell? ⟨cb, 0, none⟩ = some (.slice (some ⟨gr, 0, none⟩) 8 cr) := cell_block h.box 0
  have ra := h.reg_at ha
  have fa := h.reg_free a
  have lc := h.clt
  have lr := h.rlt
  have hne1 : ¬ gr = cb := h.rne
  have hne2 : ¬ cb = gr := fun e => h.rne e.symm
  have ha' : (a : Int) < 8 := by omega
  generalize hz : m.reg a = z at *
  have h3 : (n == 3) = false := by rw [beq_eq_false_iff_ne]; exact hn
  have h4 : (n == 4) = false ∨ ((n == 4) = true ∧ z < 0) ∨ ((n == 4) = true ∧ ¬ z < 0 ∧ 16 ≤ z) := by
    by_cases e : n = 4
    · have e1 : (n == 4) = true := by rw [e]; rfl
      rcases (show z < 0 ∨ (¬ z < 0 ∧ 16 ≤ z) by omega) with k | k
      · exact Or.inr (Or.inl ⟨e1, k⟩)
      · exact Or.inr (Or.inr ⟨e1, k⟩)
    · exact Or.inl (by rw [beq_eq_false_iff_ne]; exact e)
  clear hn hn4
  have HH := Lib.hid h
  have HM := Lib.hid hM
  clear h hM hm
  go_enter Try.func35, Try.ntmps35
  go_wp2_with fail
  go_quiet (fail)
  rcases h4 with h4 | ⟨h4, h5⟩ | ⟨h4, h5, h6⟩
  · go_wp2_with fail
    go_ret
    (first | exact ⟨rfl, GSt.gs (((HH.out.alloc HM.out _).drewN HM.out _))⟩)
  · go_wp2_with fail
    go_ret
    (first | exact ⟨rfl, GSt.gs (((HH.out.alloc HM.out _).drewN HM.out _))⟩)
  · go_wp2_with fail
    go_ret
    (first | exact ⟨rfl, GSt.gs (((HH.out.alloc HM.out _).drewN HM.out _))⟩)
theorem slv_one (w : World) (H : Nat) (z : Int) (hH : w.heap.size = H) : SlV 1 (H + 1) (w.alloc (.cells #[.int .i64 z] 3)) (.slice (some ⟨H, 0, none⟩) 1 1) [.int .i64 z] := by
  refine ⟨_, 1, rfl, by simp, by simp, fun i hi => ?_⟩
  obtain rfl : i = 0 := by simpa using hi
  exact ⟨H, 0, .int .i64 z, rfl, by omega, cell_block (alloc_at hH.symm) 0, rfl⟩
set_option maxHeartbeats 4000000 in
set_option maxRecDepth 100000 in
theorem port_tell {t fL fS : Nat} {v : Value} {St : World → (Nat → Prop) → List Int → Bool → Prop} (hM : MemI t fL fS v St) {w0 w : World} {D : Nat → Prop} {cb gr cr : Nat} {vm : Value} {m : Mach} {x : Bool} {ao : Option Addr} {co : Nat} {F : Nat → Prop} (h : GSt St w0 D cb gr cr vm m (-1) x ao co F w) (hm : MOk m) (a b : Nat) (n value : Int) (ha : a < 8) (hl : m.out.length < 200) : Calls Try.prog 35 #[.pointer (some ⟨cb, 0, none⟩), .agg #[.int .i64 11, .int .i64 a, .int .i64 b, .int .i64 3], .int .i64 value] w (PortPost St w0 D cb gr cr vm ({ m with out := m.out ++ [m.reg a] }) 0 x) := by
  have c0 : w.cell? ⟨cb, 0, none⟩ = some (.slice (some ⟨gr, 0, none⟩) 8 cr) := cell_block h.box 0
  have ra := h.reg_at ha
  have fa := h.reg_free a
  have lc := h.clt
  have lr := h.rlt
  have hne1 : ¬ gr = cb := h.rne
  have hne2 : ¬ cb = gr := fun e => h.rne e.symm
  have ha' : (a : Int) < 8 := by omega
  generalize hz : m.reg a = z at *
  have c9 : w.cell? ⟨cb, 9, none⟩ = some (.slice ao m.out.length co) := cell_block h.box 9
  have f9 := free_block h.box 9
  have hl2 : (m.out.length : Int) < 200 := by omega
  have HL := Lib.hid hl
  have HONE := Lib.hid h.one
  have HG := Lib.hid (fun O q => ((h.alloc hM O).drewN hM q).alloc hM (.cells #[.int .i64 z] 3))
  clear hl
  have HH := Lib.hid h
  have HM := Lib.hid hM
  clear h hM hm
  go_enter Try.func35, Try.ntmps35
  go_wp2_with fail
  go_quiet (fail)
  go_wp2_with (at_builtin; go_loud (refine wpList_append_all _ rfl (.tmp 83) (.tmp 85) 22 rfl 0 3 (.int .i64 0) 8 Try.underlying22 info_int rfl (.slice ao m.out.length co) m.out.length (m.out.map (Value.int .i64)) rfl (HG.out _ _).out (.slice (some ⟨_, 0, none⟩) 1 1) 1 _ [.int .i64 z] rfl (slv_one _ _ z (by simp)) (by simp [Value.oneCell']) (by have := HL.out; simp; unfold maxLen; omega) (by have := HL.out; simp; omega) (Nat.zero_le _) ?_); intro a5 c5 w5 hown5 hgrow5 hat5; have HX := GSt.tell HM.out (HG.out _ _) hgrow5 hown5 hat5; have hb5 := (hgrow5.block cb (HG.out _ _).clt (fun e => HONE.out e.symm)).trans (HG.out _ _).box; have f9' := free_block hb5 9; have c9' : w5.cell? ⟨cb, 9, none⟩ = some (.slice ao m.out.length co) := cell_block hb5 9; have lc5 : cb < w5.heap.size := (Array.getElem?_eq_some_iff.1 hb5).1; have HXX := Lib.hid HX; have e1 : m.out.length + [Value.int IntKind.i64 z].length = m.out.length + 1 := rfl; clear hown5 hgrow5 hat5 HX hb5)
  go_ret
  exact ⟨rfl, HXX.out.gs⟩
end Go.Proofs.Ytbenfbfbohecmaa
