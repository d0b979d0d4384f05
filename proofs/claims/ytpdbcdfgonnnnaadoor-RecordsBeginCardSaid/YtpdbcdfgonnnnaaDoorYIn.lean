/- Several texts joined, each with its own heading in the notes: The contract of instr: an instruction that may be. The contract of the keep's Image: words, at most 64 of them. No condition beyond those of each row. -/
import Derived.Test.YtpdbcdfgonnnnaaDoorYInB
import Derived.Test.YtpdbcdfgonnnnaaDoorYInA
import Derived.Test.YtpdbcdfgonnnnaaDoorYInF
import Derived.Test.YtpdbcdfgonnnnaaDoorYInH
import Derived.Test.YtpdbcdfgonnnnaaDoorYKa
import Derived.Test.YtpdbcdfgonnnnaaDoorYPk
import Derived.Test.YtpdbcdfgonnnnaaDoorYCl
namespace Go.Proofs.YtpdbcdfgonnnnaaDoor
open Go Go.RowKit Go.ChangeShapes Go.WideShapes Go.Deep
set_option linter.unusedVariables false
theorem instr_any (v : Value) (k a b c : Int) (w : World) (hv : RawR v k a b c) : Calls Tryd.prog 44 #[v] w (InPost w) := by
 have r := pick_rng k 24 (by omega)
 by_cases h1 : pickZ k 24 < 3
 · exact instr_0 v k a b c w hv (by omega)
 by_cases h2 : pickZ k 24 < 5
 ·
  have q := pick_rng (c.tdiv 8) 2 (by omega)
  rcases (show pickZ (c.tdiv 8) 2 = 0 ∨ pickZ (c.tdiv 8) 2 = 1 by omega) with e | e
  · exact instr_3_0 v k a b c w hv (by omega) e
  · exact instr_3_1 v k a b c w hv (by omega) e
 by_cases h3 : pickZ k 24 < 8
 · exact instr_5 v k a b c w hv (by omega)
 by_cases h4 : pickZ k 24 < 11
 · exact instr_8 v k a b c w hv (by omega)
 by_cases h5 : pickZ k 24 < 13
 · exact instr_11 v k a b c w hv (by omega)
 by_cases h6 : pickZ k 24 < 14
 · exact instr_13 v k a b c w hv (by omega)
 by_cases h7 : pickZ k 24 < 15
 · exact instr_14 v k a b c w hv (by omega)
 by_cases h8 : pickZ k 24 < 16
 · exact instr_15 v k a b c w hv (by omega)
 by_cases h9 : pickZ k 24 < 18
 · exact instr_16 v k a b c w hv (by omega)
 by_cases h10 : pickZ k 24 < 19
 · exact instr_18 v k a b c w hv (by omega)
 by_cases h11 : pickZ k 24 < 20
 ·
  have q := pick_rng c 2 (by omega)
  rcases (show pickZ c 2 = 0 ∨ pickZ c 2 = 1 by omega) with e | e
  · exact instr_19_0 v k a b c w hv (by omega) e
  · exact instr_19_1 v k a b c w hv (by omega) e
 by_cases h12 : pickZ k 24 < 21
 · exact instr_20 v k a b c w hv (by omega)
 by_cases h13 : pickZ k 24 < 22
 · exact instr_21 v k a b c w hv (by omega)
 by_cases h14 : pickZ k 24 < 23
 · exact instr_22 v k a b c w hv (by omega)
 have q := pick_rng c 5 (by omega)
 rcases (show pickZ c 5 = 0 ∨ pickZ c 5 = 1 ∨ pickZ c 5 = 2 ∨ pickZ c 5 = 3 ∨ pickZ c 5 = 4 by omega) with e | e | e | e | e
 · exact instr_23_0 v k a b c w hv (by omega) e
 · exact instr_23_1 v k a b c w hv (by omega) e
 · exact instr_23_2 v k a b c w hv (by omega) e
 · exact instr_23_3 v k a b c w hv (by omega) e
 · exact instr_23_4 v k a b c w hv (by omega) e
end Go.Proofs.YtpdbcdfgonnnnaaDoor
namespace Go.Proofs.YtpdbcdfgonnnnaaDoor
open Go Go.RowKit Go.ChangeShapes Go.WideShapes Go.Deep
set_option maxHeartbeats 4000000
set_option maxRecDepth 100000
set_option linter.unusedVariables false
attribute [local go_sem ↓] Go.wp_at_zero Go.wp_at_succ
def iProg : List Ins := [⟨9, 0, 0, 12⟩, ⟨15, 0, 0, 0⟩, ⟨15, 0, 0, 0⟩, ⟨15, 0, 0, 0⟩, ⟨15, 0, 0, 0⟩, ⟨15, 0, 0, 0⟩, ⟨15, 0, 0, 0⟩, ⟨15, 0, 0, 0⟩, ⟨4, 7, 7, 1⟩, ⟨11, 7, 0, 3⟩, ⟨13, 0, 0, 0⟩, ⟨15, 0, 0, 0⟩, ⟨12, 0, 0, 1⟩]
structure WOwn (base : Nat) (w : World) (a : Option Addr) (c : Nat) (n : Nat) (zs : List Int) : Prop where
 len : zs.length = n
 word : ∀ z ∈ zs, WordZ z
 own : w.ownsRow base 3 1 (.slice a n c) n (zs.map (Value.int .i64))
def ImagePost (w : World) (e : Ending) (w' : World) : Prop := ∃ a c n zs, e = .returned (.slice a n c) ∧ n ≤ 64 ∧ WOwn w.heap.size w' a c n zs ∧ Below w.heap.size w w'
theorem encs_word (l : List Ins) : ∀ z ∈ l.map Ins.enc, WordZ z := fun z hz => by
 obtain ⟨y, -, rfl⟩ := List.mem_map.1 hz
 exact encZ_WordZ _ _ _ _
theorem image_any (v : Value) (xs : List Rw) (w : World) (h : RawsR w.heap.size w v xs) : Calls Tryd.prog 18 #[v] w (ImagePost w) := by
 obtain ⟨a0, c0, rfl, hl, hlc, hcell⟩ := h
 have HC := Lib.hid hcell
 clear hcell
 go_enter Tryd.func18, Tryd.ntmps18
 go_wp2_with (go_at_call 43; refine (kwords_any _ iProg _ ?_).mono ?_; (exact insr_block (l := iProg) (alloc_at (by simp)) (by decide) (by decide)); rintro e w1 ⟨a1, c1, rfl, ho1, hb1⟩; have HO1 : Hid (WOwn w.heap.size w1 a1 c1 13 (iProg.map Ins.enc)) := (Lib.hid ⟨rfl, encs_word _, own_re ho1 (fun g hg => by have := (ho1.lt g hg).1; simp at this; omega)⟩); have HB1 : Hid (Below w.heap.size w w1) := (Lib.hid ((below_alloc3 w _ _ _).trans (hb1.mono (by simp; omega)))); clear ho1 hb1)
 go_loopg [5, 6] 50 (fun gg s5 s6 wr => ∃ (i : Nat) (n : Nat) (zs : List Int) (a1 : Option Addr) (c1 : Nat), i ≤ 50 ∧ i ≤ xs.length ∧ 50 - i ≤ gg ∧ n = 13 + i ∧ s6 = .int .i64 i ∧ s5 = .slice a1 n c1 ∧ Hid (WOwn w.heap.size wr a1 c1 n zs) ∧ Hid (Below w.heap.size w wr))
 case atStart => exact ⟨0, 13, _, _, _, by omega, by omega, by omega, rfl, rfl, rfl, HO1, HB1⟩
 case round =>
  obtain ⟨i, n, zs, a1', c1', hi50, hil, hg, hn, rfl, rfl, HO, HB⟩ := hrel
  have HN := Lib.hid hn
  have hn64 : n ≤ 63 := by omega
  clear HO1 HB1 hn
  by_cases hlt : i < xs.length ∧ i < 50
  ·
   obtain ⟨hx, h50⟩ := hlt
   obtain ⟨b, off, cs, ha, hbb, hcs, hcl, hraw⟩ := HC.out i hx
   obtain ⟨hcs2, r1, r2, r3, r4⟩ := hraw
   subst ha hcs2
   have HSB := Lib.hid (fun o => same_below HB.out b o hbb)
   have q0 : wr.cell? ⟨b, off + i * 4, none⟩ = some (.int .i64 xs[i].k) := (HSB.out _).trans (hcl 0 (by simp))
   have q1 : wr.cell? ⟨b, off + i * 4 + 1, none⟩ = some (.int .i64 xs[i].a) := (HSB.out _).trans (hcl 1 (by simp))
   have q2 : wr.cell? ⟨b, off + i * 4 + 2, none⟩ = some (.int .i64 xs[i].b) := (HSB.out _).trans (hcl 2 (by simp))
   have q3 : wr.cell? ⟨b, off + i * 4 + 3, none⟩ = some (.int .i64 xs[i].c) := (HSB.out _).trans (hcl 3 (by simp))
   have hbw : b < wr.heap.size := Nat.lt_of_lt_of_le hbb HB.out.size
   have HIN := Lib.hid (fun w => instr_any (.agg #[.int .i64 xs[i].k, .int .i64 xs[i].a, .int .i64 xs[i].b, .int .i64 xs[i].c]) xs[i].k xs[i].a xs[i].b xs[i].c w ⟨rfl, r1, r2, r3, r4⟩)
   clear hcl hcs
   generalize xs[i] = x at *
   obtain ⟨x1, x2, x3, x4⟩ := x
   simp only at q0 q1 q2 q3 HIN
   have hii : (i : Int) < (xs.length : Int) := by omega
   have hi5 : (i : Int) < 50 := by omega
   go_wp2_with (first
    | (go_at_call 44; refine (HIN.out _).mono ?_; rintro e w2 ⟨op, ia, ib, iN, rfl, -, hb2⟩; have HO2 := Lib.hid (own_below HO.out.own hb2 (Nat.le_refl _)); have HB2 := Lib.hid (HB.out.trans (hb2.mono HB.out.size)); clear hb2)
    | (go_at_call 43; refine (kwords_any _ [⟨op, ia, ib, iN⟩] _ ?_).mono ?_; (exact insr_block (l := [⟨op, ia, ib, iN⟩]) (alloc_at rfl) (by simp) (by simp)); rintro e w3 ⟨a3, c3, rfl, ho3, hb3⟩; have HO3 := Lib.hid (own_below (own_below HO2.out (below_alloc w2 _) (Nat.le_refl _)) hb3 (Nat.le_refl _)); have HB3 := Lib.hid ((HB2.out.alloc HB2.out.size _).trans (hb3.mono (HB2.out.alloc HB2.out.size _).size)); have hs3 := HB3.out.size; have HI3 : Hid (Ints w3.heap.size w3 (.slice a3 1 c3) [Ins.enc ⟨op, ia, ib, iN⟩]) := (Lib.hid (ints_of_owns ho3 (by simp) (fun z hz => (encs_word [⟨op, ia, ib, iN⟩] z hz).i64))); clear ho3 hb3)
    | (at_builtin; go_loud (refine wpList_append_all w3 rfl (.tmp 34) (.tmp 41) 24 rfl w.heap.size 3 (.int .i64 0) 8 Tryd.underlying24 info_int rfl (.slice a1' n c1') n (zs.map (Value.int .i64)) rfl HO3.out (.slice a3 1 c3) 17592186043904 w3.heap.size ([Ins.enc ⟨op, ia, ib, iN⟩].map (Value.int .i64)) rfl HI3.out.vals (ints_one _) (by simp; unfold maxLen; omega) (by simp; omega) hs3 ?_); intro a4 c4 w4 hown4 hgrow4 hat4))
   go_roundg (50 - (i + 1))
   case measure => omega
   case rel => exact ⟨i + 1, n + 1, zs ++ [Ins.enc ⟨op, ia, ib, iN⟩], a4, c4, by omega, by omega, by omega, by (have := HN.out; omega), by go_num, rfl, Lib.hid ⟨by simp [HO.out.len], fun z hz => by rcases List.mem_append.1 hz with hz | hz; exact HO.out.word z hz; exact encs_word [⟨op, ia, ib, iN⟩] z hz, by rw [List.map_append]; exact hown4⟩, Lib.hid (below_grown HB3.out HO3.out hgrow4 hs3 (Nat.le_refl _))⟩
  ·
   by_cases hx : i < xs.length
   ·
    have h50 : i = 50 := by omega
    have hii : (i : Int) < (xs.length : Int) := by omega
    have hi5 : ¬ (i : Int) < 50 := by omega
    have hmn : min (xs.length : Int) 50 = 50 := by omega
    go_wp2_with (first
     | (go_at_call 43; refine (kwords_any _ [⟨9, 0, 0, -50⟩] _ ?_).mono ?_; (exact insr_block (l := [⟨9, 0, 0, -50⟩]) (alloc_at rfl) (by simp) (by simp)); rintro e w3 ⟨a3, c3, rfl, ho3, hb3⟩; have HO3 := Lib.hid (own_below (own_below HO.out.own (below_alloc wr _) (Nat.le_refl _)) hb3 (Nat.le_refl _)); have HB3 := Lib.hid ((HB.out.alloc HB.out.size _).trans (hb3.mono (HB.out.alloc HB.out.size _).size)); have hs3 := HB3.out.size; have HI3 : Hid (Ints w3.heap.size w3 (.slice a3 1 c3) [Ins.enc ⟨9, 0, 0, -50⟩]) := (Lib.hid (ints_of_owns ho3 (by simp) (fun z hz => (encs_word [⟨9, 0, 0, -50⟩] z hz).i64))); clear ho3 hb3)
     | (at_builtin; go_loud (refine wpList_append_all w3 rfl (.tmp 43) (.tmp 50) 24 rfl w.heap.size 3 (.int .i64 0) 8 Tryd.underlying24 info_int rfl (.slice a1' n c1') n (zs.map (Value.int .i64)) rfl HO3.out (.slice a3 1 c3) 17592186043904 w3.heap.size ([Ins.enc ⟨9, 0, 0, -50⟩].map (Value.int .i64)) rfl HI3.out.vals (ints_one _) (by simp; unfold maxLen; omega) (by simp; omega) hs3 ?_); intro a4 c4 w4 hown4 hgrow4 hat4))
    go_ret
    exact ⟨a4, c4, n + 1, zs ++ [Ins.enc ⟨9, 0, 0, -50⟩], rfl, by omega, ⟨by simp [HO.out.len], fun z hz => by rcases List.mem_append.1 hz with hz | hz; exact HO.out.word z hz; exact encs_word [⟨9, 0, 0, -50⟩] z hz, by rw [List.map_append]; exact hown4⟩, below_grown HB3.out HO3.out hgrow4 hs3 (Nat.le_refl _)⟩
   ·
    have hil2 : i = xs.length := by omega
    have hii : ¬ (i : Int) < (xs.length : Int) := by omega
    have hmn : min (xs.length : Int) 50 = (xs.length : Int) := by omega
    have hwn : IntKind.i64.wrap (-(xs.length : Int)) = -(xs.length : Int) := IntWalk.i64_in _ (by omega)
    go_wp2_with (first
     | (go_at_call 43; refine (kwords_any _ [⟨9, 0, 0, -(xs.length : Int)⟩] _ ?_).mono ?_; (exact insr_block (l := [⟨9, 0, 0, -(xs.length : Int)⟩]) (alloc_at rfl) (by simp) (by simp)); rintro e w3 ⟨a3, c3, rfl, ho3, hb3⟩; have HO3 := Lib.hid (own_below (own_below HO.out.own (below_alloc wr _) (Nat.le_refl _)) hb3 (Nat.le_refl _)); have HB3 := Lib.hid ((HB.out.alloc HB.out.size _).trans (hb3.mono (HB.out.alloc HB.out.size _).size)); have hs3 := HB3.out.size; have HI3 : Hid (Ints w3.heap.size w3 (.slice a3 1 c3) [Ins.enc ⟨9, 0, 0, -(xs.length : Int)⟩]) := (Lib.hid (ints_of_owns ho3 (by simp) (fun z hz => (encs_word [⟨9, 0, 0, -(xs.length : Int)⟩] z hz).i64))); clear ho3 hb3)
     | (at_builtin; go_loud (refine wpList_append_all w3 rfl (.tmp 43) (.tmp 50) 24 rfl w.heap.size 3 (.int .i64 0) 8 Tryd.underlying24 info_int rfl (.slice a1' n c1') n (zs.map (Value.int .i64)) rfl HO3.out (.slice a3 1 c3) 17592186043904 w3.heap.size ([Ins.enc ⟨9, 0, 0, -(xs.length : Int)⟩].map (Value.int .i64)) rfl HI3.out.vals (ints_one _) (by simp; unfold maxLen; omega) (by simp; omega) hs3 ?_); intro a4 c4 w4 hown4 hgrow4 hat4))
    go_ret
    exact ⟨a4, c4, n + 1, zs ++ [Ins.enc ⟨9, 0, 0, -(xs.length : Int)⟩], rfl, by omega, ⟨by simp [HO.out.len], fun z hz => by rcases List.mem_append.1 hz with hz | hz; exact HO.out.word z hz; exact encs_word [⟨9, 0, 0, -(xs.length : Int)⟩] z hz, by rw [List.map_append]; exact hown4⟩, below_grown HB3.out HO3.out hgrow4 hs3 (Nat.le_refl _)⟩
end Go.Proofs.YtpdbcdfgonnnnaaDoor
