/- The law hourglasskeep.Blocks returns true at every two numbers. No condition. -/
import Derived.Test.YtojdpegkbndklaaRows
import Derived.Test.YtojdpegkbndklaaOpen
import Derived.Test.YtojdpegkbndklaaFacts
import Derived.WalkKit
import Derived.ProofKit
import Derived.OpenShut
import Derived.ShutString
import Derived.ChangeOld
import Derived.Below
import Derived.Test.YtojdpegkbndklaaKe
import Derived.Test.YtojdpegkbndklaaPk
namespace Go.Proofs.Ytojdpegkbndklaa.lBlocks
open Go Go.RowKit Go.ChangeShapes Go.WideShapes Go.ChangeAt Go.Deep
open Go.ChangeMaps (open_string shut_string)
set_option linter.unusedVariables false
attribute [local go_sem ↓] Go.wp_at_zero Go.wp_at_succ

def prog : List Ins := [⟨11, 0, 0, 4⟩, ⟨10, 1, 0, 2⟩, ⟨10, 2, 0, 2⟩]
def smem : List Int := prog.map Ins.enc ++ List.replicate 253 0
def mk (mem regs : List Int) (pc ready want c : Int) (wait : Bool) : Mach := ⟨regs, pc, 0, false, wait, -1, c, 0, mem, [], ready, want⟩
def m0 (k : Int) : Mach := mk smem [k, 0, 0, 0, 0, 0, 0, 0] 0 0 (-1) 0 false
def mA (k : Int) : Mach := mk smem [k, 0, 0, 0, 0, 0, 0, 0] 1 0 k 1 false
def mC (k : Int) : Mach := mk smem [k, 0, 0, 0, 0, 0, 0, 0] 2 0 k 2 false
def mX (k : Int) (b : List Int) : Mach := mk (blit smem (k * 16).toNat b) [k, 0, 0, 0, 0, 0, 0, 0] 2 1 (-1) 2 true
def mD (k : Int) (b : List Int) : Mach := mk (blit smem (k * 16).toNat b) [k, 0, 1, 0, 0, 0, 0, 0] 3 1 (-1) 3 true
def bl (v : Int) : List Int := (List.range 16).map (fun (i : Nat) => foldZ (v.tmod 1000 + (i : Int)))
theorem bl_len (v : Int) : (bl v).length = 16 := by unfold bl; rw [List.length_map, List.length_range]
theorem bl_word (v : Int) : ∀ z ∈ bl v, WordZ z := by
  intro z hz
  obtain ⟨i, -, rfl⟩ := List.mem_map.1 hz
  exact foldZ_bd _
theorem smem_len : smem.length = 256 := image_len (prog.map Ins.enc) (by decide)
theorem m0_is (k : Int) (h0 : 1 ≤ k) (h1 : k < 16) : gM [k] (prog.map Ins.enc) = m0 k := by
  have e1 : gf k = k := by unfold gf; rw [Int.tmod_eq_of_lt (by omega) (by omega), foldZ_id (by omega) (by omega)]
  show mk smem [gf k, 0, 0, 0, 0, 0, 0, 0] 0 0 (-1) 0 false = _
  rw [e1]; rfl
theorem st0 {k : Int} (h0 : 1 ≤ k) (h1 : k < 16) : stepM (m0 k) false [] 0 = (mA k, -1) := by
  rw [step_at (m := m0 k) (op := 11) (a := 0) (b := 0) (n := 4) rfl (Or.inl rfl) (by decide : (-1 : Int) < 0) (by decide : (0 : Int) ≤ 0 ∧ (0 : Int) < 256) rfl (by decide)]
  have hd : doM (m0 k) 11 0 0 4 0 = ((if (m0 k).want < 0 then ({ m0 k with want := (m0 k).reg 0, ready := 0 } : Mach) else m0 k).goTo ((m0 k).pc + 1), 0, -1) := by
    have hk : (4 : Int) = 4 ∧ 0 ≤ (m0 k).reg 0 ∧ (m0 k).reg 0 < 16 := ⟨rfl, (by show (0 : Int) ≤ k; omega), (by show k < 16; omega)⟩
    unfold doM
    rw [if_neg (by decide), if_neg (by decide), if_neg (by decide), if_neg (by decide), if_neg (by decide), if_neg (by decide), if_neg (by decide), if_neg (by decide), if_neg (by decide), if_neg (by decide), if_neg (by decide), if_pos rfl, if_neg (by decide), if_pos hk]
  rw [hd]
  rfl
theorem stB {k : Int} (b : List Int) (h0 : 1 ≤ k) (h1 : k < 16) : stepM (m0 k) false b 0 = (mA k, -1) := by
  rw [← st0 h0 h1]
  have e1 : blockM (irqM (m0 k) false) b = irqM (m0 k) false := by
    unfold blockM
    by_cases hb : b.length = 0
    · rw [if_pos hb]
    · rw [if_neg hb]; rfl
  have e2 : blockM (irqM (m0 k) false) [] = irqM (m0 k) false := rfl
  unfold stepM
  rw [e1, e2]
theorem st2 (k : Int) : stepM (mA k) false [] 0 = (mC k, -1) :=
  (step_at (m := mA k) (op := 10) (a := 1) (b := 0) (n := 2) rfl (Or.inl rfl) (by decide : (-1 : Int) < 0) (by decide : (0 : Int) ≤ 1 ∧ (1 : Int) < 256) rfl (by decide)).trans rfl
theorem st3 {k : Int} (b : List Int) (hb : b.length = 16) (h0 : 1 ≤ k) (h1 : k < 16) : stepM (mC k) false b 0 = (mD k b, -1) := by
  have hx : stepM (mX k b) false [] 0 = (mD k b, -1) := by
    have hmem : (mX k b).mem.getD (mX k b).pc.toNat 0 = encZ 10 2 0 2 := by
      show (blit smem (k * 16).toNat b).getD 2 0 = _
      rw [List.getD_eq_getElem?_getD, blit_get (by rw [smem_len]; omega), if_pos (by omega)]
      rfl
    exact (step_at (m := mX k b) (op := 10) (a := 2) (b := 0) (n := 2) rfl (Or.inr rfl) (by decide : (-1 : Int) < 0) (by decide : (0 : Int) ≤ 2 ∧ (2 : Int) < 256) hmem (by decide)).trans rfl
  rw [← hx]
  have e1 : irqM (mC k) false = mC k := rfl
  have e2 : blockM (mC k) b = mX k b := by
    unfold blockM
    rw [if_neg (by omega)]
    unfold comesM
    have hn : ¬ ((mC k).want < 0 ∨ (mC k).fin ≠ 0) := by
      rintro (h | h)
      · have h' : k < 0 := h; omega
      · exact h rfl
    rw [if_neg hn]
    rfl
  have e3 : enterM (mX k b) = mX k b := rfl
  have e4 : irqM (mX k b) false = mX k b := rfl
  have e5 : blockM (mX k b) [] = mX k b := rfl
  unfold stepM
  rw [e1, e2, e3, e4, e5, e3]
structure Plain (k : Int) (b : List Int) : Prop where
  o0 : MOk (m0 k)
  oA : MOk (mA k)
  oC : MOk (mC k)
  oD : MOk (mD k b)
  z3 : smem.getD ((k * 16).toNat + 3) 0 = 0
  at_ : ∀ (i : Nat) (hi : i < b.length), (mD k b).mem.getD ((k * 16).toNat + i) 0 = b[i]
theorem plain {k : Int} {b : List Int} (hb : b.length = 16) (hw : ∀ z ∈ b, WordZ z) (h0 : 1 ≤ k) (h1 : k < 16) : Plain k b := by
  have o0 : MOk (m0 k) := by rw [← m0_is k h0 h1]; exact gM_ok (rs := [k]) (l := prog) (by simp) (by decide)
  have oA : MOk (mA k) := by have := stepM_ok o0 false (b := []) 0 (Or.inl rfl) (fun z hz => by cases hz) (by unfold WordZ; omega) (by decide : (0 : Int) < 1099511627776); rw [st0 h0 h1] at this; exact this
  have oC : MOk (mC k) := by have := stepM_ok oA false (b := []) 0 (Or.inl rfl) (fun z hz => by cases hz) (by unfold WordZ; omega) (by decide : (1 : Int) < 1099511627776); rw [st2] at this; exact this
  have oD : MOk (mD k b) := by have := stepM_ok oC false (b := b) 0 (Or.inr hb) hw (by unfold WordZ; omega) (by decide : (2 : Int) < 1099511627776); rw [st3 b hb h0 h1] at this; exact this
  refine ⟨o0, oA, oC, oD, ?_, ?_⟩
  · have hk : k = 1 ∨ k = 2 ∨ k = 3 ∨ k = 4 ∨ k = 5 ∨ k = 6 ∨ k = 7 ∨ k = 8 ∨ k = 9 ∨ k = 10 ∨ k = 11 ∨ k = 12 ∨ k = 13 ∨ k = 14 ∨ k = 15 := by omega
    rcases hk with rfl | rfl | rfl | rfl | rfl | rfl | rfl | rfl | rfl | rfl | rfl | rfl | rfl | rfl | rfl <;> rfl
  · intro i hi
    show (blit smem (k * 16).toNat b).getD ((k * 16).toNat + i) 0 = b[i]
    rw [List.getD_eq_getElem?_getD, blit_get (by rw [smem_len]; omega), if_neg (by omega), if_pos (by omega), show (k * 16).toNat + i - (k * 16).toNat = i by omega, List.getElem?_eq_getElem hi]
    rfl

theorem step_of {m m' : Mach} {b : List Int} (hok : MOk m) (hl : b.length = 0 ∨ b.length = 16) (hw : ∀ z ∈ b, WordZ z) (hc : m.count < 1099511627776) (hs : stepM m false b 0 = (m', -1)) (w : World) (u vb : Value) (hm : MachR w.heap.size w u m) (hb : Ints w.heap.size w vb b) : Calls Try.prog 11 #[u, .bool false, vb, .int .i64 0] w (GoodPost (m', -1) w) := by
  have h := step_good u vb m false b 0 w hm hb (by unfold WordZ; omega) hok hl hw hc
  rw [hs] at h
  exact h
set_option maxHeartbeats 8000000 in
set_option maxRecDepth 100000 in
theorem walk (W : World) (p : Int) (hp : I64 p) (v : Int) (hv : I64 v) : Calls Try.prog 8 #[.int .i64 p, .int .i64 v] W fun e W' => e = .returned (.bool true) ∧ Below W.heap.size W W' := by
  have HPA := Lib.hid (fun w => picked_any p 15 w hp.1 hp.2 (by omega) (by omega))
  have ra := pick_rng p 15 (by omega)
  generalize pickZ p 15 = pa at *
  have v1 : IntKind.i64.wrap (1 + pa) = 1 + pa := IntWalk.i64_in _ (by omega)
  clear hp hv
  go_enter Try.func8, Try.ntmps8
  go_upto_region 4 with (first
    | (go_at_call 14; refine (tells_cpu _).mono ?_; rintro e w1 ⟨rfl, hb1⟩; have HB1 := Lib.hid hb1; have hs1 := hb1.size; clear hb1)
    | (go_at_call 16; (with_reducible refine (HPA.out _).mono ?_); rintro e w' ⟨rfl, rfl⟩))
  obtain ⟨k, hk⟩ : ∃ k, k = 1 + pa := ⟨_, rfl⟩
  rw [← hk]
  have k0 : 1 ≤ k := by omega
  have k1 : k < 16 := by omega
  clear v1 ra HPA hk
  have HPL := Lib.hid (plain (bl_len v) (bl_word v) k0 k1)
  have HG : Hid (∀ vr vl w, Ints w.heap.size w vr [k] → InsR w.heap.size w vl prog → Calls Try.prog 15 #[vr, vl] w (GuestPost w (m0 k))) := Lib.hid (fun vr vl w hr hl => by
    rw [← m0_is k k0 k1]
    exact guest_any vr vl [k] prog w hr (by decide : 1 ≤ 8) hl (by decide) (of_words (fun z hz => by obtain ⟨y, -, rfl⟩ := List.mem_map.1 hz; exact encZ_WordZ _ _ _ _)))
  have HIJ : Hid (∀ z ∈ [k], I64 z) := Lib.hid (fun z hz => by simp at hz; unfold I64; omega)
  have HS1 := Lib.hid (step_of HPL.out.o0 (Or.inr (bl_len v)) (bl_word v) (by decide : (0 : Int) < 1099511627776) (stB (bl v) k0 k1))
  have HS2 := Lib.hid (step_of HPL.out.o0 (Or.inl rfl) (fun z hz => by cases hz) (by decide : (0 : Int) < 1099511627776) (st0 k0 k1))
  have HS3 := Lib.hid (step_of HPL.out.oA (Or.inl rfl) (fun z hz => by cases hz) (by decide : (1 : Int) < 1099511627776) (st2 k))
  have HS4 := Lib.hid (step_of HPL.out.oC (Or.inr (bl_len v)) (bl_word v) (by decide : (2 : Int) < 1099511627776) (st3 (bl v) (bl_len v) k0 k1))
  go_upto_region 5 with (go_at_call 15; refine (HG.out _ _ _ ?_ ?_).mono ?_; (exact ints_block (zs := [k]) ((alloc_lt (by simp)).trans (alloc_at rfl)) (by simp) (by simp) HIJ.out); (exact insr_block (l := prog) (alloc_at (by simp)) (by decide) (by decide)); rintro e w3 ⟨ar, cr, am, cm, ao, co, he, hown, hb3⟩; have HB3 := Lib.hid (show Below W.heap.size W w3 from ((HB1.out.alloc hs1 _).alloc (by simp; omega) _).trans (hb3.mono (by simp; omega))); rw [Mach.agg, HPL.out.o0.regs, HPL.out.o0.mem] at he; subst he; have HOWN := Lib.hid hown; clear hown hb3)
  obtain ⟨gr, mb, rfl, rfl, hb0⟩ := KBox.start HPL.out.o0 HOWN.out (Or.inr (Nat.le_refl _)) ((OutF.refl _ w3).alloc _) (alloc_at rfl)
  have HB0 := Lib.hid hb0
  have HB4' := Lib.hid (fun O => HB3.out.alloc HB3.out.size O)
  clear hb0 HOWN HG HIJ
  generalize hW4 : w3.alloc _ = w4 at *
  have HB4 : Hid (Below W.heap.size W w4) := Lib.hid (by rw [← hW4]; exact HB4'.out _)
  clear HB4' HB3
  generalize hgb : w3.heap.size = gb at *
  clear hW4 hgb
  have mk16 : (Instr.makeSlice 22 (.int .i64 16) (.int .i64 16)).run Try.prog w4 = .ok (.slice (some ⟨w4.heap.size, 0, none⟩) 16 16) (w4.alloc (.cells (zeroInts 16) 3)) := mk_ints 16 (by omega) (by omega) w4
  have HZ0 := Lib.hid (own_block (w := w4.alloc (.cells (zeroInts 16) 3)) (g := w4.heap.size) (base := 0) (n := 16) (zs := List.replicate 16 0) (by rw [zeroInts_eq]; exact alloc_at rfl) (Nat.zero_le _) rfl (by omega))
  go_wp2_with fail
  have hbk := Lib.hid (below_alloc w4 (.cells (zeroInts 16) 3))
  generalize hkb : w4.heap.size = kb at *
  generalize w4.alloc (.cells (zeroInts 16) 3) = w5 at *
  go_loopg [41] 16 (fun gg s41 wr => ∃ i : Nat, i ≤ 16 ∧ 16 - i ≤ gg ∧ s41 = .int .i64 i ∧ Hid (wr.ownsRow 0 3 1 (.slice (some ⟨kb, 0, none⟩) 16 16) 16 ((blit (List.replicate 16 0) 0 ((bl v).take i)).map (Value.int .i64))) ∧ Hid (Below kb w4 wr))
  case atStart => exact ⟨0, by omega, by omega, rfl, Lib.hid (by rw [List.take_zero, blit_nil]; exact HZ0.out), hbk⟩
  case round =>
    obtain ⟨i, hi, hg, rfl, HO, HBW⟩ := hrel
    by_cases hlt : i < 16
    · have hil : i < (bl v).length := by rw [bl_len]; exact hlt
      have HNX := Lib.hid (blit_step (mem := List.replicate 16 (0 : Int)) (k := 0) hil (by rw [bl_len]; decide))
      have hbi : (bl v)[i] = foldZ (v.tmod 1000 + (i : Int)) := by simp [bl]
      rw [hbi] at HNX
      have hm1 := Int.tmod_lt_of_pos v (b := 1000) (by omega)
      have hm2 := Int.lt_tmod_of_pos v (b := 1000) (by omega)
      have HF := Lib.hid (fun w => fold_any (v.tmod 1000 + (i : Int)) w (by omega) (by omega))
      have x1 : IntKind.i64.wrap (v.tmod 1000) = v.tmod 1000 := IntWalk.i64_in _ (by omega)
      have x2 : IntKind.i64.wrap (v.tmod 1000 + (i : Int)) = v.tmod 1000 + (i : Int) := IntWalk.i64_in _ (by omega)
      have ci := own_cellAt HO.out (k := i) hlt
      have fi := HO.out.frozenAt i
      have hi16 : (i : Int) < 16 := by omega
      have lk := (HO.out.lt kb rfl).2
      clear hbi hil
      generalize foldZ (v.tmod 1000 + (i : Int)) = fz at *
      generalize List.getD (blit (List.replicate 16 0) 0 ((bl v).take i)) i 0 = oldz at *
      go_wp2_with (go_at_call 17; refine (HF.out _).mono ?_; rintro e w' ⟨rfl, rfl⟩)
      go_roundg (16 - (i + 1))
      case measure => omega
      case rel => exact ⟨i + 1, by omega, by omega, by go_num, Lib.hid (by rw [← HNX.out, List.map_set, Nat.zero_add]; exact (HO.out.stored i (.int .i64 fz)).1), Lib.hid (HBW.out.setCell (Nat.le_refl _) _)⟩
    · have hi16 : i = 16 := by omega
      subst hi16
      have e16 : blit (List.replicate 16 (0 : Int)) 0 ((bl v).take 16) = bl v := by
        rw [List.take_of_length_le (by rw [bl_len]; decide)]
        unfold blit
        rw [bl_len]
        rfl
      rw [e16] at HO
      have HKW := Lib.hid (HB0.out.kept (by rw [hkb]; exact HBW.out))
      have HWW : Hid (Below W.heap.size W wr) := Lib.hid (HB4.out.trans (HBW.out.mono (by rw [← hkb]; exact HB4.out.size)))
      have HIB : Hid (Ints wr.heap.size wr (.slice (some ⟨kb, 0, none⟩) 16 16) (bl v)) := Lib.hid (by
        have h := HO.out
        rw [show (16 : Nat) = (bl v).length from (bl_len v).symm] at h
        have h2 := ints_of_owns h (by rw [bl_len]; decide) (fun z hz => (bl_word v z hz).i64)
        rw [bl_len] at h2
        exact h2)
      have HMRW := Lib.hid (HKW.out.machR HPL.out.o0)
      have p0 : wr.cell? ⟨gb, 0, none⟩ = some (.slice (some ⟨gr, 0, none⟩) 8 cr) := cell_block HKW.out.box 0
      have p1 : wr.cell? ⟨gb, 1, none⟩ = some (.int .i64 (m0 k).pc) := cell_block HKW.out.box 1
      have p2 : wr.cell? ⟨gb, 2, none⟩ = some (.int .i64 (m0 k).back) := cell_block HKW.out.box 2
      have p3 : wr.cell? ⟨gb, 3, none⟩ = some (.bool (m0 k).ints) := cell_block HKW.out.box 3
      have p4 : wr.cell? ⟨gb, 4, none⟩ = some (.bool (m0 k).wait) := cell_block HKW.out.box 4
      have p5 : wr.cell? ⟨gb, 5, none⟩ = some (.int .i64 (m0 k).table) := cell_block HKW.out.box 5
      have p6 : wr.cell? ⟨gb, 6, none⟩ = some (.int .i64 (m0 k).count) := cell_block HKW.out.box 6
      have p7 : wr.cell? ⟨gb, 7, none⟩ = some (.int .i64 (m0 k).fin) := cell_block HKW.out.box 7
      have p8 : wr.cell? ⟨gb, 8, none⟩ = some (.slice (some ⟨mb, 0, none⟩) 256 cm) := cell_block HKW.out.box 8
      have p9 : wr.cell? ⟨gb, 9, none⟩ = some (.slice ao (m0 k).out.length co) := cell_block HKW.out.box 9
      have p10 : wr.cell? ⟨gb, 10, none⟩ = some (.int .i64 (m0 k).ready) := cell_block HKW.out.box 10
      have p11 : wr.cell? ⟨gb, 11, none⟩ = some (.int .i64 (m0 k).want) := cell_block HKW.out.box 11
      have lgbw := HKW.out.blt
      go_upto_region 15 with (first
        | (go_at_call 11; (with_reducible refine (HS1.out _ _ _ ?_ ?_).mono ?_); exact HMRW.out; exact HIB.out; rintro e w6 ⟨ar6, cr6, am6, cm6, ao6, co6, he, hown, hb6⟩; dsimp only at he hown; rw [HPL.out.oA.regs, HPL.out.oA.mem] at he; subst he; have HK6 := Lib.hid (HKW.out.kept hb6); have x6 := HK6.out.box; have r0 : w6.cell? ⟨gb, 0, none⟩ = some (.slice (some ⟨gr, 0, none⟩) 8 cr) := cell_block x6 0; have r1 : w6.cell? ⟨gb, 1, none⟩ = some (.int .i64 (m0 k).pc) := cell_block x6 1; have r2 : w6.cell? ⟨gb, 2, none⟩ = some (.int .i64 (m0 k).back) := cell_block x6 2; have r3 : w6.cell? ⟨gb, 3, none⟩ = some (.bool (m0 k).ints) := cell_block x6 3; have r4 : w6.cell? ⟨gb, 4, none⟩ = some (.bool (m0 k).wait) := cell_block x6 4; have r5 : w6.cell? ⟨gb, 5, none⟩ = some (.int .i64 (m0 k).table) := cell_block x6 5; have r6 : w6.cell? ⟨gb, 6, none⟩ = some (.int .i64 (m0 k).count) := cell_block x6 6; have r7 : w6.cell? ⟨gb, 7, none⟩ = some (.int .i64 (m0 k).fin) := cell_block x6 7; have r8 : w6.cell? ⟨gb, 8, none⟩ = some (.slice (some ⟨mb, 0, none⟩) 256 cm) := cell_block x6 8; have r9 : w6.cell? ⟨gb, 9, none⟩ = some (.slice ao (m0 k).out.length co) := cell_block x6 9; have r10 : w6.cell? ⟨gb, 10, none⟩ = some (.int .i64 (m0 k).ready) := cell_block x6 10; have r11 : w6.cell? ⟨gb, 11, none⟩ = some (.int .i64 (m0 k).want) := cell_block x6 11; have lgb6 := HK6.out.blt; have HI6 := Lib.hid (HIB.out.to hb6.size (same_below hb6)); have HW6 := Lib.hid (HWW.out.trans (hb6.mono HWW.out.size)); clear x6; obtain ⟨g6r, g6m, rfl, rfl, hx6⟩ := KBox.start HPL.out.oA hown (Or.inr (Nat.le_refl _)) ((OutF.refl _ w6).alloc _) (alloc_at rfl); have HX6 := Lib.hid hx6; clear hx6; have HOWN6 := Lib.hid hown; have HB6 := Lib.hid hb6; clear hown hb6)
        | (go_at_call 11; (with_reducible refine (HS2.out _ _ _ ?_ ?_).mono ?_); exact (HK6.out.kept (below_alloc _ _)).machR HPL.out.o0; exact Ints.nil _ _; rintro e w7 ⟨ar7, cr7, am7, cm7, ao7, co7, he, hown, hb7⟩; dsimp only at he hown; rw [HPL.out.oA.regs, HPL.out.oA.mem] at he; subst he; have HN7 := Lib.hid (HX6.out.kept hb7); have HI7 := Lib.hid ((HI6.out.to (below_alloc w6 _).size (same_below (below_alloc w6 _))).to hb7.size (same_below hb7)); have HW7 := Lib.hid ((HW6.out.alloc HW6.out.size _).trans (hb7.mono (HW6.out.alloc HW6.out.size _).size)); obtain ⟨g7r, g7m, rfl, rfl, hx7⟩ := KBox.start HPL.out.oA hown (Or.inr (Nat.le_refl _)) ((OutF.refl _ w7).alloc _) (alloc_at rfl); have HX7 := Lib.hid hx7; clear hx7; have HOWN7 := Lib.hid hown; have HB7 := Lib.hid hb7; clear hown hb7)
        | (go_at_call 11; (with_reducible refine (HS3.out _ _ _ ?_ ?_).mono ?_); exact HX7.out.machR HPL.out.oA; exact Ints.nil _ _; rintro e w8 ⟨ar8, cr8, am8, cm8, ao8, co8, he, hown, hb8⟩; dsimp only at he hown; rw [HPL.out.oC.regs, HPL.out.oC.mem] at he; subst he; have HN8 := Lib.hid ((HN7.out.kept (below_alloc w7 _)).kept hb8); have HA8 := Lib.hid (HX7.out.kept hb8); have HI8 := Lib.hid ((HI7.out.to (below_alloc w7 _).size (same_below (below_alloc w7 _))).to hb8.size (same_below hb8)); have HW8 := Lib.hid ((HW7.out.alloc HW7.out.size _).trans (hb8.mono (HW7.out.alloc HW7.out.size _).size)); obtain ⟨g8r, g8m, rfl, rfl, hx8⟩ := KBox.start HPL.out.oC hown (Or.inr (Nat.le_refl _)) ((OutF.refl _ w8).alloc _) (alloc_at rfl); have HX8 := Lib.hid hx8; clear hx8; have HOWN8 := Lib.hid hown; have HB8 := Lib.hid hb8; clear hown hb8)
        | (go_at_call 11; (with_reducible refine (HS4.out _ _ _ ?_ ?_).mono ?_); exact HX8.out.machR HPL.out.oC; exact HI8.out.to (below_alloc w8 _).size (same_below (below_alloc w8 _)); rintro e w9 ⟨ar9, cr9, am9, cm9, ao9, co9, he, hown, hb9⟩; dsimp only at he hown; rw [HPL.out.oD.regs, HPL.out.oD.mem] at he; subst he; have HN9 := Lib.hid ((HN8.out.kept (below_alloc w8 _)).kept hb9); have HA9 := Lib.hid ((HA8.out.kept (below_alloc w8 _)).kept hb9); have HC9 := Lib.hid (HX8.out.kept hb9); have HI9 := Lib.hid ((HI8.out.to (below_alloc w8 _).size (same_below (below_alloc w8 _))).to hb9.size (same_below hb9)); have HW9 := Lib.hid ((HW8.out.alloc HW8.out.size _).trans (hb9.mono (HW8.out.alloc HW8.out.size _).size)); have HOWN9 := Lib.hid hown; have HB9 := Lib.hid hb9; clear hown hb9))
      obtain ⟨g9r, rfl, -⟩ := own_some0 HOWN9.out.hr (by rw [HPL.out.oD.regs]; decide)
      obtain ⟨g9m, rfl, -⟩ := own_some0 HOWN9.out.hm (by rw [HPL.out.oD.mem]; decide)
      have l9r := (HOWN9.out.hr.lt g9r rfl).2
      have l9m := (HOWN9.out.hm.lt g9m rfl).2
      have hcm9 : (256 : Int) ≤ (cm9 : Int) := by
        rcases HOWN9.out.hm.2 with ⟨hv, -⟩ | ⟨g, cap, cur, hv, -, -, hnc, -⟩
        · cases hv
        · injection hv with e1 e2 e3
          rw [HPL.out.oD.mem] at hnc
          omega
      have hm9 : w9.ownsRow 0 3 1 (.slice (some ⟨g9m, 0, none⟩) 256 cm9) 256 ((mD k (bl v)).mem.map (Value.int .i64)) := by
        have h := own_base HOWN9.out.hm (Nat.zero_le _)
        rw [HPL.out.oD.mem] at h
        exact h
      have cD : w9.cell? ⟨g9r, 2, none⟩ = some (.int .i64 1) := own_cellAt (own_base HOWN9.out.hr (Nat.zero_le _)) (k := 2) (by rw [HPL.out.oD.regs]; decide)
      have nb := HN9.out.blt
      have ab := HA9.out.blt
      have cb' := HC9.out.blt
      have n11 : w9.cell? ⟨w6.heap.size, 11, none⟩ = some (.int .i64 k) := cell_block HN9.out.box 11
      have n8 : w9.cell? ⟨w6.heap.size, 8, none⟩ = some (.slice (some ⟨g6m, 0, none⟩) 256 cm6) := cell_block HN9.out.box 8
      have ln := (HN9.out.mem.lt g6m rfl).2
      have a11 : w9.cell? ⟨w7.heap.size, 11, none⟩ = some (.int .i64 k) := cell_block HA9.out.box 11
      have c0' : w9.cell? ⟨w8.heap.size, 0, none⟩ = some (.slice (some ⟨g8r, 0, none⟩) 8 cr8) := cell_block HC9.out.box 0
      have lc := (HC9.out.regs.lt g8r rfl).2
      have cC : w9.cell? ⟨g8r, 1, none⟩ = some (.int .i64 0) := own_cellAt HC9.out.regs (k := 1) (by decide)
      obtain ⟨an, han⟩ : ∃ an : Nat, (an : Int) = k * 16 := ⟨(k * 16).toNat, by omega⟩
      obtain ⟨n3, hn3⟩ : ∃ n3 : Nat, (n3 : Int) = k * 16 + 3 := ⟨(k * 16 + 3).toNat, by omega⟩
      obtain ⟨nh, hnh⟩ : ∃ nh : Nat, (nh : Int) = k * 16 + 16 := ⟨(k * 16 + 16).toNat, by omega⟩
      have x1 : IntKind.i64.wrap (k * 16) = (an : Int) := by rw [IntWalk.i64_in _ (by omega)]; omega
      have x2 : IntKind.i64.wrap ((an : Int) + 3) = (n3 : Int) := by rw [IntWalk.i64_in _ (by omega)]; omega
      have x3 : IntKind.i64.wrap ((an : Int) + 16) = (nh : Int) := by rw [IntWalk.i64_in _ (by omega)]; omega
      have cN : w9.cell? ⟨g6m, n3, none⟩ = some (.int .i64 0) := by
        rw [own_cellAt HN9.out.mem (k := n3) (by omega)]
        have e : n3 = (k * 16).toNat + 3 := by omega
        have z := HPL.out.z3
        rw [← e] at z
        show some (Value.int .i64 (smem.getD n3 0)) = _
        rw [z]
      have hn3i : (n3 : Int) < 256 := by omega
      have hnhi : (nh : Int) ≤ 256 := by omega
      have hanh : (an : Int) ≤ (nh : Int) := by omega
      have hnhc : (nh : Int) ≤ (cm9 : Int) := by omega
      have hD1 : (mD k (bl v)).want = -1 := rfl
      have hD2 : (mD k (bl v)).wait = true := rfl
      have HAN := Lib.hid han
      have HNH := Lib.hid hnh
      have HM9 := Lib.hid hm9
      clear han hn3 hnh hm9 HKW HMRW HB0 HO HOWN9 HOWN6 HOWN7 HOWN8 p0 p1 p2 p3 p4 p5 p6 p7 p8 p9 p10 p11 r0 r1 r2 r3 r4 r5 r6 r7 r8 r9 r10 r11
      have hna : nh - an = 16 := by have h1 := HAN.out; have h2 := HNH.out; omega
      have hne1 : ¬ cm9 = an := by have h1 := HAN.out; omega
      have hne2 : ¬ an = cm9 := fun e => hne1 e.symm
      have HEQ : Hid (∀ w', Below w9.heap.size w9 w' → Calls Try.prog 18 #[.slice (some ⟨g9m, an, none⟩) (nh - an) (cm9 - an), .slice (some ⟨kb, 0, none⟩) 16 16] w' fun e w'' => e = .returned (.bool true) ∧ ∃ n, w'' = w'.drewN n) := Lib.hid (fun w' hb => by
        have hI : Ints w9.heap.size w9 (.slice (some ⟨g9m, an, none⟩) (nh - an) (cm9 - an)) (bl v) := by
          rw [hna]
          refine ⟨some ⟨g9m, an, none⟩, cm9 - an, by rw [bl_len], by rw [bl_len]; decide, by rw [bl_len]; have h1 := HAN.out; omega, fun i hi => ⟨g9m, an, .int .i64 (bl v)[i], rfl, l9m, ?_, rfl, (bl_word v _ (List.getElem_mem hi)).i64⟩⟩
          have hi16 : i < 16 := by rw [bl_len] at hi; exact hi
          rw [own_cellAt HM9.out (k := an + i) (by have h1 := HAN.out; omega)]
          have e := HPL.out.at_ i hi
          rw [show (k * 16).toNat = an by have h1 := HAN.out; omega] at e
          rw [e]
        exact kequalI_any _ _ (bl v) w' (hI.to hb.size (same_below hb)) (HI9.out.to hb.size (same_below hb)))
      have HWF := Lib.hid (fun O => HW9.out.alloc HW9.out.size O)
      clear hna HM9
      go_wp2_with (go_at_call 18; (with_reducible refine (HEQ.out _ ?_).mono ?_); exact below_alloc _ _; rintro e w' ⟨rfl, nq, rfl⟩)
      all_goals (
        go_ret
        exact ⟨rfl, below_drewN (HWF.out _) _⟩)
set_option maxRecDepth 100000 in
theorem lifted (os : Os) (started : os.Started) (H : Type) (enc : TypeId × Value → H) :
    ReturnsInHanded {} Try.checked os 8 .any (Rows.blocksSpec.pre6 enc Try.prog Try.f8 Rows.blocksRow.domain false) (Rows.blocksSpec.post enc Try.prog Try.f8 false true false false) := by
  refine returnsInHanded_of_change_sized (C := Try.checked) Facts.own started (by kernel_rfl) Try.func8
    (ChangeSpec.witness6 (enc := enc) (C := Try.checked) false ⟨#[], #[.int .i64 0, .int .i64 0], []⟩ 8 (by kernel_rfl) (by kernel_rfl) (by kernel_rfl) (by kernel_rfl)) ?_
  intro W base args ds gs before hval0 hW hcnd hsz0 _
  have hsz : (DataW.weightsEach Try.prog (Try.f8.params.toList ++ Rows.blocksSpec.plain.varTypes Try.prog) (ds ++ gs)).all (· ≤ reachBytes) = true := hsz0
  have hval : ∀ (j : Nat) t v, Try.f8.params[j]? = some t → args[j]? = some v → Value.okWide Try.prog W .any base t v := hval0
  have hW' := hW
  obtain ⟨p, q, hA0, hV, rfl, hfz, hnd⟩ := hW
  have hA : DataW.TrodAll enc Try.prog W 0 (fun _ => true) true Try.f8.params.toList args.toList ds p := hA0
  rw [Try.params8] at hA hval hsz
  obtain ⟨v0, vs0, d0, ds0, p0, q0, hargs, rfl, rfl, h0, r0⟩ := trodAll_cons hA
  obtain ⟨v1, vs1, d1, ds1, p1, q1, rfl, rfl, rfl, h1, r1⟩ := trodAll_cons r0
  obtain ⟨rfl, rfl, rfl⟩ := trodAll_nil r1
  obtain rfl : args = #[v0, v1] := by cases args; simp_all
  obtain ⟨rfl, rfl⟩ := trodVars_none hV
  have k0 := h0
  have lt0 : ∀ x ∈ p0, x.block < W.heap.size := by obtain ⟨m, hm⟩ := k0; exact DataW.trod_lt m _ _ _ hm
  obtain ⟨a0, rfl, rfl, rfl, w0⟩ := open_int Try.underlying3 (hval 0 3 v0 rfl rfl) h0
  have k1 := h1
  have lt1 : ∀ x ∈ p1, x.block < W.heap.size := by obtain ⟨m, hm⟩ := k1; exact DataW.trod_lt m _ _ _ hm
  obtain ⟨a1, rfl, rfl, rfl, w1⟩ := open_int Try.underlying3 (hval 1 3 v1 rfl rfl) h1
  clear hA0 hval0
  refine (walk W a0 (Go.bounds_i64 w0) a1 (Go.bounds_i64 w1)).mono fun e W' ⟨he, bel⟩ => ?_
  subst he
  exact ⟨_, rfl, _, _, _, [], _, [], hW', trodAll_mk1 (shut_bool Try.underlying4 _), (trodAll_cons_mk (Below.trod Facts.laidOut (by kernel_rfl) (of_decide_eq_true (by kernel_rfl)) k0 bel lt0) (trodAll_cons_mk (Below.trod Facts.laidOut (by kernel_rfl) (of_decide_eq_true (by kernel_rfl)) k1 bel lt1) trodAll_mk0)), rfl, bel.frame _, fun h => by cases h⟩

theorem closed : joinedFacts Try.prog 8 Try.f8 Rows.blocksSpec Rows.blocksRow = true := by
  unfold joinedFacts
  rw [Facts.enters, Facts.lifts, Facts.made]
  kernel_rfl

theorem over : Rows.blocksRow.holds Try.pinned (OpenSpec.ofChange Rows.blocksSpec) :=
  OpenClaim.holds_of_wide 8 Try.f8 rfl rfl rfl rfl rfl rfl rfl ⟨rfl, rfl, rfl, rfl, rfl⟩ rfl rfl rfl rfl rfl (by kernel_rfl) Try.func8 closed
    (of_decide_eq_true (by kernel_rfl)) (by unfold Func.isWrapper; first | (rw [if_pos (by decide +kernel)]; kernel_rfl) | (rw [if_neg (by decide +kernel)]; exact ⟨rfl, rfl⟩))
    (fun os started H enc _ => lifted os started H enc)

theorem proved : Rows.BlocksSaid := over
#print axioms proved

end Go.Proofs.Ytojdpegkbndklaa.lBlocks
