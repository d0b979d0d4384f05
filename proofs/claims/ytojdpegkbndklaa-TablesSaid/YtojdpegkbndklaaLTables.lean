/- The law hourglasskeep.Tables returns true at every two numbers, and either way. No condition. -/
import Derived.Test.YtojdpegkbndklaaRows
import Derived.Test.YtojdpegkbndklaaOpen
import Derived.Test.YtojdpegkbndklaaFacts
import Derived.WalkKit
import Derived.ProofKit
import Derived.OpenShut
import Derived.ShutString
import Derived.ChangeOld
import Derived.Below
import Derived.Test.YtojdpegkbndklaaKd
import Derived.Test.YtojdpegkbndklaaPk
namespace Go.Proofs.Ytojdpegkbndklaa.lTables
open Go Go.RowKit Go.ChangeShapes Go.WideShapes Go.ChangeAt Go.Deep
open Go.ChangeMaps (open_string shut_string)
set_option linter.unusedVariables false
attribute [local go_sem ↓] Go.wp_at_zero Go.wp_at_succ

def prog : List Ins := [⟨14, 0, 0, 0⟩, ⟨6, 2, 1, 0⟩, ⟨5, 3, 1, 0⟩]
def smem : List Int := prog.map Ins.enc ++ List.replicate 253 0
def mk (mem regs : List Int) (pc table c fin : Int) : Mach := ⟨regs, pc, 0, false, false, table, c, fin, mem, [], 0, -1⟩
def rg (a x : Int) : List Int := [1, a * 16 + 5, 77, x, 0, 0, 0, 0]
/-- The guest's memory with its table. -/
def tmem (a t : Int) : List Int := (smem.set 16 32).set (16 + a).toNat t
theorem m0_is (a : Int) (h0 : 2 ≤ a) (h1 : a < 10) : gM [1, a * 16 + 5, 77] (prog.map Ins.enc) = mk smem (rg a 0) 0 (-1) 0 0 := by
  have e1 : gf (a * 16 + 5) = a * 16 + 5 := by unfold gf; rw [Int.tmod_eq_of_lt (by omega) (by omega), foldZ_id (by omega) (by omega)]
  show mk smem [gf 1, gf (a * 16 + 5), gf 77, 0, 0, 0, 0, 0] 0 (-1) 0 0 = _
  rw [e1]; rfl
theorem smem_len : smem.length = 256 := image_len (prog.map Ins.enc) (by decide)
theorem tmem_len (a t : Int) : (tmem a t).length = 256 := by unfold tmem; rw [List.length_set, List.length_set]; exact smem_len
theorem set_ne' {l : List Int} {i j : Nat} {x : Int} (h : i ≠ j) : (l.set i x).getD j 0 = l.getD j 0 := by
  rw [List.getD_eq_getElem?_getD, List.getElem?_set_ne h, ← List.getD_eq_getElem?_getD]
theorem set_eq' {l : List Int} {i : Nat} {x : Int} (h : i < l.length) : (l.set i x).getD i 0 = x := by
  rw [List.getD_eq_getElem?_getD, List.getElem?_set_self h]; rfl
theorem t16 {a t : Int} (h0 : 2 ≤ a) (h1 : a < 10) : (tmem a t).getD 16 0 = 32 := by
  unfold tmem
  rw [set_ne' (by omega), set_eq' (by rw [smem_len]; decide)]
theorem ta {a t : Int} (h0 : 2 ≤ a) (h1 : a < 10) : (tmem a t).getD (16 + a).toNat 0 = t := by
  unfold tmem
  rw [set_eq' (by rw [List.length_set, smem_len]; omega)]
theorem tlow {a t : Int} (h0 : 2 ≤ a) (h1 : a < 10) {k : Nat} (hk : k < 16) : (tmem a t).getD k 0 = smem.getD k 0 := by
  unfold tmem
  rw [set_ne' (by omega), set_ne' (by omega)]
/-- A word of page 0, by the table. -/
theorem p0 {mem : List Int} {k : Int} (h : mem.getD 16 0 = 32) (h0 : 0 ≤ k) (h1 : k < 16) : placeZ 1 mem k false = (k, 0) := by
  have e : ((1 : Int) * 16 + k / 16).toNat = 16 := by omega
  rw [placeZ_good (by omega) (by decide) (by rw [e, h]; intro q; rcases q with q | q | ⟨q, -⟩; omega; omega; cases q), e, h]
  have : (32 : Int) % 16 * 16 + k % 16 = k := by omega
  rw [this]
theorem step_tab {m : Mach} {op a b n v : Int} (hf : m.fin = 0) (hi : m.ints = false) (ht : m.table = 1) (h16 : m.mem.getD 16 0 = 32) (hp : 0 ≤ m.pc ∧ m.pc < 16) (hmem : m.mem.getD m.pc.toNat 0 = encZ op a b n) (hc : iCode op a b n = 0) : stepM m false [] v = ({ (doM m op a b n v).1 with count := m.count + 1, fin := (doM m op a b n v).2.1 }, (doM m op a b n v).2.2) := by
  have e1 : irqM m false = m := by unfold irqM; rw [if_neg (fun h => by cases h.2)]
  have e2 : blockM m [] = m := if_pos rfl
  have e3 : enterM m = m := by unfold enterM; rw [if_neg (fun h => by rw [hi] at h; simp at h)]
  unfold stepM
  rw [e1, e2, e3]
  have hpl : placeZ m.table m.mem m.pc false = (m.pc, 0) := by rw [ht]; exact p0 h16 hp.1 hp.2
  obtain ⟨d1, d2, d3, d4⟩ := dec_parts hc
  have hdc : decC (wordZ op a b n) = 0 := by unfold decC; rw [d1, d2, d3, d4]; exact hc
  have hn : nextZ m = (wordZ op a b n, 0) := by
    unfold nextZ
    rw [hpl]
    dsimp only
    rw [hmem, encZ_word hc, if_neg (by simp), if_neg (by simpa using hdc)]
  unfold execM
  rw [hn]
  dsimp only
  rw [if_neg (by simpa using hf), if_neg (by simp), d1, d2, d3, d4]
/-- The table's word: it may be written, or not. -/
def tw (b : Int) (may : Bool) : Int := if may = true then 48 + b else 32 + b
def s0 (a b : Int) (may : Bool) : Mach := mk (tmem a (tw b may)) (rg a 0) 0 (-1) 0 0
def s1 (a b : Int) (may : Bool) : Mach := mk (tmem a (tw b may)) (rg a 0) 1 1 1 0
/-- Refused. -/
def sF (a b : Int) : Mach := mk (tmem a (32 + b)) (rg a 0) 1 1 2 4
def wm (a b : Int) : List Int := (tmem a (48 + b)).set (b * 16 + 5).toNat 77
def s2 (a b : Int) : Mach := mk (wm a b) (rg a 0) 2 1 2 0
def s3 (a b : Int) : Mach := mk (wm a b) (rg a 77) 3 1 3 0
def it (a b : Int) (may : Bool) : Nat → Mach
  | 0 => s0 a b may
  | 1 => s1 a b may
  | 2 => if may = true then s2 a b else sF a b
  | _ => if may = true then s3 a b else sF a b
def wr (b : Int) (may : Bool) : Nat → Int
  | 1 => if may = true then b * 16 + 5 else -1
  | _ => -1
theorem stA {a b : Int} {may : Bool} (h0 : 2 ≤ a) (h1 : a < 10) : stepM (s0 a b may) false [] 0 = (s1 a b may, -1) :=
  (step_at (m := s0 a b may) (op := 14) (a := 0) (b := 0) (n := 0) rfl (Or.inl rfl) (by decide : (-1 : Int) < 0) (by decide : (0 : Int) ≤ 0 ∧ (0 : Int) < 256) (tlow h0 h1 (k := 0) (by decide)) (by decide)).trans rfl
theorem stF {a b : Int} (h0 : 2 ≤ a) (h1 : a < 10) (b0 : 2 ≤ b) (b1 : b < 10) : stepM (s1 a b false) false [] 0 = (sF a b, -1) := by
  rw [step_tab (m := s1 a b false) (op := 6) (a := 2) (b := 1) (n := 0) rfl rfl rfl (t16 h0 h1) (by decide : (0 : Int) ≤ 1 ∧ (1 : Int) < 16) (tlow h0 h1 (k := 1) (by decide)) (by decide)]
  have hp : placeZ (s1 a b false).table (s1 a b false).mem ((s1 a b false).reg 1 + 0) true = (0, 4) := by
    show placeZ 1 (tmem a (32 + b)) (a * 16 + 5 + 0) true = _
    have e : ((1 : Int) * 16 + (a * 16 + 5 + 0) / 16).toNat = (16 + a).toNat := by omega
    exact placeZ_bad (by omega) (by decide) (by rw [e, ta h0 h1]; exact Or.inr (Or.inr ⟨rfl, by omega⟩))
  unfold doM
  simp only [hp]
  rfl
theorem stW {a b : Int} (h0 : 2 ≤ a) (h1 : a < 10) (b0 : 2 ≤ b) (b1 : b < 10) : stepM (s1 a b true) false [] 0 = (s2 a b, b * 16 + 5) := by
  rw [step_tab (m := s1 a b true) (op := 6) (a := 2) (b := 1) (n := 0) rfl rfl rfl (t16 h0 h1) (by decide : (0 : Int) ≤ 1 ∧ (1 : Int) < 16) (tlow h0 h1 (k := 1) (by decide)) (by decide)]
  have hp : placeZ (s1 a b true).table (s1 a b true).mem ((s1 a b true).reg 1 + 0) true = (b * 16 + 5, 0) := by
    show placeZ 1 (tmem a (48 + b)) (a * 16 + 5 + 0) true = _
    have e : ((1 : Int) * 16 + (a * 16 + 5 + 0) / 16).toNat = (16 + a).toNat := by omega
    rw [placeZ_good (by omega) (by decide) (by rw [e, ta h0 h1]; omega), e, ta h0 h1]
    have : (48 + b) % 16 * 16 + (a * 16 + 5 + 0) % 16 = b * 16 + 5 := by omega
    rw [this]
  unfold doM
  simp only [hp]
  rfl
theorem w16 {a b : Int} (h0 : 2 ≤ a) (h1 : a < 10) (b0 : 2 ≤ b) (b1 : b < 10) : (wm a b).getD 16 0 = 32 := by
  unfold wm; rw [set_ne' (by omega)]; exact t16 h0 h1
theorem wa {a b : Int} (h0 : 2 ≤ a) (h1 : a < 10) (b0 : 2 ≤ b) (b1 : b < 10) : (wm a b).getD (16 + a).toNat 0 = 48 + b := by
  unfold wm; rw [set_ne' (by omega)]; exact ta h0 h1
theorem wlow {a b : Int} (h0 : 2 ≤ a) (h1 : a < 10) (b0 : 2 ≤ b) (b1 : b < 10) {k : Nat} (hk : k < 16) : (wm a b).getD k 0 = smem.getD k 0 := by
  unfold wm; rw [set_ne' (by omega)]; exact tlow h0 h1 hk
theorem wb {a b : Int} (b0 : 2 ≤ b) (b1 : b < 10) : (wm a b).getD (b * 16 + 5).toNat 0 = 77 := by
  unfold wm; rw [set_eq' (by rw [tmem_len]; omega)]
theorem stL {a b : Int} (h0 : 2 ≤ a) (h1 : a < 10) (b0 : 2 ≤ b) (b1 : b < 10) : stepM (s2 a b) false [] 0 = (s3 a b, -1) := by
  rw [step_tab (m := s2 a b) (op := 5) (a := 3) (b := 1) (n := 0) rfl rfl rfl (w16 h0 h1 b0 b1) (by decide : (0 : Int) ≤ 2 ∧ (2 : Int) < 16) (wlow h0 h1 b0 b1 (k := 2) (by decide)) (by decide)]
  have hp : placeZ (s2 a b).table (s2 a b).mem ((s2 a b).reg 1 + 0) false = (b * 16 + 5, 0) := by
    show placeZ 1 (wm a b) (a * 16 + 5 + 0) false = _
    have e : ((1 : Int) * 16 + (a * 16 + 5 + 0) / 16).toNat = (16 + a).toNat := by omega
    rw [placeZ_good (by omega) (by decide) (by rw [e, wa h0 h1 b0 b1]; omega), e, wa h0 h1 b0 b1]
    have : (48 + b) % 16 * 16 + (a * 16 + 5 + 0) % 16 = b * 16 + 5 := by omega
    rw [this]
  have hv : (s2 a b).mem.getD (b * 16 + 5).toNat 0 = 77 := wb b0 b1
  unfold doM
  simp only [hp, hv]
  rfl
theorem stE (a b : Int) : stepM (sF a b) false [] 0 = (sF a b, -1) := rfl
theorem st {a b : Int} {may : Bool} (h0 : 2 ≤ a) (h1 : a < 10) (b0 : 2 ≤ b) (b1 : b < 10) (k : Nat) (hk : k < 3) : stepM (it a b may k) false [] 0 = (it a b may (k + 1), wr b may k) := by
  rcases k with _ | _ | _ | k
  · exact stA h0 h1
  · cases may
    · exact stF h0 h1 b0 b1
    · exact stW h0 h1 b0 b1
  · cases may
    · exact stE a b
    · exact stL h0 h1 b0 b1
  · omega
theorem okm {a b : Int} {may : Bool} (h0 : 2 ≤ a) (h1 : a < 10) (b0 : 2 ≤ b) (b1 : b < 10) : MOk (s0 a b may) := by
  have hg : MOk (mk smem (rg a 0) 0 (-1) 0 0) := by rw [← m0_is a h0 h1]; exact gM_ok (rs := [1, a * 16 + 5, 77]) (l := prog) (by simp) (by decide)
  have ht : WordZ (tw b may) := by unfold tw WordZ; split <;> omega
  exact ⟨hg.regs, tmem_len _ _, hg.out, hg.wr, of_words (mem_set (mem_set (words_of hg.wm) (by unfold WordZ; omega) _) ht _), hg.wo, hg.pc, hg.back, hg.table, hg.count, hg.fin, hg.ready, hg.want⟩
theorem cnts {a b : Int} {may : Bool} (k : Nat) (hk : k < 3) : (it a b may k).count < 1099511627776 := by
  rcases k with _ | _ | _ | k
  · exact (by decide : (0 : Int) < 1099511627776)
  · exact (by decide : (1 : Int) < 1099511627776)
  · cases may
    · exact (by decide : (2 : Int) < 1099511627776)
    · exact (by decide : (2 : Int) < 1099511627776)
  · omega
structure Plain (b : Int) (may : Bool) (f : Nat → Mach) : Prop where
  ok : ∀ k, k ≤ 3 → MOk (f k)
  cnt : ∀ k, k < 3 → (f k).count < 1099511627776
  st : ∀ k, k < 3 → stepM (f k) false [] 0 = (f (k + 1), wr b may k)
  no : may = false → (f 3).fin = 4
  go : may = true → (f 3).fin = 0 ∧ (f 3).regs.getD 3 0 = 77 ∧ (f 3).mem.getD (b * 16 + 5).toNat 0 = 77
theorem plain {a b : Int} {may : Bool} (h0 : 2 ≤ a) (h1 : a < 10) (b0 : 2 ≤ b) (b1 : b < 10) : Plain b may (it a b may) := by
  refine ⟨?_, cnts, st h0 h1 b0 b1, ?_, ?_⟩
  · intro k
    induction k with
    | zero => intro _; exact okm h0 h1 b0 b1
    | succ k ih =>
      intro hk
      have := stepM_ok (ih (by omega)) false (b := []) 0 (Or.inl rfl) (fun z hz => by cases hz) (by unfold WordZ; omega) (cnts (a := a) (b := b) (may := may) k (by omega))
      rw [st h0 h1 b0 b1 k (by omega)] at this
      exact this
  · rintro rfl; rfl
  · rintro rfl; exact ⟨rfl, rfl, wb b0 b1⟩

set_option maxHeartbeats 8000000 in
set_option maxRecDepth 100000 in
theorem walk (W : World) (p : Int) (hp : I64 p) (q : Int) (hq : I64 q) (may : Bool) : Calls Try.prog 6 #[.int .i64 p, .int .i64 q, .bool may] W fun e W' => e = .returned (.bool true) ∧ Below W.heap.size W W' := by
  have HPA := Lib.hid (fun w => picked_any p 8 w hp.1 hp.2 (by omega) (by omega))
  have HPB := Lib.hid (fun w => picked_any q 8 w hq.1 hq.2 (by omega) (by omega))
  have ra := pick_rng p 8 (by omega)
  have rb := pick_rng q 8 (by omega)
  generalize pickZ p 8 = pa at *
  generalize pickZ q 8 = pb at *
  have v1 : IntKind.i64.wrap (2 + pa) = 2 + pa := IntWalk.i64_in _ (by omega)
  have v2 : IntKind.i64.wrap (2 + pb) = 2 + pb := IntWalk.i64_in _ (by omega)
  clear hp hq
  go_enter Try.func6, Try.ntmps6
  go_upto_region 5 with (first
    | (go_at_call 14; refine (tells_cpu _).mono ?_; rintro e w1 ⟨rfl, hb1⟩; have HB1 := Lib.hid hb1; have hs1 := hb1.size; clear hb1)
    | (go_at_call 16; (with_reducible refine (HPA.out _).mono ?_); rintro e w' ⟨rfl, rfl⟩)
    | (go_at_call 16; (with_reducible refine (HPB.out _).mono ?_); rintro e w' ⟨rfl, rfl⟩))
  obtain ⟨a, ha⟩ : ∃ a, a = 2 + pa := ⟨_, rfl⟩
  obtain ⟨b, hb⟩ : ∃ b, b = 2 + pb := ⟨_, rfl⟩
  rw [← ha, ← hb]
  have a0 : 2 ≤ a := by omega
  have a1 : a < 10 := by omega
  have b0 : 2 ≤ b := by omega
  have b1 : b < 10 := by omega
  clear v1 v2 ra rb HPA HPB ha hb
  have HP := Lib.hid (plain (may := may) a0 a1 b0 b1)
  have HG : Hid (∀ vr vl w, Ints w.heap.size w vr [1, a * 16 + 5, 77] → InsR w.heap.size w vl prog → Calls Try.prog 15 #[vr, vl] w (GuestPost w (mk smem (rg a 0) 0 (-1) 0 0))) := Lib.hid (fun vr vl w hr hl => by
    rw [← m0_is a a0 a1]
    exact guest_any vr vl [1, a * 16 + 5, 77] prog w hr (by decide : 3 ≤ 8) hl (by decide) (of_words (fun z hz => by obtain ⟨y, -, rfl⟩ := List.mem_map.1 hz; exact encZ_WordZ _ _ _ _)))
  have HOK0 : Hid (MOk (mk smem (rg a 0) 0 (-1) 0 0)) := Lib.hid (by rw [← m0_is a a0 a1]; exact gM_ok (rs := [1, a * 16 + 5, 77]) (l := prog) (by simp) (by decide))
  have HIJ : Hid (∀ z ∈ [1, a * 16 + 5, 77], I64 z) := Lib.hid (fun z hz => by simp at hz; unfold I64; omega)
  obtain ⟨kn, hkn⟩ : ∃ kn : Nat, (kn : Int) = 16 + a := ⟨(16 + a).toNat, by omega⟩
  have hkt : kn = (16 + a).toNat := by omega
  have HN : Hid (may = false → ({ mk smem (rg a 0) 0 (-1) 0 0 with mem := ((mk smem (rg a 0) 0 (-1) 0 0).mem.set 16 32).set kn (32 + b) } : Mach) = it a b may 0) := Lib.hid (fun h => by subst h hkt; rfl)
  have HY : Hid (may = true → ({ mk smem (rg a 0) 0 (-1) 0 0 with mem := (((mk smem (rg a 0) 0 (-1) 0 0).mem.set 16 32).set kn (32 + b)).set kn (48 + b) } : Mach) = it a b may 0) := Lib.hid (fun h => by subst h hkt; rw [List.set_set]; rfl)
  generalize mk smem (rg a 0) 0 (-1) 0 0 = ma at *
  generalize it a b may = f at *
  have x1 : IntKind.i64.wrap (a * 16) = a * 16 := IntWalk.i64_in _ (by omega)
  have x2 : IntKind.i64.wrap (a * 16 + 5) = a * 16 + 5 := IntWalk.i64_in _ (by omega)
  have x3 : IntKind.i64.wrap (16 + a) = (kn : Int) := by rw [IntWalk.i64_in _ (by omega)]; omega
  have x4 : IntKind.i64.wrap (32 + b) = 32 + b := IntWalk.i64_in _ (by omega)
  have x5 : IntKind.i64.wrap (32 + b + 16) = 48 + b := by rw [IntWalk.i64_in _ (by omega)]; omega
  have hkn256 : kn < 256 := by omega
  have hkn16 : ¬ kn = 16 := by omega
  have hkn16' : ¬ 16 = kn := by omega
  clear hkt hkn
  go_upto_region 6 with (go_at_call 15; refine (HG.out _ _ _ ?_ ?_).mono ?_; (exact ints_block (zs := [1, a * 16 + 5, 77]) ((alloc_lt (by simp)).trans (alloc_at rfl)) (by simp) (by simp) HIJ.out); (exact insr_block (l := prog) (alloc_at (by simp)) (by decide) (by decide)); rintro e w3 ⟨ar, cr, am, cm, ao, co, he, hown, hb3⟩; have HB3 := Lib.hid (show Below W.heap.size W w3 from ((HB1.out.alloc hs1 _).alloc (by simp; omega) _).trans (hb3.mono (by simp; omega))); rw [Mach.agg, HOK0.out.regs, HOK0.out.mem] at he; subst he; have HOWN := Lib.hid hown; clear hown hb3)
  obtain ⟨gr, mb, rfl, rfl, hb0⟩ := KBox.start HOK0.out HOWN.out (Or.inr (Nat.le_refl _)) ((OutF.refl _ w3).alloc _) (alloc_at rfl)
  have HB0 := Lib.hid hb0
  have hmlb : Hid (W.heap.size ≤ mb) := Lib.hid (by
    have h1 := (HOWN.out.hm.lt mb rfl).1
    have h2 := hs1
    first | omega | (simp at h1; omega))
  have HGB : Hid (W.heap.size ≤ w3.heap.size) := Lib.hid HB3.out.size
  have HB4' := Lib.hid (fun O => HB3.out.alloc HB3.out.size O)
  clear hb0 HOWN HG HIJ
  generalize hW4 : w3.alloc _ = w4 at *
  have HB4 : Hid (Below W.heap.size W w4) := Lib.hid (by rw [← hW4]; exact HB4'.out _)
  clear HB4' HB3
  generalize hgb : w3.heap.size = gb at *
  clear hW4 hgb
  have d8 : w4.cell? ⟨gb, 8, none⟩ = some (.slice (some ⟨mb, 0, none⟩) 256 cm) := cell_block HB0.out.box 8
  have c16 := own_cellAt HB0.out.mem (k := 16) (by omega)
  have ckn := own_cellAt HB0.out.mem (k := kn) hkn256
  have f16 := HB0.out.mem.frozenAt 16
  have fkn := HB0.out.mem.frozenAt kn
  have lmb := (HB0.out.mem.lt mb rfl).2
  have lgb4 := HB0.out.blt
  have nmb : ¬ mb = gb := fun e => own_ne_block HB0.out.mem HB0.out.box (by decide) (by rw [e]; rfl)
  have nmb' : ¬ gb = mb := fun e => nmb e.symm
  generalize ma.mem.getD 16 0 = y16 at *
  generalize ma.mem.getD kn 0 = ykn at *
  have hkni : (kn : Int) < 256 := by omega
  go_upto_if 45 with fail
  go_cut [] from 15 (fun wx => Hid (KBox gb gr cr mb cm (f 0) ao co wx) ∧ Hid (Below W.heap.size W wx))
  case first =>
    cases may with
    | false =>
      go_wp2
      go_meet
      case rel => exact ⟨Lib.hid (by rw [← HN.out (by first | rfl | trivial)]; exact (HB0.out.setMem 16 32).setMem kn (32 + b)), Lib.hid ((HB4.out.setCell hmlb.out _).setCell hmlb.out _)⟩
    | true =>
      go_wp2
      go_meet
      case rel => exact ⟨Lib.hid (by rw [← HY.out (by first | rfl | trivial)]; exact ((HB0.out.setMem 16 32).setMem kn (32 + b)).setMem kn (48 + b)), Lib.hid (((HB4.out.setCell hmlb.out _).setCell hmlb.out _).setCell hmlb.out _)⟩
  case rest =>
    obtain ⟨HBK, HBB⟩ := hcut
    clear d8 c16 ckn f16 fkn HB0 HN HY nmb nmb' x1 x2 x3 x4 x5
    go_upto_block 0 with fail
    go_wp2_with fail
    go_loopg [11, 54] 3 (fun gg s11 s54 wr => ∃ (k : Nat) (a1 : Option Addr) (c1 : Nat), k ≤ 3 ∧ 3 - k ≤ gg ∧ s54 = .int .i64 k ∧ s11 = .slice a1 k c1 ∧ Hid (∃ gr cr mb cm ao co, KBox gb gr cr mb cm (f k) ao co wr) ∧ Hid (Below W.heap.size W wr) ∧ Hid (wr.ownsRow W.heap.size 3 1 (.slice a1 k c1) k (((List.range k).map (lTables.wr b may)).map (Value.int .i64))))
    case atStart => exact ⟨0, none, 0, by omega, by omega, rfl, rfl, Lib.hid ⟨_, _, _, _, _, _, HBK.out⟩, HBB, Lib.hid (World.ownsRow_nil _ _ _ _)⟩
    case round =>
      obtain ⟨k, a1', c1, hk, hg, rfl, rfl, HK, HBW, HWR⟩ := hrel
      clear HBK HBB
      by_cases hlt : k < 3
      · obtain ⟨gr, cr, mb, cm, ao, co, hb0⟩ := HK.out
        have hok := HP.out.ok k hk
        have hok' := HP.out.ok (k + 1) (by omega)
        have HSK : Hid (∀ w v, MachR w.heap.size w v (f k) → Calls Try.prog 11 #[v, .bool false, .slice none 0 0, .int .i64 0] w (GoodPost (f (k + 1), lTables.wr b may k) w)) := Lib.hid (fun w v hm => by
          have h := step_good v (.slice none 0 0) (f k) false [] 0 w hm (Ints.nil _ _) (by unfold WordZ; omega) hok (Or.inl rfl) (fun z hz => by cases hz) (HP.out.cnt k hlt)
          rw [HP.out.st k hlt] at h
          exact h)
        have HT := Lib.hid (show (List.range (k + 1)).map (lTables.wr b may) = (List.range k).map (lTables.wr b may) ++ [lTables.wr b may k] by rw [List.range_succ, List.map_append]; rfl)
        generalize hwk : lTables.wr b may k = wk at *
        generalize hfk1 : f (k + 1) = m' at *
        generalize hfk : f k = m at *
        have HE := Lib.hid hfk1
        have h8 := hok'.regs
        have h256 := hok'.mem
        have HMR := Lib.hid (hb0.machR hok)
        have HK0 := Lib.hid hb0
        have HOK := Lib.hid hok'
        have lgb := hb0.blt
        have p0 : wr.cell? ⟨gb, 0, none⟩ = some (.slice (some ⟨gr, 0, none⟩) 8 cr) := cell_block hb0.box 0
        have p1 : wr.cell? ⟨gb, 1, none⟩ = some (.int .i64 m.pc) := cell_block hb0.box 1
        have p2 : wr.cell? ⟨gb, 2, none⟩ = some (.int .i64 m.back) := cell_block hb0.box 2
        have p3 : wr.cell? ⟨gb, 3, none⟩ = some (.bool m.ints) := cell_block hb0.box 3
        have p4 : wr.cell? ⟨gb, 4, none⟩ = some (.bool m.wait) := cell_block hb0.box 4
        have p5 : wr.cell? ⟨gb, 5, none⟩ = some (.int .i64 m.table) := cell_block hb0.box 5
        have p6 : wr.cell? ⟨gb, 6, none⟩ = some (.int .i64 m.count) := cell_block hb0.box 6
        have p7 : wr.cell? ⟨gb, 7, none⟩ = some (.int .i64 m.fin) := cell_block hb0.box 7
        have p8 : wr.cell? ⟨gb, 8, none⟩ = some (.slice (some ⟨mb, 0, none⟩) 256 cm) := cell_block hb0.box 8
        have p9 : wr.cell? ⟨gb, 9, none⟩ = some (.slice ao m.out.length co) := cell_block hb0.box 9
        have p10 : wr.cell? ⟨gb, 10, none⟩ = some (.int .i64 m.ready) := cell_block hb0.box 10
        have p11 : wr.cell? ⟨gb, 11, none⟩ = some (.int .i64 m.want) := cell_block hb0.box 11
        clear hfk hfk1 hwk hok hok' hb0
        go_upto_region 16 with (go_at_call 11; (with_reducible refine (HSK.out _ _ ?_).mono ?_); exact HMR.out; rintro e w5 ⟨ar, cr2, am, cm2, ao2, co2, he, hown, hb5⟩; dsimp only at he hown; rw [h8, h256] at he; subst he; have x5 := block_below hb5 HK0.out.box HK0.out.blt; have r0 : w5.cell? ⟨gb, 0, none⟩ = some (.slice (some ⟨gr, 0, none⟩) 8 cr) := cell_block x5 0; have g0 := free_block x5 0; have r1 : w5.cell? ⟨gb, 1, none⟩ = some (.int .i64 m.pc) := cell_block x5 1; have g1 := free_block x5 1; have r2 : w5.cell? ⟨gb, 2, none⟩ = some (.int .i64 m.back) := cell_block x5 2; have g2 := free_block x5 2; have r3 : w5.cell? ⟨gb, 3, none⟩ = some (.bool m.ints) := cell_block x5 3; have g3 := free_block x5 3; have r4 : w5.cell? ⟨gb, 4, none⟩ = some (.bool m.wait) := cell_block x5 4; have g4 := free_block x5 4; have r5 : w5.cell? ⟨gb, 5, none⟩ = some (.int .i64 m.table) := cell_block x5 5; have g5 := free_block x5 5; have r6 : w5.cell? ⟨gb, 6, none⟩ = some (.int .i64 m.count) := cell_block x5 6; have g6 := free_block x5 6; have r7 : w5.cell? ⟨gb, 7, none⟩ = some (.int .i64 m.fin) := cell_block x5 7; have g7 := free_block x5 7; have r8 : w5.cell? ⟨gb, 8, none⟩ = some (.slice (some ⟨mb, 0, none⟩) 256 cm) := cell_block x5 8; have g8 := free_block x5 8; have r9 : w5.cell? ⟨gb, 9, none⟩ = some (.slice ao m.out.length co) := cell_block x5 9; have g9 := free_block x5 9; have r10 : w5.cell? ⟨gb, 10, none⟩ = some (.int .i64 m.ready) := cell_block x5 10; have g10 := free_block x5 10; have r11 : w5.cell? ⟨gb, 11, none⟩ = some (.int .i64 m.want) := cell_block x5 11; have g11 := free_block x5 11; have hs5 := hb5.size; have lgb5 : gb < w5.heap.size := Nat.lt_of_lt_of_le lgb hs5; have HOWN5 := Lib.hid hown; have HB5 := Lib.hid hb5; have X5 := Lib.hid x5; clear x5 hown hb5)
        go_cut [11, 13, 54] from 54 to 69 (fun s11 s13 s54 wx => s11 = .slice a1' k c1 ∧ s13 = .int .i64 wk ∧ s54 = .int .i64 k ∧ Hid (OutF (fun b => b = gb) w5 wx) ∧ Hid (wx.heap[gb]? = some (.cells #[.slice ar 8 cr2, .int .i64 m'.pc, .int .i64 m'.back, .bool m'.ints, .bool m'.wait, .int .i64 m'.table, .int .i64 m'.count, .int .i64 m'.fin, .slice am 256 cm2, .slice ao2 m'.out.length co2, .int .i64 m'.ready, .int .i64 m'.want] 24 (0, 0))) ∧ Hid (Below W.heap.size W wx))
        case first =>
          go_wp2
          go_meet
          case rel => exact ⟨rfl, rfl, rfl, Lib.hid (OutF.alloc (F := fun b => b = gb) (out12 (F := fun b => b = gb) (g := gb) (OutF.refl _ w5) rfl) _), Lib.hid ((alloc_lt (Nat.lt_of_lt_of_le lgb5 (out12 (F := fun b => b = gb) (g := gb) (OutF.refl _ w5) rfl).size)).trans (set12 X5.out)), Lib.hid (below_again (HBW.out.trans (HB5.out.mono HBW.out.size)) HGB.out (Nat.le_refl _))⟩
        case rest =>
          obtain ⟨rfl, rfl, rfl, HO5, HXB, HBC⟩ := hcut
          have HW6 : Hid (wc.ownsRow W.heap.size 3 1 (.slice a1' k c1) k (((List.range k).map (lTables.wr b may)).map (Value.int .i64))) := Lib.hid (own_out (own_below HWR.out HB5.out (Nat.le_refl _)) HO5.out (fun g hg e => by have e' : g = gb := e; rw [e'] at hg; exact own_ne_block (own_below HWR.out HB5.out (Nat.le_refl _)) X5.out (by decide) hg.symm))
          have hsW := HBC.out.size
          clear p0 p1 p2 p3 p4 p5 p6 p7 p8 p9 p10 p11 r0 r1 r2 r3 r4 r5 r6 r7 r8 r9 r10 r11 g0 g1 g2 g3 g4 g5 g6 g7 g8 g9 g10 g11
          go_wp2_with (at_builtin; go_loud (refine wpList_push wc rfl (.tmp 65) (.tmp 67) 22 rfl W.heap.size 3 (.int .i64 0) 1 8 Try.underlying22 info_int rfl (by decide) [.int .i64 wk] rfl (by simp [Value.oneCell']) _ _ _ (by rfl) HW6.out (by rfl) rfl (by omega) (by omega) hsW ?_); intro g1 cp1 w7 hown7 hgrow7; have HO7 := Lib.hid hown7; have HG7 := Lib.hid hgrow7; clear hown7 hgrow7)
          go_roundg (3 - (k + 1))
          case measure => omega
          case rel =>
            refine ⟨k + 1, _, _, by omega, by omega, by go_num, rfl, Lib.hid ?_, Lib.hid (below_grown HBC.out HW6.out HG7.out hsW (Nat.le_refl _)), Lib.hid (by rw [HT.out, List.map_append]; exact HO7.out)⟩
            rw [HE.out]
            refine KBox.startF (F := fun b => b = gb ∨ (Value.slice a1' k c1).ownBlock = some b) HOK.out HOWN5.out (fun b hb => Or.inl ?_) ((HO5.out.mono (fun g hg => Or.inl hg)).grown HG7.out (fun k hk => Or.inl (Or.inr hk))) (block_grown HG7.out HXB.out (fun e => own_ne_block HW6.out HXB.out (by decide) e))
            rcases hb with hb | hb
            · have e' : b = gb := hb; omega
            · exact (HWR.out.lt b hb).2
      · have hk3 : k = 3 := by omega
        subst hk3
        obtain ⟨gr, cr, mb, cm, ao, co, hb0⟩ := HK.out
        obtain ⟨gw, rfl, -⟩ := own_some0 HWR.out (by decide)
        have cw := own_cellAt (own_base HWR.out (Nat.zero_le _)) (k := 1) (by decide)
        have HNO := Lib.hid HP.out.no
        have HGO := Lib.hid HP.out.go
        have p0 : wr.cell? ⟨gb, 0, none⟩ = some (.slice (some ⟨gr, 0, none⟩) 8 cr) := cell_block hb0.box 0
        have p7 : wr.cell? ⟨gb, 7, none⟩ = some (.int .i64 (f 3).fin) := cell_block hb0.box 7
        have p8 : wr.cell? ⟨gb, 8, none⟩ = some (.slice (some ⟨mb, 0, none⟩) 256 cm) := cell_block hb0.box 8
        cases may with
        | false =>
          rw [HNO.out rfl] at p7
          have cw' : wr.cell? ⟨gw, 1, none⟩ = some (.int .i64 (-1)) := cw
          clear cw hb0 HK HWR
          go_wp2
          go_ret
          exact ⟨rfl, HBW.out⟩
        | true =>
          obtain ⟨e1, e2, e3⟩ := HGO.out rfl
          rw [e1] at p7
          obtain ⟨bn, hbn⟩ : ∃ bn : Nat, (bn : Int) = b * 16 + 5 := ⟨(b * 16 + 5).toNat, by omega⟩
          have hbt : (b * 16 + 5).toNat = bn := by omega
          rw [hbt] at e3
          have cw' : wr.cell? ⟨gw, 1, none⟩ = some (.int .i64 (bn : Int)) := by rw [hbn]; exact cw
          have c3 := own_cellAt hb0.regs (k := 3) (by omega)
          rw [e2] at c3
          have hbn256 : bn < 256 := by omega
          have cm' := own_cellAt hb0.mem (k := bn) hbn256
          rw [e3] at cm'
          have hbni : (bn : Int) < 256 := by omega
          have x6 : IntKind.i64.wrap (b * 16) = b * 16 := IntWalk.i64_in _ (by omega)
          have x7 : IntKind.i64.wrap (b * 16 + 5) = (bn : Int) := by rw [IntWalk.i64_in _ (by omega)]; omega
          clear cw hb0 HK HWR hbn hbt e1 e2 e3
          go_wp2
          go_ret
          exact ⟨rfl, HBW.out⟩

set_option maxRecDepth 100000 in
theorem lifted (os : Os) (started : os.Started) (H : Type) (enc : TypeId × Value → H) :
    ReturnsInHanded {} Try.checked os 6 .any (Rows.tablesSpec.pre6 enc Try.prog Try.f6 Rows.tablesRow.domain false) (Rows.tablesSpec.post enc Try.prog Try.f6 false true false false) := by
  refine returnsInHanded_of_change_sized (C := Try.checked) Facts.own started (by kernel_rfl) Try.func6
    (ChangeSpec.witness6 (enc := enc) (C := Try.checked) false ⟨#[], #[.int .i64 0, .int .i64 0, .bool false], []⟩ 8 (by kernel_rfl) (by kernel_rfl) (by kernel_rfl) (by kernel_rfl)) ?_
  intro W base args ds gs before hval0 hW hcnd hsz0 _
  have hsz : (DataW.weightsEach Try.prog (Try.f6.params.toList ++ Rows.tablesSpec.plain.varTypes Try.prog) (ds ++ gs)).all (· ≤ reachBytes) = true := hsz0
  have hval : ∀ (j : Nat) t v, Try.f6.params[j]? = some t → args[j]? = some v → Value.okWide Try.prog W .any base t v := hval0
  have hW' := hW
  obtain ⟨p, q, hA0, hV, rfl, hfz, hnd⟩ := hW
  have hA : DataW.TrodAll enc Try.prog W 0 (fun _ => true) true Try.f6.params.toList args.toList ds p := hA0
  rw [Try.params6] at hA hval hsz
  obtain ⟨v0, vs0, d0, ds0, p0, q0, hargs, rfl, rfl, h0, r0⟩ := trodAll_cons hA
  obtain ⟨v1, vs1, d1, ds1, p1, q1, rfl, rfl, rfl, h1, r1⟩ := trodAll_cons r0
  obtain ⟨v2, vs2, d2, ds2, p2, q2, rfl, rfl, rfl, h2, r2⟩ := trodAll_cons r1
  obtain ⟨rfl, rfl, rfl⟩ := trodAll_nil r2
  obtain rfl : args = #[v0, v1, v2] := by cases args; simp_all
  obtain ⟨rfl, rfl⟩ := trodVars_none hV
  have k0 := h0
  have lt0 : ∀ x ∈ p0, x.block < W.heap.size := by obtain ⟨m, hm⟩ := k0; exact DataW.trod_lt m _ _ _ hm
  obtain ⟨a0, rfl, rfl, rfl, w0⟩ := open_int Try.underlying3 (hval 0 3 v0 rfl rfl) h0
  have k1 := h1
  have lt1 : ∀ x ∈ p1, x.block < W.heap.size := by obtain ⟨m, hm⟩ := k1; exact DataW.trod_lt m _ _ _ hm
  obtain ⟨a1, rfl, rfl, rfl, w1⟩ := open_int Try.underlying3 (hval 1 3 v1 rfl rfl) h1
  have k2 := h2
  have lt2 : ∀ x ∈ p2, x.block < W.heap.size := by obtain ⟨m, hm⟩ := k2; exact DataW.trod_lt m _ _ _ hm
  obtain ⟨a2, rfl, rfl, rfl⟩ := open_bool Try.underlying4 (hval 2 4 v2 rfl rfl) h2
  clear hA0 hval0
  refine (walk W a0 (Go.bounds_i64 w0) a1 (Go.bounds_i64 w1) a2).mono fun e W' ⟨he, bel⟩ => ?_
  subst he
  exact ⟨_, rfl, _, _, _, [], _, [], hW', trodAll_mk1 (shut_bool Try.underlying4 _), (trodAll_cons_mk (Below.trod Facts.laidOut (by kernel_rfl) (of_decide_eq_true (by kernel_rfl)) k0 bel lt0) (trodAll_cons_mk (Below.trod Facts.laidOut (by kernel_rfl) (of_decide_eq_true (by kernel_rfl)) k1 bel lt1) (trodAll_cons_mk (Below.trod Facts.laidOut (by kernel_rfl) (of_decide_eq_true (by kernel_rfl)) k2 bel lt2) trodAll_mk0))), rfl, bel.frame _, fun h => by cases h⟩

theorem closed : joinedFacts Try.prog 6 Try.f6 Rows.tablesSpec Rows.tablesRow = true := by
  unfold joinedFacts
  rw [Facts.enters, Facts.lifts, Facts.made]
  kernel_rfl

theorem over : Rows.tablesRow.holds Try.pinned (OpenSpec.ofChange Rows.tablesSpec) :=
  OpenClaim.holds_of_wide 6 Try.f6 rfl rfl rfl rfl rfl rfl rfl ⟨rfl, rfl, rfl, rfl, rfl⟩ rfl rfl rfl rfl rfl (by kernel_rfl) Try.func6 closed
    (of_decide_eq_true (by kernel_rfl)) (by unfold Func.isWrapper; first | (rw [if_pos (by decide +kernel)]; kernel_rfl) | (rw [if_neg (by decide +kernel)]; exact ⟨rfl, rfl⟩))
    (fun os started H enc _ => lifted os started H enc)

theorem proved : Rows.TablesSaid := over
#print axioms proved
end Go.Proofs.Ytojdpegkbndklaa.lTables
