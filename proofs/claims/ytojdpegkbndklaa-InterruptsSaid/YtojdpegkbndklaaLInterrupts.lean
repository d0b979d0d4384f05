/- The law hourglasskeep.Interrupts returns true at every number. No condition. -/
import Derived.Test.YtojdpegkbndklaaRows
import Derived.Test.YtojdpegkbndklaaOpen
import Derived.Test.YtojdpegkbndklaaFacts
import Derived.WalkKit
import Derived.ProofKit
import Derived.OpenShut
import Derived.ShutString
import Derived.ChangeOld
import Derived.Below
import Derived.Test.YtojdpegkbndklaaKc
import Derived.Test.YtojdpegkbndklaaPk
namespace Go.Proofs.Ytojdpegkbndklaa.lInterrupts
open Go Go.RowKit Go.ChangeShapes Go.WideShapes Go.ChangeAt Go.Deep
open Go.ChangeMaps (open_string shut_string)
set_option linter.unusedVariables false
attribute [local go_sem ↓] Go.wp_at_zero Go.wp_at_succ

def prog : List Ins := [⟨15, 0, 0, 0⟩, ⟨15, 0, 0, 0⟩, ⟨15, 0, 0, 0⟩, ⟨15, 0, 0, 0⟩, ⟨15, 0, 0, 0⟩, ⟨12, 0, 0, 1⟩, ⟨15, 0, 0, 0⟩, ⟨15, 0, 0, 0⟩, ⟨13, 0, 0, 0⟩]
def smem : List Int := prog.map Ins.enc ++ List.replicate 247 0
def mk (pc back : Int) (ints wait : Bool) (c : Int) : Mach := ⟨[0, 0, 0, 0, 0, 0, 0, 0], pc, back, ints, wait, -1, c, 0, smem, [], 0, -1⟩
def it (z : Int) : Nat → Mach
  | 0 => mk 0 0 false (decide (z < 0)) 0
  | 1 => mk 1 0 false (decide (z < 1)) 1
  | 2 => mk 2 0 false (decide (z < 2)) 2
  | 3 => mk 3 0 false (decide (z < 3)) 3
  | 4 => mk 4 0 false (decide (z < 4)) 4
  | 5 => mk 5 0 false (decide (z < 5)) 5
  | 6 => mk 6 0 true true 6
  | 7 => mk 6 6 true false 7
  | _ => mk 7 6 true false 8
theorem it0 {z : Int} (h : 0 ≤ z) : gM [] (prog.map Ins.enc) = it z 0 := by
  show _ = mk 0 0 false (decide (z < 0)) 0
  rw [decide_eq_false (by omega)]
  rfl
theorem bl (z k : Int) : (decide (z < k) || (k == z)) = decide (z < k + 1) := by
  by_cases h : z < k
  · rw [decide_eq_true h, decide_eq_true (by omega)]; rfl
  · by_cases e : k = z
    · subst e; rw [decide_eq_false h, decide_eq_true (by omega)]; simp
    · rw [decide_eq_false h, decide_eq_false (by omega), beq_eq_false_iff_ne.2 e]; rfl
theorem stI (m : Mach) (irq : Bool) (v : Int) : stepM m irq [] v = stepM (irqM m irq) false [] v := by
  have e : irqM (irqM m irq) false = irqM m irq := by
    show (if _ ∧ false = true then _ else _) = _
    rw [if_neg (fun h => Bool.noConfusion h.2)]
  unfold stepM
  rw [e]
theorem irq_is (pc c : Int) (wt irq : Bool) : irqM (mk pc 0 false wt c) irq = mk pc 0 false (wt || irq) c := by
  cases irq
  · cases wt <;> rfl
  · cases wt <;> rfl
theorem s0 (wt : Bool) : stepM (mk 0 0 false wt 0) false [] 0 = (mk 1 0 false wt 1, -1) :=
  (step_at (op := 15) (a := 0) (b := 0) (n := 0) rfl (Or.inr rfl) (by decide : (-1 : Int) < 0) (by decide : (0 : Int) ≤ 0 ∧ (0 : Int) < 256) rfl (by decide)).trans rfl
theorem st0 (z : Int) : stepM (it z 0) (((0 : Nat) : Int) == z) [] 0 = (it z 1, -1) := by
  rw [stI]
  show stepM (irqM (mk 0 0 false (decide (z < 0)) 0) _) false [] 0 = _
  rw [irq_is, s0]
  show (mk 1 0 false (decide (z < 0) || ((0 : Int) == z)) 1, (-1 : Int)) = (mk 1 0 false (decide (z < 1)) 1, -1)
  rw [bl]
  rfl
theorem s1 (wt : Bool) : stepM (mk 1 0 false wt 1) false [] 0 = (mk 2 0 false wt 2, -1) :=
  (step_at (op := 15) (a := 0) (b := 0) (n := 0) rfl (Or.inr rfl) (by decide : (-1 : Int) < 0) (by decide : (0 : Int) ≤ 1 ∧ (1 : Int) < 256) rfl (by decide)).trans rfl
theorem st1 (z : Int) : stepM (it z 1) (((1 : Nat) : Int) == z) [] 0 = (it z 2, -1) := by
  rw [stI]
  show stepM (irqM (mk 1 0 false (decide (z < 1)) 1) _) false [] 0 = _
  rw [irq_is, s1]
  show (mk 2 0 false (decide (z < 1) || ((1 : Int) == z)) 2, (-1 : Int)) = (mk 2 0 false (decide (z < 2)) 2, -1)
  rw [bl]
  rfl
theorem s2 (wt : Bool) : stepM (mk 2 0 false wt 2) false [] 0 = (mk 3 0 false wt 3, -1) :=
  (step_at (op := 15) (a := 0) (b := 0) (n := 0) rfl (Or.inr rfl) (by decide : (-1 : Int) < 0) (by decide : (0 : Int) ≤ 2 ∧ (2 : Int) < 256) rfl (by decide)).trans rfl
theorem st2 (z : Int) : stepM (it z 2) (((2 : Nat) : Int) == z) [] 0 = (it z 3, -1) := by
  rw [stI]
  show stepM (irqM (mk 2 0 false (decide (z < 2)) 2) _) false [] 0 = _
  rw [irq_is, s2]
  show (mk 3 0 false (decide (z < 2) || ((2 : Int) == z)) 3, (-1 : Int)) = (mk 3 0 false (decide (z < 3)) 3, -1)
  rw [bl]
  rfl
theorem s3 (wt : Bool) : stepM (mk 3 0 false wt 3) false [] 0 = (mk 4 0 false wt 4, -1) :=
  (step_at (op := 15) (a := 0) (b := 0) (n := 0) rfl (Or.inr rfl) (by decide : (-1 : Int) < 0) (by decide : (0 : Int) ≤ 3 ∧ (3 : Int) < 256) rfl (by decide)).trans rfl
theorem st3 (z : Int) : stepM (it z 3) (((3 : Nat) : Int) == z) [] 0 = (it z 4, -1) := by
  rw [stI]
  show stepM (irqM (mk 3 0 false (decide (z < 3)) 3) _) false [] 0 = _
  rw [irq_is, s3]
  show (mk 4 0 false (decide (z < 3) || ((3 : Int) == z)) 4, (-1 : Int)) = (mk 4 0 false (decide (z < 4)) 4, -1)
  rw [bl]
  rfl
theorem s4 (wt : Bool) : stepM (mk 4 0 false wt 4) false [] 0 = (mk 5 0 false wt 5, -1) :=
  (step_at (op := 15) (a := 0) (b := 0) (n := 0) rfl (Or.inr rfl) (by decide : (-1 : Int) < 0) (by decide : (0 : Int) ≤ 4 ∧ (4 : Int) < 256) rfl (by decide)).trans rfl
theorem st4 (z : Int) : stepM (it z 4) (((4 : Nat) : Int) == z) [] 0 = (it z 5, -1) := by
  rw [stI]
  show stepM (irqM (mk 4 0 false (decide (z < 4)) 4) _) false [] 0 = _
  rw [irq_is, s4]
  show (mk 5 0 false (decide (z < 4) || ((4 : Int) == z)) 5, (-1 : Int)) = (mk 5 0 false (decide (z < 5)) 5, -1)
  rw [bl]
  rfl
theorem st5 (z : Int) (h5 : z < 5) : stepM (it z 5) (((5 : Nat) : Int) == z) [] 0 = (it z 6, -1) := by
  rw [stI]
  show stepM (irqM (mk 5 0 false (decide (z < 5)) 5) _) false [] 0 = _
  rw [irq_is, decide_eq_true h5, Bool.true_or]
  exact (step_at (op := 12) (a := 0) (b := 0) (n := 1) rfl (Or.inr rfl) (by decide : (-1 : Int) < 0) (by decide : (0 : Int) ≤ 5 ∧ (5 : Int) < 256) rfl (by decide)).trans rfl
theorem st6 (z : Int) (h5 : z < 5) : stepM (it z 6) (((6 : Nat) : Int) == z) [] 0 = (it z 7, -1) := by
  rw [show (((6 : Nat) : Int) == z) = false from beq_eq_false_iff_ne.2 (by omega)]
  have e : stepM (it z 6) false [] 0 = stepM (mk 8 6 false false 6) false [] 0 := by
    have e1 : irqM (it z 6) false = mk 6 0 true true 6 := rfl
    have e2 : enterM (blockM (mk 6 0 true true 6) []) = mk 8 6 false false 6 := rfl
    have e3 : enterM (blockM (irqM (mk 8 6 false false 6) false) []) = mk 8 6 false false 6 := rfl
    unfold stepM
    rw [e1, e2, e3]
  rw [e]
  exact (step_at (op := 13) (a := 0) (b := 0) (n := 0) rfl (Or.inl rfl) (by decide : (-1 : Int) < 0) (by decide : (0 : Int) ≤ 8 ∧ (8 : Int) < 256) rfl (by decide)).trans rfl
theorem st7 (z : Int) (h5 : z < 5) : stepM (it z 7) (((7 : Nat) : Int) == z) [] 0 = (it z 8, -1) := by
  rw [show (((7 : Nat) : Int) == z) = false from beq_eq_false_iff_ne.2 (by omega)]
  exact (step_at (op := 15) (a := 0) (b := 0) (n := 0) rfl (Or.inl rfl) (by decide : (-1 : Int) < 0) (by decide : (0 : Int) ≤ 6 ∧ (6 : Int) < 256) rfl (by decide)).trans rfl
theorem st (z : Int) (h0 : 0 ≤ z) (h5 : z < 5) (k : Nat) (hk : k < 8) : stepM (it z k) ((k : Int) == z) [] 0 = (it z (k + 1), -1) := by
  rcases k with _ | _ | _ | _ | _ | _ | _ | _ | k
  · exact st0 z
  · exact st1 z
  · exact st2 z
  · exact st3 z
  · exact st4 z
  · exact st5 z h5
  · exact st6 z h5
  · exact st7 z h5
  · omega
structure Plain (z : Int) (f : Nat → Mach) : Prop where
  ok : ∀ k, k ≤ 8 → MOk (f k)
  cnt : ∀ k, k < 8 → (f k).count < 1099511627776
  st : ∀ k, k < 8 → stepM (f k) ((k : Int) == z) [] 0 = (f (k + 1), -1)
  pc1 : (f 1).pc = 1
  pc2 : (f 2).pc = 2
  pc3 : (f 3).pc = 3
  pc4 : (f 4).pc = 4
  pc5 : (f 5).pc = 5
  pc6 : (f 6).pc = 6
  i6 : (f 6).ints = true
  pc7 : (f 7).pc = 6
  i7 : (f 7).ints = true
  w7 : (f 7).wait = false
  pc8 : (f 8).pc = 7
  c8 : (f 8).count = 8
theorem cnts (z : Int) (k : Nat) (hk : k < 8) : (it z k).count < 1099511627776 := by
  rcases k with _ | _ | _ | _ | _ | _ | _ | _ | k
  · exact (by decide : (0 : Int) < 1099511627776)
  · exact (by decide : (1 : Int) < 1099511627776)
  · exact (by decide : (2 : Int) < 1099511627776)
  · exact (by decide : (3 : Int) < 1099511627776)
  · exact (by decide : (4 : Int) < 1099511627776)
  · exact (by decide : (5 : Int) < 1099511627776)
  · exact (by decide : (6 : Int) < 1099511627776)
  · exact (by decide : (7 : Int) < 1099511627776)
  · omega
theorem oks (z : Int) (h0 : 0 ≤ z) (h5 : z < 5) : ∀ k, k ≤ 8 → MOk (it z k) := by
  intro k
  induction k with
  | zero => intro _; rw [← it0 h0]; exact gM_ok (rs := []) (l := prog) (by simp) (by decide)
  | succ k ih =>
    intro hk
    have := stepM_ok (ih (by omega)) ((k : Int) == z) (b := []) 0 (Or.inl rfl) (fun z hz => by cases hz) (by unfold WordZ; omega) (cnts z k (by omega))
    rw [st z h0 h5 k (by omega)] at this
    exact this
theorem plain (z : Int) (h0 : 0 ≤ z) (h5 : z < 5) : Plain z (it z) := ⟨oks z h0 h5, cnts z, fun k hk => st z h0 h5 k hk, rfl, rfl, rfl, rfl, rfl, rfl, rfl, rfl, rfl, rfl, rfl, rfl⟩

set_option maxHeartbeats 8000000 in
set_option maxRecDepth 100000 in
theorem walk (W : World) (n : Int) (hn : I64 n) : Calls Try.prog 7 #[.int .i64 n] W fun e W' => e = .returned (.bool true) ∧ Below W.heap.size W W' := by
  have HPK := Lib.hid (fun w => picked_any n 5 w hn.1 hn.2 (by omega) (by omega))
  have hr := pick_rng n 5 (by omega)
  generalize pickZ n 5 = z at *
  obtain ⟨k0, k5⟩ := hr
  have HP := Lib.hid (plain z k0 k5)
  have HG : Hid (∀ vr vl w, Ints w.heap.size w vr [] → InsR w.heap.size w vl prog → Calls Try.prog 15 #[vr, vl] w (GuestPost w (it z 0))) := Lib.hid (fun vr vl w hr hl => by
    rw [← it0 k0]
    exact guest_any vr vl [] prog w hr (by decide) hl (by decide) (of_words (fun z hz => by obtain ⟨y, -, rfl⟩ := List.mem_map.1 hz; exact encZ_WordZ _ _ _ _)))
  generalize it z = f at *
  clear hn
  go_enter Try.func7, Try.ntmps7
  go_upto_region 4 with (first
    | (go_at_call 16; refine (HPK.out _).mono ?_; rintro e w' ⟨rfl, rfl⟩)
    | (go_at_call 15; refine (HG.out _ _ _ ?_ ?_).mono ?_; (exact Ints.nil _ _); (exact insr_block (l := prog) (alloc_at (by simp)) (by decide) (by decide)); rintro e w3 ⟨ar, cr, am, cm, ao, co, he, hown, hb3⟩; have HB3 := Lib.hid (show Below W.heap.size W w3 from ((below_alloc2 W _ _).trans (hb3.mono (by simp; omega)))); rw [Mach.agg, (HP.out.ok 0 (by omega)).regs, (HP.out.ok 0 (by omega)).mem] at he; subst he; have HOWN := Lib.hid hown; clear hown hb3))
  have hok0 := HP.out.ok 0 (by omega)
  obtain ⟨gr, mb, rfl, rfl, hb0⟩ := KBox.start hok0 HOWN.out (Or.inr (Nat.le_refl _)) ((OutF.refl _ w3).alloc _) (alloc_at rfl)
  have HB0 := Lib.hid hb0
  have HGB : Hid (W.heap.size ≤ w3.heap.size) := Lib.hid HB3.out.size
  clear hb0 hok0 HOWN HG HPK
  have HB4' := Lib.hid (fun O => HB3.out.alloc HB3.out.size O)
  generalize hW4 : w3.alloc _ = w4 at *
  have HB4 : Hid (Below W.heap.size W w4) := Lib.hid (by rw [← hW4]; exact HB4'.out _)
  clear HB4' HB3
  generalize hgb : w3.heap.size = gb at *
  clear hW4 hgb
  go_wp2_with fail
  go_loopg [28] 8 (fun gg s28 wr => ∃ k : Nat, k ≤ 8 ∧ 8 - k ≤ gg ∧ s28 = .int .i64 k ∧ Hid (∃ gr cr mb cm ao co, KBox gb gr cr mb cm (f k) ao co wr) ∧ Hid (Below W.heap.size W wr))
  case atStart => exact ⟨0, by omega, by omega, rfl, Lib.hid ⟨_, _, _, _, _, _, HB0.out⟩, HB4⟩
  case round =>
    obtain ⟨k, hk, hg, rfl, HK, HBW⟩ := hrel
    clear HB0
    by_cases hlt : k < 8
    · obtain ⟨gr, cr, mb, cm, ao, co, hb0⟩ := HK.out
      have hok := HP.out.ok k hk
      have hok' := HP.out.ok (k + 1) (by omega)
      have HSK : Hid (∀ w v, MachR w.heap.size w v (f k) → Calls Try.prog 11 #[v, .bool ((k : Int) == z), .slice none 0 0, .int .i64 0] w (GoodPost (f (k + 1), -1) w)) := Lib.hid (fun w v hm => by
        have h := step_good v (.slice none 0 0) (f k) ((k : Int) == z) [] 0 w hm (Ints.nil _ _) (by unfold WordZ; omega) hok (Or.inl rfl) (fun z hz => by cases hz) (HP.out.cnt k hlt)
        rw [HP.out.st k hlt] at h
        exact h)
      have HC1 : Hid (k < 5 → (f (k + 1)).pc = (k : Int) + 1) := Lib.hid (fun h => by
        rcases k with _ | _ | _ | _ | _ | k
        · exact HP.out.pc1
        · exact HP.out.pc2
        · exact HP.out.pc3
        · exact HP.out.pc4
        · exact HP.out.pc5
        · omega)
      have HC5 : Hid (k = 5 → (f (k + 1)).pc = 6 ∧ (f (k + 1)).ints = true) := Lib.hid (fun h => by subst h; exact ⟨HP.out.pc6, HP.out.i6⟩)
      have HC6 : Hid (k = 6 → (f (k + 1)).pc = 6 ∧ (f (k + 1)).ints = true ∧ (f (k + 1)).wait = false) := Lib.hid (fun h => by subst h; exact ⟨HP.out.pc7, HP.out.i7, HP.out.w7⟩)
      generalize hfk1 : f (k + 1) = m' at *
      generalize hfk : f k = m at *
      have HE := Lib.hid hfk1
      have h8 := hok'.regs
      have h256 := hok'.mem
      have HMR := Lib.hid (hb0.machR hok)
      have HK0 := Lib.hid hb0
      have HOK := Lib.hid hok'
      have lgb := hb0.blt
      have p0 : wr.cell? ⟨gb, 0, none⟩ = some (.slice (some ⟨gr, 0, none⟩) 8 cr) := cell_block hb0.box 0
      have p1 : wr.cell? ⟨gb, 1, none⟩ = some (.int .i64 m.pc) := cell_block hb0.box 1
      have p2 : wr.cell? ⟨gb, 2, none⟩ = some (.int .i64 m.back) := cell_block hb0.box 2
      have p3 : wr.cell? ⟨gb, 3, none⟩ = some (.bool m.ints) := cell_block hb0.box 3
      have p4 : wr.cell? ⟨gb, 4, none⟩ = some (.bool m.wait) := cell_block hb0.box 4
      have p5 : wr.cell? ⟨gb, 5, none⟩ = some (.int .i64 m.table) := cell_block hb0.box 5
      have p6 : wr.cell? ⟨gb, 6, none⟩ = some (.int .i64 m.count) := cell_block hb0.box 6
      have p7 : wr.cell? ⟨gb, 7, none⟩ = some (.int .i64 m.fin) := cell_block hb0.box 7
      have p8 : wr.cell? ⟨gb, 8, none⟩ = some (.slice (some ⟨mb, 0, none⟩) 256 cm) := cell_block hb0.box 8
      have p9 : wr.cell? ⟨gb, 9, none⟩ = some (.slice ao m.out.length co) := cell_block hb0.box 9
      have p10 : wr.cell? ⟨gb, 10, none⟩ = some (.int .i64 m.ready) := cell_block hb0.box 10
      have p11 : wr.cell? ⟨gb, 11, none⟩ = some (.int .i64 m.want) := cell_block hb0.box 11
      clear hfk hfk1 hok hok' hb0
      have hk8 : (k : Int) < 8 := by omega
      go_upto_region 10 with (go_at_call 11; (with_reducible refine (HSK.out _ _ ?_).mono ?_); exact HMR.out; rintro e w5 ⟨ar, cr2, am, cm2, ao2, co2, he, hown, hb5⟩; dsimp only at he hown; rw [h8, h256] at he; subst he; have x5 := block_below hb5 HK0.out.box HK0.out.blt; have r0 : w5.cell? ⟨gb, 0, none⟩ = some (.slice (some ⟨gr, 0, none⟩) 8 cr) := cell_block x5 0; have g0 := free_block x5 0; have r1 : w5.cell? ⟨gb, 1, none⟩ = some (.int .i64 m.pc) := cell_block x5 1; have g1 := free_block x5 1; have r2 : w5.cell? ⟨gb, 2, none⟩ = some (.int .i64 m.back) := cell_block x5 2; have g2 := free_block x5 2; have r3 : w5.cell? ⟨gb, 3, none⟩ = some (.bool m.ints) := cell_block x5 3; have g3 := free_block x5 3; have r4 : w5.cell? ⟨gb, 4, none⟩ = some (.bool m.wait) := cell_block x5 4; have g4 := free_block x5 4; have r5 : w5.cell? ⟨gb, 5, none⟩ = some (.int .i64 m.table) := cell_block x5 5; have g5 := free_block x5 5; have r6 : w5.cell? ⟨gb, 6, none⟩ = some (.int .i64 m.count) := cell_block x5 6; have g6 := free_block x5 6; have r7 : w5.cell? ⟨gb, 7, none⟩ = some (.int .i64 m.fin) := cell_block x5 7; have g7 := free_block x5 7; have r8 : w5.cell? ⟨gb, 8, none⟩ = some (.slice (some ⟨mb, 0, none⟩) 256 cm) := cell_block x5 8; have g8 := free_block x5 8; have r9 : w5.cell? ⟨gb, 9, none⟩ = some (.slice ao m.out.length co) := cell_block x5 9; have g9 := free_block x5 9; have r10 : w5.cell? ⟨gb, 10, none⟩ = some (.int .i64 m.ready) := cell_block x5 10; have g10 := free_block x5 10; have r11 : w5.cell? ⟨gb, 11, none⟩ = some (.int .i64 m.want) := cell_block x5 11; have g11 := free_block x5 11; have hs5 := hb5.size; have lgb5 : gb < w5.heap.size := Nat.lt_of_lt_of_le lgb hs5; have HOWN5 := Lib.hid hown; have HB5 := Lib.hid hb5; have X5 := Lib.hid x5; clear x5 hown hb5)
      go_cut [28] from 28 to 77 (fun s28 wx => s28 = .int .i64 k ∧ Hid (∃ gr cr mb cm ao co, KBox gb gr cr mb cm m' ao co wx) ∧ Hid (Below W.heap.size W wx))
      case first =>
        go_wp2
        go_meet
        case rel => exact ⟨rfl, Lib.hid (KBox.again HOK.out HOWN5.out lgb X5.out), Lib.hid (below_again (HBW.out.trans (HB5.out.mono HBW.out.size)) HGB.out (Nat.le_refl _))⟩
      case rest =>
        obtain ⟨rfl, HKB, HBB⟩ := hcut
        obtain ⟨gr', cr', mb', cm', ao', co', hkb⟩ := HKB.out
        have q1 : wc.cell? ⟨gb, 1, none⟩ = some (.int .i64 m'.pc) := cell_block hkb.box 1
        have q3 : wc.cell? ⟨gb, 3, none⟩ = some (.bool m'.ints) := cell_block hkb.box 3
        have q4 : wc.cell? ⟨gb, 4, none⟩ = some (.bool m'.wait) := cell_block hkb.box 4
        clear hkb X5 HOWN5 HB5 HMR HK0 p0 p1 p2 p3 p4 p5 p6 p7 p8 p9 p10 p11
        have hcases : k < 5 ∨ k = 5 ∨ k = 6 ∨ k = 7 := by omega
        rcases hcases with hc | rfl | rfl | rfl
        · rw [HC1.out hc] at q1
          have hk6 : (k : Int) < 6 := by omega
          have hk5 : ((k : Int) == 5) = false := by rw [beq_eq_false_iff_ne]; omega
          have hk6' : ((k : Int) == 6) = false := by rw [beq_eq_false_iff_ne]; omega
          go_wp2
          go_roundg (8 - (k + 1))
          case measure => omega
          case rel => exact ⟨k + 1, by omega, by omega, by go_num, Lib.hid (by rw [HE.out]; exact HKB.out), HBB⟩
        · obtain ⟨hpc, hin⟩ := HC5.out rfl
          rw [hpc] at q1
          rw [hin] at q3
          go_wp2
          go_roundg (8 - (5 + 1))
          case measure => omega
          case rel => exact ⟨5 + 1, by omega, by omega, by go_num, Lib.hid (by rw [HE.out]; exact HKB.out), HBB⟩
        · obtain ⟨hpc, hin, hwt⟩ := HC6.out rfl
          rw [hpc] at q1
          rw [hin] at q3
          rw [hwt] at q4
          go_wp2
          go_roundg (8 - (6 + 1))
          case measure => omega
          case rel => exact ⟨6 + 1, by omega, by omega, by go_num, Lib.hid (by rw [HE.out]; exact HKB.out), HBB⟩
        · go_wp2
          go_roundg (8 - (7 + 1))
          case measure => omega
          case rel => exact ⟨7 + 1, by omega, by omega, by go_num, Lib.hid (by rw [HE.out]; exact HKB.out), HBB⟩
    · have hk3 : k = 8 := by omega
      subst hk3
      obtain ⟨gr, cr, mb, cm, ao, co, hb0⟩ := HK.out
      have p1 : wr.cell? ⟨gb, 1, none⟩ = some (.int .i64 7) := (cell_block hb0.box 1).trans (by rw [← HP.out.pc8]; rfl)
      have p6 : wr.cell? ⟨gb, 6, none⟩ = some (.int .i64 8) := (cell_block hb0.box 6).trans (by rw [← HP.out.c8]; rfl)
      clear hb0
      go_wp2
      go_ret
      exact ⟨rfl, HBW.out⟩

set_option maxRecDepth 100000 in
theorem lifted (os : Os) (started : os.Started) (H : Type) (enc : TypeId × Value → H) :
    ReturnsInHanded {} Try.checked os 7 .any (Rows.interruptsSpec.pre6 enc Try.prog Try.f7 Rows.interruptsRow.domain false) (Rows.interruptsSpec.post enc Try.prog Try.f7 false true false false) := by
  refine returnsInHanded_of_change_sized (C := Try.checked) Facts.own started (by kernel_rfl) Try.func7
    (ChangeSpec.witness6 (enc := enc) (C := Try.checked) false ⟨#[], #[.int .i64 0], []⟩ 8 (by kernel_rfl) (by kernel_rfl) (by kernel_rfl) (by kernel_rfl)) ?_
  intro W base args ds gs before hval0 hW hcnd hsz0 _
  have hsz : (DataW.weightsEach Try.prog (Try.f7.params.toList ++ Rows.interruptsSpec.plain.varTypes Try.prog) (ds ++ gs)).all (· ≤ reachBytes) = true := hsz0
  have hval : ∀ (j : Nat) t v, Try.f7.params[j]? = some t → args[j]? = some v → Value.okWide Try.prog W .any base t v := hval0
  have hW' := hW
  obtain ⟨p, q, hA0, hV, rfl, hfz, hnd⟩ := hW
  have hA : DataW.TrodAll enc Try.prog W 0 (fun _ => true) true Try.f7.params.toList args.toList ds p := hA0
  rw [Try.params7] at hA hval hsz
  obtain ⟨v0, vs0, d0, ds0, p0, q0, hargs, rfl, rfl, h0, r0⟩ := trodAll_cons hA
  obtain ⟨rfl, rfl, rfl⟩ := trodAll_nil r0
  obtain rfl : args = #[v0] := by cases args; simp_all
  obtain ⟨rfl, rfl⟩ := trodVars_none hV
  have k0 := h0
  have lt0 : ∀ x ∈ p0, x.block < W.heap.size := by obtain ⟨m, hm⟩ := k0; exact DataW.trod_lt m _ _ _ hm
  obtain ⟨a0, rfl, rfl, rfl, w0⟩ := open_int Try.underlying3 (hval 0 3 v0 rfl rfl) h0
  clear hA0 hval0
  refine (walk W a0 (Go.bounds_i64 w0)).mono fun e W' ⟨he, bel⟩ => ?_
  subst he
  exact ⟨_, rfl, _, _, _, [], _, [], hW', trodAll_mk1 (shut_bool Try.underlying4 _), (trodAll_cons_mk (Below.trod Facts.laidOut (by kernel_rfl) (of_decide_eq_true (by kernel_rfl)) k0 bel lt0) trodAll_mk0), rfl, bel.frame _, fun h => by cases h⟩

theorem closed : joinedFacts Try.prog 7 Try.f7 Rows.interruptsSpec Rows.interruptsRow = true := by
  unfold joinedFacts
  rw [Facts.enters, Facts.lifts, Facts.made]
  kernel_rfl

theorem over : Rows.interruptsRow.holds Try.pinned (OpenSpec.ofChange Rows.interruptsSpec) :=
  OpenClaim.holds_of_wide 7 Try.f7 rfl rfl rfl rfl rfl rfl rfl ⟨rfl, rfl, rfl, rfl, rfl⟩ rfl rfl rfl rfl rfl (by kernel_rfl) Try.func7 closed
    (of_decide_eq_true (by kernel_rfl)) (by unfold Func.isWrapper; first | (rw [if_pos (by decide +kernel)]; kernel_rfl) | (rw [if_neg (by decide +kernel)]; exact ⟨rfl, rfl⟩))
    (fun os started H enc _ => lifted os started H enc)

theorem proved : Rows.InterruptsSaid := over
#print axioms proved
end Go.Proofs.Ytojdpegkbndklaa.lInterrupts
