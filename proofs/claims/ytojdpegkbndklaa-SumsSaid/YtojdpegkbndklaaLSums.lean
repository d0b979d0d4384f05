/- The law hourglasskeep.Sums returns true at every two numbers. No condition. -/
import Derived.Test.YtojdpegkbndklaaRows
import Derived.Test.YtojdpegkbndklaaOpen
import Derived.Test.YtojdpegkbndklaaFacts
import Derived.WalkKit
import Derived.ProofKit
import Derived.OpenShut
import Derived.ShutString
import Derived.ChangeOld
import Derived.Below
import Derived.Test.YtojdpegkbndklaaKc
namespace Go.Proofs.Ytojdpegkbndklaa.lSums
open Go Go.RowKit Go.ChangeShapes Go.WideShapes Go.ChangeAt Go.Deep
open Go.ChangeMaps (open_string shut_string)
set_option linter.unusedVariables false
attribute [local go_sem ↓] Go.wp_at_zero Go.wp_at_succ

def prog : List Ins := [⟨2, 2, 0, 1⟩, ⟨3, 3, 2, 1⟩, ⟨3, 4, 0, 0⟩]
def smem : List Int := prog.map Ins.enc ++ List.replicate 253 0
def mk (regs : List Int) (k : Int) : Mach := ⟨regs, k, 0, false, false, -1, k, 0, smem, [], 0, -1⟩
def it (a b : Int) : Nat → Mach
  | 0 => mk [gf a, gf b, 0, 0, 0, 0, 0, 0] 0
  | 1 => mk [gf a, gf b, foldZ (gf a + gf b), 0, 0, 0, 0, 0] 1
  | 2 => mk [gf a, gf b, foldZ (gf a + gf b), foldZ (foldZ (gf a + gf b) - gf b), 0, 0, 0, 0] 2
  | _ => mk [gf a, gf b, foldZ (gf a + gf b), foldZ (foldZ (gf a + gf b) - gf b), foldZ (gf a - gf a), 0, 0, 0] 3
theorem it0 (a b : Int) : gM [a, b] (prog.map Ins.enc) = it a b 0 := rfl
theorem st0 (a b : Int) : stepM (it a b 0) false [] 0 = (it a b 1, -1) :=
  (step_at (op := 2) (a := 2) (b := 0) (n := 1) rfl (Or.inl rfl) (by decide : (-1 : Int) < 0) (by decide : (0 : Int) ≤ 0 ∧ (0 : Int) < 256) rfl (by decide)).trans rfl
theorem st1 (a b : Int) : stepM (it a b 1) false [] 0 = (it a b 2, -1) :=
  (step_at (op := 3) (a := 3) (b := 2) (n := 1) rfl (Or.inl rfl) (by decide : (-1 : Int) < 0) (by decide : (0 : Int) ≤ 1 ∧ (1 : Int) < 256) rfl (by decide)).trans rfl
theorem st2 (a b : Int) : stepM (it a b 2) false [] 0 = (it a b 3, -1) :=
  (step_at (op := 3) (a := 4) (b := 0) (n := 0) rfl (Or.inl rfl) (by decide : (-1 : Int) < 0) (by decide : (0 : Int) ≤ 2 ∧ (2 : Int) < 256) rfl (by decide)).trans rfl
structure Plain (f : Nat → Mach) : Prop where
  ok : ∀ k, k ≤ 3 → MOk (f k)
  cnt : ∀ k, k ≤ 3 → (f k).count < 1099511627776
  st : ∀ k, k < 3 → stepM (f k) false [] 0 = (f (k + 1), -1)
  r3 : (f 3).regs.getD 3 0 = (f 0).regs.getD 0 0
  r4 : (f 3).regs.getD 4 0 = 0
  c3 : (f 3).count = 3
  p3 : (f 3).pc = 3
  e3 : (f 3).fin = 0
theorem plain (a b : Int) : Plain (it a b) := by
  have h0 : MOk (it a b 0) := gM_ok (rs := [a, b]) (l := prog) (by simp) (by decide)
  have hw : ∀ z ∈ ([] : List Int), WordZ z := fun z hz => by cases hz
  have h1 : MOk (it a b 1) := by have := stepM_ok h0 false 0 (Or.inl rfl) hw (by unfold WordZ; omega) (by decide : (0 : Int) < 1099511627776); rw [st0] at this; exact this
  have h2 : MOk (it a b 2) := by have := stepM_ok h1 false 0 (Or.inl rfl) hw (by unfold WordZ; omega) (by decide : (1 : Int) < 1099511627776); rw [st1] at this; exact this
  have h3 : MOk (it a b 3) := by have := stepM_ok h2 false 0 (Or.inl rfl) hw (by unfold WordZ; omega) (by decide : (2 : Int) < 1099511627776); rw [st2] at this; exact this
  have ga := gf_word a
  have gb := gf_word b
  refine ⟨?_, ?_, ?_, ?_, ?_, rfl, rfl, rfl⟩
  · intro k hk
    rcases k with _ | _ | _ | _ | k
    · exact h0
    · exact h1
    · exact h2
    · exact h3
    · omega
  · intro k hk
    rcases k with _ | _ | _ | _ | k
    · exact (by decide : (0 : Int) < 1099511627776)
    · exact (by decide : (1 : Int) < 1099511627776)
    · exact (by decide : (2 : Int) < 1099511627776)
    · exact (by decide : (3 : Int) < 1099511627776)
    · omega
  · intro k hk
    rcases k with _ | _ | _ | k
    · exact st0 a b
    · exact st1 a b
    · exact st2 a b
    · omega
  · show foldZ (foldZ (gf a + gf b) - gf b) = gf a
    generalize gf a = x at *
    generalize gf b = y at *
    unfold foldZ WordZ at *
    omega
  · show foldZ (gf a - gf a) = 0
    rw [Int.sub_self]; rfl

set_option maxHeartbeats 4000000 in
set_option maxRecDepth 100000 in
theorem walk (W : World) (a : Int) (ha : I64 a) (b : Int) (hb : I64 b) : Calls Try.prog 4 #[.int .i64 a, .int .i64 b] W fun e W' => e = .returned (.bool true) ∧ Below W.heap.size W W' := by
  have HP := Lib.hid (plain a b)
  have HG : Hid (∀ vr vl w, Ints w.heap.size w vr [a, b] → InsR w.heap.size w vl prog → Calls Try.prog 15 #[vr, vl] w (GuestPost w (it a b 0))) := Lib.hid (fun vr vl w hr hl => guest_any vr vl [a, b] prog w hr (by decide : 2 ≤ 8) hl (by decide) (of_words (fun z hz => by obtain ⟨y, -, rfl⟩ := List.mem_map.1 hz; exact encZ_WordZ _ _ _ _)))
  have HIJ : Hid (∀ z ∈ [a, b], I64 z) := Lib.hid (fun z hz => by rcases List.mem_cons.1 hz with rfl | hz; exact ha; rw [List.mem_singleton.1 hz]; exact hb)
  generalize it a b = f at *
  clear ha hb
  go_enter Try.func4, Try.ntmps4
  go_upto_region 4 with (first
    | (go_at_call 14; refine (tells_cpu _).mono ?_; rintro e w1 ⟨rfl, hb1⟩; have HB1 := Lib.hid hb1; have hs1 := hb1.size; clear hb1)
    | (go_at_call 15; refine (HG.out _ _ _ ?_ ?_).mono ?_; (exact ints_block (zs := [a, b]) ((alloc_lt (by simp)).trans (alloc_at rfl)) (by simp) (by simp) HIJ.out); (exact insr_block (l := prog) (alloc_at (by simp)) (by decide) (by decide)); rintro e w3 ⟨ar, cr, am, cm, ao, co, he, hown, hb3⟩; have HB3 := Lib.hid (show Below W.heap.size W w3 from ((HB1.out.alloc hs1 _).alloc (by simp; omega) _).trans (hb3.mono (by simp; omega))); have hlt3 := hb3.size; rw [Mach.agg, (HP.out.ok 0 (by omega)).regs, (HP.out.ok 0 (by omega)).mem] at he; subst he; have HOWN := Lib.hid hown; clear hown hb3))
  have hok0 := HP.out.ok 0 (by omega)
  obtain ⟨gr, mb, rfl, rfl, hb0⟩ := KBox.start hok0 HOWN.out (Or.inr (Nat.le_refl _)) ((OutF.refl _ w3).alloc _) (alloc_at rfl)
  have c0 := own_cellAt hb0.regs (k := 0) (by omega)
  have d0 : _ = some (Value.slice (some ⟨gr, 0, none⟩) 8 cr) := cell_block hb0.box 0
  have HB0 := Lib.hid hb0
  clear hb0 hok0
  generalize hx : (f 0).regs.getD 0 0 = x at *
  have HB4' := Lib.hid (fun O => HB3.out.alloc HB3.out.size O)
  generalize hW4 : w3.alloc _ = w4 at *
  have HB4 : Hid (Below W.heap.size W w4) := Lib.hid (by rw [← hW4]; exact HB4'.out _)
  clear HB4'
  have HGB : Hid (W.heap.size ≤ w3.heap.size) := Lib.hid HB3.out.size
  generalize hgb : w3.heap.size = gb at *
  clear hW4
  go_wp2_with fail
  go_loopg [28] 3 (fun gg s28 wr => ∃ k : Nat, k ≤ 3 ∧ 3 - k ≤ gg ∧ s28 = .int .i64 k ∧ Hid (∃ gr cr mb cm ao co, KBox gb gr cr mb cm (f k) ao co wr) ∧ Hid (Below W.heap.size W wr))
  case atStart => exact ⟨0, by omega, by omega, rfl, Lib.hid ⟨_, _, _, _, _, _, HB0.out⟩, HB4⟩
  case round =>
    obtain ⟨k, hk, hg, rfl, HK, HBW⟩ := hrel
    by_cases hlt : k < 3
    · clear c0 d0 HB0 HOWN
      obtain ⟨gr, cr, mb, cm, ao, co, hb0⟩ := HK.out
      have hok := HP.out.ok k hk
      have hok' := HP.out.ok (k + 1) (by omega)
      have HSK : Hid (∀ w v, MachR w.heap.size w v (f k) → Calls Try.prog 11 #[v, .bool false, .slice none 0 0, .int .i64 0] w (GoodPost (f (k + 1), -1) w)) := Lib.hid (fun w v hm => by
        have h := step_good v (.slice none 0 0) (f k) false [] 0 w hm (Ints.nil _ _) (by unfold WordZ; omega) hok (Or.inl rfl) (fun z hz => by cases hz) (HP.out.cnt k hk)
        rw [HP.out.st k hlt] at h
        exact h)
      have hm' : Hid (f (k + 1) = f (k + 1)) := Lib.hid rfl
      generalize hfk1 : f (k + 1) = m' at *
      generalize hfk : f k = m at *
      have HE := Lib.hid hfk1
      have h8 := hok'.regs
      have h256 := hok'.mem
      have HMR := Lib.hid (hb0.machR hok)
      have HK0 := Lib.hid hb0
      have HOK := Lib.hid hok'
      have lgb := hb0.blt
      have p0 : wr.cell? ⟨gb, 0, none⟩ = some (.slice (some ⟨gr, 0, none⟩) 8 cr) := cell_block hb0.box 0
      have p1 : wr.cell? ⟨gb, 1, none⟩ = some (.int .i64 m.pc) := cell_block hb0.box 1
      have p2 : wr.cell? ⟨gb, 2, none⟩ = some (.int .i64 m.back) := cell_block hb0.box 2
      have p3 : wr.cell? ⟨gb, 3, none⟩ = some (.bool m.ints) := cell_block hb0.box 3
      have p4 : wr.cell? ⟨gb, 4, none⟩ = some (.bool m.wait) := cell_block hb0.box 4
      have p5 : wr.cell? ⟨gb, 5, none⟩ = some (.int .i64 m.table) := cell_block hb0.box 5
      have p6 : wr.cell? ⟨gb, 6, none⟩ = some (.int .i64 m.count) := cell_block hb0.box 6
      have p7 : wr.cell? ⟨gb, 7, none⟩ = some (.int .i64 m.fin) := cell_block hb0.box 7
      have p8 : wr.cell? ⟨gb, 8, none⟩ = some (.slice (some ⟨mb, 0, none⟩) 256 cm) := cell_block hb0.box 8
      have p9 : wr.cell? ⟨gb, 9, none⟩ = some (.slice ao m.out.length co) := cell_block hb0.box 9
      have p10 : wr.cell? ⟨gb, 10, none⟩ = some (.int .i64 m.ready) := cell_block hb0.box 10
      have p11 : wr.cell? ⟨gb, 11, none⟩ = some (.int .i64 m.want) := cell_block hb0.box 11
      clear hfk hfk1 hok hok' hb0 hm'
      go_wp2_with (go_at_call 11; (with_reducible refine (HSK.out _ _ ?_).mono ?_); exact HMR.out; rintro e w5 ⟨ar, cr2, am, cm2, ao2, co2, he, hown, hb5⟩; dsimp only at he hown; rw [h8, h256] at he; subst he; have x5 := block_below hb5 HK0.out.box HK0.out.blt; have r0 : w5.cell? ⟨gb, 0, none⟩ = some (.slice (some ⟨gr, 0, none⟩) 8 cr) := cell_block x5 0; have g0 := free_block x5 0; have r1 : w5.cell? ⟨gb, 1, none⟩ = some (.int .i64 m.pc) := cell_block x5 1; have g1 := free_block x5 1; have r2 : w5.cell? ⟨gb, 2, none⟩ = some (.int .i64 m.back) := cell_block x5 2; have g2 := free_block x5 2; have r3 : w5.cell? ⟨gb, 3, none⟩ = some (.bool m.ints) := cell_block x5 3; have g3 := free_block x5 3; have r4 : w5.cell? ⟨gb, 4, none⟩ = some (.bool m.wait) := cell_block x5 4; have g4 := free_block x5 4; have r5 : w5.cell? ⟨gb, 5, none⟩ = some (.int .i64 m.table) := cell_block x5 5; have g5 := free_block x5 5; have r6 : w5.cell? ⟨gb, 6, none⟩ = some (.int .i64 m.count) := cell_block x5 6; have g6 := free_block x5 6; have r7 : w5.cell? ⟨gb, 7, none⟩ = some (.int .i64 m.fin) := cell_block x5 7; have g7 := free_block x5 7; have r8 : w5.cell? ⟨gb, 8, none⟩ = some (.slice (some ⟨mb, 0, none⟩) 256 cm) := cell_block x5 8; have g8 := free_block x5 8; have r9 : w5.cell? ⟨gb, 9, none⟩ = some (.slice ao m.out.length co) := cell_block x5 9; have g9 := free_block x5 9; have r10 : w5.cell? ⟨gb, 10, none⟩ = some (.int .i64 m.ready) := cell_block x5 10; have g10 := free_block x5 10; have r11 : w5.cell? ⟨gb, 11, none⟩ = some (.int .i64 m.want) := cell_block x5 11; have g11 := free_block x5 11; have hs5 := hb5.size; have lgb5 : gb < w5.heap.size := Nat.lt_of_lt_of_le lgb hs5; have HOWN5 := Lib.hid hown; have HB5 := Lib.hid hb5; have X5 := Lib.hid x5; clear x5 hown hb5)
      go_roundg (3 - (k + 1))
      case measure => omega
      case rel => exact ⟨k + 1, by omega, by omega, by go_num, Lib.hid (by rw [HE.out]; exact KBox.again HOK.out HOWN5.out lgb X5.out), Lib.hid (below_again (HBW.out.trans (HB5.out.mono HBW.out.size)) HGB.out (Nat.le_refl _))⟩
    · have hk3 : k = 3 := by omega
      subst hk3
      clear c0 d0 HB0 HOWN
      obtain ⟨gr, cr, mb, cm, ao, co, hb0⟩ := HK.out
      have q3 := own_cellAt hb0.regs (k := 3) (by omega)
      have q4 := own_cellAt hb0.regs (k := 4) (by omega)
      rw [HP.out.r3, hx] at q3
      rw [HP.out.r4] at q4
      have p0 : wr.cell? ⟨gb, 0, none⟩ = some (.slice (some ⟨gr, 0, none⟩) 8 cr) := cell_block hb0.box 0
      have p1 : wr.cell? ⟨gb, 1, none⟩ = some (.int .i64 3) := (cell_block hb0.box 1).trans (by rw [← HP.out.p3]; rfl)
      have p6 : wr.cell? ⟨gb, 6, none⟩ = some (.int .i64 3) := (cell_block hb0.box 6).trans (by rw [← HP.out.c3]; rfl)
      have p7 : wr.cell? ⟨gb, 7, none⟩ = some (.int .i64 0) := (cell_block hb0.box 7).trans (by rw [← HP.out.e3]; rfl)
      clear hb0
      go_wp2
      go_ret
      exact ⟨rfl, HBW.out⟩

set_option maxRecDepth 100000 in
theorem lifted (os : Os) (started : os.Started) (H : Type) (enc : TypeId × Value → H) :
    ReturnsInHanded {} Try.checked os 4 .any (Rows.sumsSpec.pre6 enc Try.prog Try.f4 Rows.sumsRow.domain false) (Rows.sumsSpec.post enc Try.prog Try.f4 false true false false) := by
  refine returnsInHanded_of_change_sized (C := Try.checked) Facts.own started (by kernel_rfl) Try.func4
    (ChangeSpec.witness6 (enc := enc) (C := Try.checked) false ⟨#[], #[.int .i64 0, .int .i64 0], []⟩ 8 (by kernel_rfl) (by kernel_rfl) (by kernel_rfl) (by kernel_rfl)) ?_
  intro W base args ds gs before hval0 hW hcnd hsz0 _
  have hsz : (DataW.weightsEach Try.prog (Try.f4.params.toList ++ Rows.sumsSpec.plain.varTypes Try.prog) (ds ++ gs)).all (· ≤ reachBytes) = true := hsz0
  have hval : ∀ (j : Nat) t v, Try.f4.params[j]? = some t → args[j]? = some v → Value.okWide Try.prog W .any base t v := hval0
  have hW' := hW
  obtain ⟨p, q, hA0, hV, rfl, hfz, hnd⟩ := hW
  have hA : DataW.TrodAll enc Try.prog W 0 (fun _ => true) true Try.f4.params.toList args.toList ds p := hA0
  rw [Try.params4] at hA hval hsz
  obtain ⟨v0, vs0, d0, ds0, p0, q0, hargs, rfl, rfl, h0, r0⟩ := trodAll_cons hA
  obtain ⟨v1, vs1, d1, ds1, p1, q1, rfl, rfl, rfl, h1, r1⟩ := trodAll_cons r0
  obtain ⟨rfl, rfl, rfl⟩ := trodAll_nil r1
  obtain rfl : args = #[v0, v1] := by cases args; simp_all
  obtain ⟨rfl, rfl⟩ := trodVars_none hV
  have k0 := h0
  have lt0 : ∀ x ∈ p0, x.block < W.heap.size := by obtain ⟨m, hm⟩ := k0; exact DataW.trod_lt m _ _ _ hm
  obtain ⟨a0, rfl, rfl, rfl, w0⟩ := open_int Try.underlying3 (hval 0 3 v0 rfl rfl) h0
  have k1 := h1
  have lt1 : ∀ x ∈ p1, x.block < W.heap.size := by obtain ⟨m, hm⟩ := k1; exact DataW.trod_lt m _ _ _ hm
  obtain ⟨a1, rfl, rfl, rfl, w1⟩ := open_int Try.underlying3 (hval 1 3 v1 rfl rfl) h1
  clear hA0 hval0
  refine (walk W a0 (Go.bounds_i64 w0) a1 (Go.bounds_i64 w1)).mono fun e W' ⟨he, bel⟩ => ?_
  subst he
  exact ⟨_, rfl, _, _, _, [], _, [], hW', trodAll_mk1 (shut_bool Try.underlying4 _), (trodAll_cons_mk (Below.trod Facts.laidOut (by kernel_rfl) (of_decide_eq_true (by kernel_rfl)) k0 bel lt0) (trodAll_cons_mk (Below.trod Facts.laidOut (by kernel_rfl) (of_decide_eq_true (by kernel_rfl)) k1 bel lt1) trodAll_mk0)), rfl, bel.frame _, fun h => by cases h⟩

theorem closed : joinedFacts Try.prog 4 Try.f4 Rows.sumsSpec Rows.sumsRow = true := by
  unfold joinedFacts
  rw [Facts.enters, Facts.lifts, Facts.made]
  kernel_rfl

theorem over : Rows.sumsRow.holds Try.pinned (OpenSpec.ofChange Rows.sumsSpec) :=
  OpenClaim.holds_of_wide 4 Try.f4 rfl rfl rfl rfl rfl rfl rfl ⟨rfl, rfl, rfl, rfl, rfl⟩ rfl rfl rfl rfl rfl (by kernel_rfl) Try.func4 closed
    (of_decide_eq_true (by kernel_rfl)) (by unfold Func.isWrapper; first | (rw [if_pos (by decide +kernel)]; kernel_rfl) | (rw [if_neg (by decide +kernel)]; exact ⟨rfl, rfl⟩))
    (fun os started H enc _ => lifted os started H enc)

theorem proved : Rows.SumsSaid := over
#print axioms proved
end Go.Proofs.Ytojdpegkbndklaa.lSums
