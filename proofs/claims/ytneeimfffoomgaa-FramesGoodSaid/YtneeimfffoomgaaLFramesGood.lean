/- The law hourglasskeep.FramesGood returns true at every list and number. No condition. -/
import Derived.Test.YtneeimfffoomgaaRows
import Derived.Test.YtneeimfffoomgaaOpen
import Derived.Test.YtneeimfffoomgaaFacts
import Derived.WalkKit
import Derived.ProofKit
import Derived.OpenShut
import Derived.ShutString
import Derived.ChangeOld
import Derived.Below
import Derived.Test.YtneeimfffoomgaaFt
import Derived.Test.YtneeimfffoomgaaRl
import Derived.Deep.CutBlock
import Derived.Deep.RegionHeld3
namespace Go.Proofs.Ytneeimfffoomgaa.lFramesGood
open Go Go.RowKit Go.ChangeShapes Go.WideShapes Go.ChangeAt Go.Deep
open Go.ChangeMaps (open_string shut_string)
set_option linter.unusedVariables false

theorem tells_any (w : World) : Calls Try.prog 28 #[] w fun e w' => e = .returned (.bool true) ∧ Below w.heap.size w w' := by
  go_enter Try.func28, Try.ntmps28
  go_wp2_with fail
  refine (new_out (-1) _ (Or.inl (by omega))).mono ?_
  rintro e w1 ⟨v1, rfl, hf, hb⟩
  obtain ⟨a1, c1, a2, c2, hv1⟩ := hf.shape
  subst hv1
  clear hf
  go_wp2
  go_ret
  first
    | exact ⟨rfl, hb⟩
    | exact ⟨rfl, hb.alloc hb.size _⟩

/-- What stands behind the switch. -/
structure PSw (W wr : World) (B G : Nat) (c : Int) (rs : List (List Int)) (zs : List Int) (vd vr : Value) (wx : World) : Prop where
  st : FSt W B rs zs vd vr wx
  no : c ≠ 0 ∨ ∃ ad cd ar cr base rs' zs' vs, c = 0 ∧ wx.heap[G]? = some (.cells #[.slice ad rs'.length cd, .slice ar zs'.length cr] 46 (0, 0)) ∧ FrOwn base wx (.slice ad rs'.length cd) (.slice ar zs'.length cr) rs' zs' vs ∧ FGood rs' zs'
theorem psw_no {W wr W2 w3 : World} {B : Nat} {c : Int} {rs : List (List Int)} {zs : List Int} {vd vr u0 u1 : Value} (hc : c ≠ 0) (h : FSt W B rs zs vd vr wr) (h2 : Below wr.heap.size wr W2) (h3 : Below W2.heap.size W2 w3) : PSw W wr B (wr.heap.size + 1) c rs zs vd vr ((w3.setCell ⟨wr.heap.size + 1, 0, none⟩ u0).setCell ⟨wr.heap.size + 1, 1, none⟩ u1) :=
  ⟨h.grown (((h2.trans (h3.mono h2.size)).setCell (by simp) _).setCell (by simp) _), Or.inl hc⟩
theorem psw_yes {W wr W2 w3 : World} {B cd cr : Nat} {ad ar : Option Addr} {rs rs' : List (List Int)} {zs zs' : List Int} {vd vr u0 u1 : Value} {vs : List Value} (h : FSt W B rs zs vd vr wr) (h2 : Below wr.heap.size wr W2) (hG : W2.heap[wr.heap.size + 1]? = some (.cells #[u0, u1] 46 (0, 0))) (h3 : Below W2.heap.size W2 w3)
    (ho : FrOwn W2.heap.size w3 (.slice ad rs'.length cd) (.slice ar zs'.length cr) rs' zs' vs) (hg : FGood rs' zs') : PSw W wr B (wr.heap.size + 1) 0 rs zs vd vr ((w3.setCell ⟨wr.heap.size + 1, 0, none⟩ (.slice ad rs'.length cd)).setCell ⟨wr.heap.size + 1, 1, none⟩ (.slice ar zs'.length cr)) := by
  have h4 := block_below h3 hG (Array.getElem?_eq_some_iff.1 hG).1
  refine ⟨h.grown (((h2.trans (h3.mono h2.size)).setCell (by simp) _).setCell (by simp) _), Or.inr ⟨ad, cd, ar, cr, _, rs', zs', vs, rfl, by simpa using set_block (i := 1) (set_block (i := 0) h4 (.slice ad rs'.length cd)) (.slice ar zs'.length cr), (ho.set (i := 0) h4 (by decide) (by decide)).set (i := 1) (set_block h4 _) (by decide) (by decide), hg⟩⟩

theorem good_new (n : Nat) (h : n ≤ 200) : FGood (List.replicate n []) (List.replicate n 0) := by
  refine ⟨⟨by simp, by simpa using h, fun k hk => ?_⟩, ⟨fun row hr => ?_, fun z hz => ?_, by simp; omega, by simp; omega⟩⟩
  · have hk' : k < n := by simpa using hk
    simp [List.getD, hk']
    exact okF
  · rw [List.eq_of_mem_replicate hr]; simp
  · rw [List.eq_of_mem_replicate hz]; unfold I64; omega

set_option maxHeartbeats 4000000 in
set_option maxRecDepth 100000 in
theorem walk (W : World) (v : Value) (l : List Rw) (hv : RawsR W.heap.size W v l) (n : Int) (hn : -9223372036854775808 ≤ n ∧ n ≤ 9223372036854775807) :
    Calls Try.prog 8 #[v, .int .i64 n] W fun e W' => e = .returned (.bool true) ∧ Below W.heap.size W W' := by
  obtain ⟨hn1, hn2⟩ := hn
  obtain ⟨a, cap, rfl, hl, hl2, hc⟩ := hv
  have HC := Lib.hid hc
  clear hc
  go_enter Try.func8, Try.ntmps8
  go_wp2_with fail
  refine (tells_any _).mono ?_
  rintro e w0 ⟨rfl, hb0⟩
  go_wp2_with fail
  refine (picked_in n 12 _ hn1 hn2 (by omega) (by omega)).mono ?_
  rintro e w' ⟨p, hp1, hp2, rfl, rfl⟩
  go_wp2_with fail
  refine (new_in p _ ⟨hp1, by omega⟩).mono ?_
  rintro e w1 ⟨v1, rfl, hf1, hb1⟩
  obtain ⟨a1, c1, a2, c2, hv1⟩ := hf1.shape
  subst hv1
  have HG := Lib.hid (good_new p.toNat (by omega))
  generalize List.replicate p.toNat ([] : List Int) = rs0 at *
  generalize List.replicate p.toNat (0 : Int) = zs0 at *
  have H0 := Lib.hid (FSt.mk0 hf1 (hb0.trans (hb1.mono hb0.size)))
  clear hf1 hb0 hb1 hp1 hp2 hn1 hn2
  go_wp2
  generalize hW : World.alloc w1 _ = W0 at H0 ⊢
  generalize hB : w1.heap.size = B at H0 ⊢
  clear hW hB
  go_loopw [7] (fun i wr => ∃ k : Nat, i = .int .i64 k ∧ k ≤ 60 ∧ ∃ rs zs vd vr, Hid (FGood rs zs) ∧ Hid (FSt W B rs zs vd vr wr)) (fun i _ => 60 - (intOf i).toNat)
  case atStart => exact ⟨0, rfl, by omega, rs0, zs0, _, _, HG, H0⟩
  case round =>
    obtain ⟨k, rfl, hk60, rs, zs, vd, vr, HGD, HST⟩ := hrel
    clear H0 HG
    obtain ⟨ad, cd, ar, cr, hs⟩ := HST.out.f.shape
    obtain ⟨rfl, rfl⟩ : vd = .slice ad rs.length cd ∧ vr = .slice ar zs.length cr := by simpa using hs
    clear hs
    have q0 : wr.cell? ⟨B, 0, none⟩ = some (.slice ad rs.length cd) := cell_block HST.out.x 0
    have q1 : wr.cell? ⟨B, 1, none⟩ = some (.slice ar zs.length cr) := cell_block HST.out.x 1
    have lB := HST.out.lt
    by_cases hlt : k < l.length
    · by_cases h60 : k < 60
      · obtain ⟨b, off, cs, ha, hb, hcs, hcell, hR, hx1, hx2, hx3, hx4⟩ := HC.out k hlt
        generalize l[k] = x at *
        obtain ⟨xk, xa, xb, xc⟩ := x
        simp only at hR hx1 hx2 hx3 hx4
        subst hR ha
        have r0 : wr.cell? ⟨b, off + k * 4, none⟩ = some (.int .i64 xk) := (same_below HST.out.b _ _ hb).trans (hcell 0 (by simp))
        have r1 : wr.cell? ⟨b, off + k * 4 + 1, none⟩ = some (.int .i64 xa) := (same_below HST.out.b _ _ hb).trans (hcell 1 (by simp))
        have r2 : wr.cell? ⟨b, off + k * 4 + 2, none⟩ = some (.int .i64 xb) := (same_below HST.out.b _ _ hb).trans (hcell 2 (by simp))
        have r3 : wr.cell? ⟨b, off + k * 4 + 3, none⟩ = some (.int .i64 xc) := (same_below HST.out.b _ _ hb).trans (hcell 3 (by simp))
        have h60' : (k : Int) < 60 := by omega
        clear hcell
        go_wp2_with fail
        refine (picked_in xa 12 _ hx2.1 hx2.2 (by omega) (by omega)).mono ?_
        rintro e w' ⟨q, hq1, hq2, rfl, rfl⟩
        go_upto_block 2 with (go_at_call 21; refine (picked_in xk 6 _ hx1.1 hx1.2 (by omega) (by omega)).mono ?_; rintro e w' ⟨kd, hkd1, hkd2, rfl, rfl⟩)
        have HS2 := Lib.hid (HST.out.grown (below_alloc2 wr (.cells #[.int .i64 xk, .int .i64 xa, .int .i64 xb, .int .i64 xc] 33) (.cells #[.slice ad rs.length cd, .slice ar zs.length cr] 46)))
        have hG : ((wr.alloc (.cells #[.int .i64 xk, .int .i64 xa, .int .i64 xb, .int .i64 xc] 33)).alloc (.cells #[.slice ad rs.length cd, .slice ar zs.length cr] 46)).heap[wr.heap.size + 1]? = some (.cells #[.slice ad rs.length cd, .slice ar zs.length cr] 46 (0, 0)) := alloc_at (by simp)
        have hR : ((wr.alloc (.cells #[.int .i64 xk, .int .i64 xa, .int .i64 xb, .int .i64 xc] 33)).alloc (.cells #[.slice ad rs.length cd, .slice ar zs.length cr] 46)).heap[wr.heap.size]? = some (.cells #[.int .i64 xk, .int .i64 xa, .int .i64 xb, .int .i64 xc] 33 (0, 0)) := (alloc_lt (by simp)).trans (alloc_at rfl)
        have hbW : Below wr.heap.size wr ((wr.alloc (.cells #[.int .i64 xk, .int .i64 xa, .int .i64 xb, .int .i64 xc] 33)).alloc (.cells #[.slice ad rs.length cd, .slice ar zs.length cr] 46)) := below_alloc2 _ _ _
        generalize hW2 : World.alloc (World.alloc wr _) _ = W2 at HS2 hG hR hbW ⊢
        have p0 : W2.cell? ⟨B, 0, none⟩ = some (.slice ad rs.length cd) := cell_block HS2.out.x 0
        have p1 : W2.cell? ⟨B, 1, none⟩ = some (.slice ar zs.length cr) := cell_block HS2.out.x 1
        have lB2 := HS2.out.lt
        have s0 : W2.cell? ⟨wr.heap.size, 2, none⟩ = some (.int .i64 xb) := cell_block hR 2
        have s1 : W2.cell? ⟨wr.heap.size, 3, none⟩ = some (.int .i64 xc) := cell_block hR 3
        have HGX := Lib.hid hG
        have HRX := Lib.hid hR
        have HBW := Lib.hid hbW
        clear hW2 q0 q1 r0 r1 r2 r3 hG hR hbW
        go_cut [11] (fun s11 wx => ∃ c : Int, s11 = .int .i64 c ∧ PSw W wr B (wr.heap.size + 1) c rs zs (.slice ad rs.length cd) (.slice ar zs.length cr) wx)
        case first =>
          have hkd : kd = 0 ∨ kd = 1 ∨ kd = 2 ∨ kd = 3 ∨ kd = 4 ∨ kd = 5 := by omega
          clear hkd1 hkd2
          rcases hkd with rfl | rfl | rfl | rfl | hkd
          · skip
            rcases take_tot HGD.out with ⟨rs', zs', k', hg, hcall⟩ | hcall
            · go_wp2_with fail
              refine (hcall _ _ HS2.out.f).mono ?_
              rintro e w3 ⟨bd, dd, br, dr, vs, rfl, hown, hb3⟩
              have h4 := block_below hb3 HGX.out (Array.getElem?_eq_some_iff.1 HGX.out).1
              have g0 := cell_block h4 0
              have g1 := cell_block h4 1
              simp only [List.getElem?_toArray, List.getElem?_cons_zero, List.getElem?_cons_succ] at g0 g1
              have e0 := free_block h4 0
              have e1 := free_block h4 1
              have HY := Lib.hid (psw_yes HST.out HBW.out HGX.out hb3 hown hg)
              clear h4
              go_wp2
              go_meet
              exact ⟨0, rfl, HY.out⟩
            · have hc0 : (7 : Int) ≠ 0 := by omega
              go_wp2_with fail
              refine (hcall _ _ HS2.out.f).mono ?_
              rintro e w3 ⟨rfl, hb3⟩
              have h4 := block_below hb3 HGX.out (Array.getElem?_eq_some_iff.1 HGX.out).1
              have g0 := cell_block h4 0
              have g1 := cell_block h4 1
              simp only [List.getElem?_toArray, List.getElem?_cons_zero, List.getElem?_cons_succ] at g0 g1
              have e0 := free_block h4 0
              have e1 := free_block h4 1
              have HY := Lib.hid (fun u0 u1 => psw_no (u0 := u0) (u1 := u1) (zs := zs) hc0 HST.out HBW.out hb3)
              clear h4
              go_wp2
              go_meet
              exact ⟨_, rfl, HY.out _ _⟩
          · skip
            rcases take_tot HGD.out with ⟨rs', zs', k', hg, hcall⟩ | hcall
            · go_wp2_with fail
              refine (hcall _ _ HS2.out.f).mono ?_
              rintro e w3 ⟨bd, dd, br, dr, vs, rfl, hown, hb3⟩
              have h4 := block_below hb3 HGX.out (Array.getElem?_eq_some_iff.1 HGX.out).1
              have g0 := cell_block h4 0
              have g1 := cell_block h4 1
              simp only [List.getElem?_toArray, List.getElem?_cons_zero, List.getElem?_cons_succ] at g0 g1
              have e0 := free_block h4 0
              have e1 := free_block h4 1
              have HY := Lib.hid (psw_yes HST.out HBW.out HGX.out hb3 hown hg)
              clear h4
              go_wp2
              go_meet
              exact ⟨0, rfl, HY.out⟩
            · have hc0 : (7 : Int) ≠ 0 := by omega
              go_wp2_with fail
              refine (hcall _ _ HS2.out.f).mono ?_
              rintro e w3 ⟨rfl, hb3⟩
              have h4 := block_below hb3 HGX.out (Array.getElem?_eq_some_iff.1 HGX.out).1
              have g0 := cell_block h4 0
              have g1 := cell_block h4 1
              simp only [List.getElem?_toArray, List.getElem?_cons_zero, List.getElem?_cons_succ] at g0 g1
              have e0 := free_block h4 0
              have e1 := free_block h4 1
              have HY := Lib.hid (fun u0 u1 => psw_no (u0 := u0) (u1 := u1) (zs := zs) hc0 HST.out HBW.out hb3)
              clear h4
              go_wp2
              go_meet
              exact ⟨_, rfl, HY.out _ _⟩
          · skip
            rcases share_tot HGD.out q with ⟨rs', zs', hg, hcall⟩ | ⟨c, hc0, hcall⟩
            · go_wp2_with fail
              refine (hcall _ _ HS2.out.f).mono ?_
              rintro e w3 ⟨bd, dd, br, dr, vs, rfl, hown, hb3⟩
              have h4 := block_below hb3 HGX.out (Array.getElem?_eq_some_iff.1 HGX.out).1
              have g0 := cell_block h4 0
              have g1 := cell_block h4 1
              simp only [List.getElem?_toArray, List.getElem?_cons_zero, List.getElem?_cons_succ] at g0 g1
              have e0 := free_block h4 0
              have e1 := free_block h4 1
              have HY := Lib.hid (psw_yes HST.out HBW.out HGX.out hb3 hown hg)
              clear h4
              go_wp2
              go_meet
              exact ⟨0, rfl, HY.out⟩
            · go_wp2_with fail
              refine (hcall _ _ HS2.out.f).mono ?_
              rintro e w3 ⟨rfl, hb3⟩
              have h4 := block_below hb3 HGX.out (Array.getElem?_eq_some_iff.1 HGX.out).1
              have g0 := cell_block h4 0
              have g1 := cell_block h4 1
              simp only [List.getElem?_toArray, List.getElem?_cons_zero, List.getElem?_cons_succ] at g0 g1
              have e0 := free_block h4 0
              have e1 := free_block h4 1
              have HY := Lib.hid (fun u0 u1 => psw_no (u0 := u0) (u1 := u1) (zs := zs) hc0 HST.out HBW.out hb3)
              clear h4
              go_wp2
              go_meet
              exact ⟨_, rfl, HY.out _ _⟩
          · skip
            rcases drop_tot HGD.out q with ⟨rs', zs', hg, hcall⟩ | ⟨c, hc0, hcall⟩
            · go_wp2_with fail
              refine (hcall _ _ HS2.out.f).mono ?_
              rintro e w3 ⟨bd, dd, br, dr, vs, rfl, hown, hb3⟩
              have h4 := block_below hb3 HGX.out (Array.getElem?_eq_some_iff.1 HGX.out).1
              have g0 := cell_block h4 0
              have g1 := cell_block h4 1
              simp only [List.getElem?_toArray, List.getElem?_cons_zero, List.getElem?_cons_succ] at g0 g1
              have e0 := free_block h4 0
              have e1 := free_block h4 1
              have HY := Lib.hid (psw_yes HST.out HBW.out HGX.out hb3 hown hg)
              clear h4
              go_wp2
              go_meet
              exact ⟨0, rfl, HY.out⟩
            · go_wp2_with fail
              refine (hcall _ _ HS2.out.f).mono ?_
              rintro e w3 ⟨rfl, hb3⟩
              have h4 := block_below hb3 HGX.out (Array.getElem?_eq_some_iff.1 HGX.out).1
              have g0 := cell_block h4 0
              have g1 := cell_block h4 1
              simp only [List.getElem?_toArray, List.getElem?_cons_zero, List.getElem?_cons_succ] at g0 g1
              have e0 := free_block h4 0
              have e1 := free_block h4 1
              have HY := Lib.hid (fun u0 u1 => psw_no (u0 := u0) (u1 := u1) (zs := zs) hc0 HST.out HBW.out hb3)
              clear h4
              go_wp2
              go_meet
              exact ⟨_, rfl, HY.out _ _⟩
          · obtain ⟨j, hj, hj16⟩ : ∃ j : Nat, pickZ xb 16 = j ∧ j < 16 := by
              have := pick_rng xb 16 (by omega)
              exact ⟨(pickZ xb 16).toNat, by omega, by omega⟩
            have HP := Lib.hid (fun w => picked_any xb 16 w hx3.1 hx3.2 (by omega) (by omega))
            rw [hj] at HP
            clear hj
            have HW := Lib.hid (write_tot HGD.out q j hj16 xc hx4)
            have hF : FramesR W2.drew.heap.size W2.drew (.agg #[.slice ad rs.length cd, .slice ar zs.length cr]) rs zs := HS2.out.f
            have nG : ¬ B = wr.heap.size + 1 := by omega
            have hdw : Below W2.heap.size W2 W2.drew := (Below.refl _ _).drew
            rcases hkd with rfl | rfl
            · rcases HW.out with ⟨rs', zs', k', hg, hcall⟩ | ⟨c, hc0, hcall⟩
              · go_upto_region 12 with fail
                go_region_held3 (fun w' => w'.cell? ⟨B, 0, none⟩ = some (.slice ad rs.length cd) ∧ w'.cell? ⟨B, 1, none⟩ = some (.slice ar zs.length cr) ∧ w'.cell? ⟨wr.heap.size, 2, none⟩ = some (.int .i64 xb) ∧ w'.cell? ⟨wr.heap.size, 3, none⟩ = some (.int .i64 xc)) (first | ((try dsimp only); (repeat' apply And.intro) <;> (first | assumption | exact (cell_far (Or.inl (by simp; omega)) _).trans (by assumption) | exact (cell_far2 (Or.inl (by simp; omega)) (Or.inl (by simp; omega)) _ _).trans (by assumption) | go_keep))) (first | (go_at_call 21; refine (HP.out _).mono ?_; rintro e w' ⟨rfl, rfl⟩) | (go_at_call 26; refine (hcall _ _ ?_).mono ?_; (exact HS2.out.f); rintro e w3 ⟨bd, dd, br, dr, vs, rfl, hown, hb3⟩; have hb3 : Below W2.heap.size W2 w3 := hdw.trans (show Below W2.heap.size W2.drew w3 from hb3); have HY := Lib.hid (psw_yes HST.out HBW.out HGX.out hb3 hown hg); have h4 := block_below hb3 HGX.out (Array.getElem?_eq_some_iff.1 HGX.out).1; have g0 := cell_block h4 0; have g1 := cell_block h4 1; simp only [List.getElem?_toArray, List.getElem?_cons_zero, List.getElem?_cons_succ] at g0 g1; have e0 := free_block h4 0; have e1 := free_block h4 1; have z0 := (same_below hb3 B 0 lB2).trans p0; have z1 := (same_below hb3 B 1 lB2).trans p1; have z2 := (same_below hb3 wr.heap.size 2 (Array.getElem?_eq_some_iff.1 HRX.out).1).trans s0; have z3 := (same_below hb3 wr.heap.size 3 (Array.getElem?_eq_some_iff.1 HRX.out).1).trans s1; clear h4))
                all_goals (go_wp2_with fail; go_meet)
                all_goals exact ⟨0, rfl, HY.out⟩
              · go_upto_region 12 with fail
                go_region_held3 (fun w' => w'.cell? ⟨B, 0, none⟩ = some (.slice ad rs.length cd) ∧ w'.cell? ⟨B, 1, none⟩ = some (.slice ar zs.length cr) ∧ w'.cell? ⟨wr.heap.size, 2, none⟩ = some (.int .i64 xb) ∧ w'.cell? ⟨wr.heap.size, 3, none⟩ = some (.int .i64 xc)) (first | ((try dsimp only); (repeat' apply And.intro) <;> (first | assumption | exact (cell_far (Or.inl (by simp; omega)) _).trans (by assumption) | exact (cell_far2 (Or.inl (by simp; omega)) (Or.inl (by simp; omega)) _ _).trans (by assumption) | go_keep))) (first | (go_at_call 21; refine (HP.out _).mono ?_; rintro e w' ⟨rfl, rfl⟩) | (go_at_call 26; refine (hcall _ _ ?_).mono ?_; (exact HS2.out.f); rintro e w3 ⟨rfl, hb3⟩; have hb3 : Below W2.heap.size W2 w3 := hdw.trans (show Below W2.heap.size W2.drew w3 from hb3); have HY := Lib.hid (fun u0 u1 => psw_no (u0 := u0) (u1 := u1) (zs := zs) hc0 HST.out HBW.out hb3); have h4 := block_below hb3 HGX.out (Array.getElem?_eq_some_iff.1 HGX.out).1; have g0 := cell_block h4 0; have g1 := cell_block h4 1; simp only [List.getElem?_toArray, List.getElem?_cons_zero, List.getElem?_cons_succ] at g0 g1; have e0 := free_block h4 0; have e1 := free_block h4 1; have z0 := (same_below hb3 B 0 lB2).trans p0; have z1 := (same_below hb3 B 1 lB2).trans p1; have z2 := (same_below hb3 wr.heap.size 2 (Array.getElem?_eq_some_iff.1 HRX.out).1).trans s0; have z3 := (same_below hb3 wr.heap.size 3 (Array.getElem?_eq_some_iff.1 HRX.out).1).trans s1; clear h4))
                all_goals (go_wp2_with fail; go_meet)
                all_goals exact ⟨_, rfl, HY.out _ _⟩
            · rcases HW.out with ⟨rs', zs', k', hg, hcall⟩ | ⟨c, hc0, hcall⟩
              · go_upto_region 12 with fail
                go_region_held3 (fun w' => w'.cell? ⟨B, 0, none⟩ = some (.slice ad rs.length cd) ∧ w'.cell? ⟨B, 1, none⟩ = some (.slice ar zs.length cr) ∧ w'.cell? ⟨wr.heap.size, 2, none⟩ = some (.int .i64 xb) ∧ w'.cell? ⟨wr.heap.size, 3, none⟩ = some (.int .i64 xc)) (first | ((try dsimp only); (repeat' apply And.intro) <;> (first | assumption | exact (cell_far (Or.inl (by simp; omega)) _).trans (by assumption) | exact (cell_far2 (Or.inl (by simp; omega)) (Or.inl (by simp; omega)) _ _).trans (by assumption) | go_keep))) (first | (go_at_call 21; refine (HP.out _).mono ?_; rintro e w' ⟨rfl, rfl⟩) | (go_at_call 26; refine (hcall _ _ ?_).mono ?_; (exact HS2.out.f); rintro e w3 ⟨bd, dd, br, dr, vs, rfl, hown, hb3⟩; have hb3 : Below W2.heap.size W2 w3 := hdw.trans (show Below W2.heap.size W2.drew w3 from hb3); have HY := Lib.hid (psw_yes HST.out HBW.out HGX.out hb3 hown hg); have h4 := block_below hb3 HGX.out (Array.getElem?_eq_some_iff.1 HGX.out).1; have g0 := cell_block h4 0; have g1 := cell_block h4 1; simp only [List.getElem?_toArray, List.getElem?_cons_zero, List.getElem?_cons_succ] at g0 g1; have e0 := free_block h4 0; have e1 := free_block h4 1; have z0 := (same_below hb3 B 0 lB2).trans p0; have z1 := (same_below hb3 B 1 lB2).trans p1; have z2 := (same_below hb3 wr.heap.size 2 (Array.getElem?_eq_some_iff.1 HRX.out).1).trans s0; have z3 := (same_below hb3 wr.heap.size 3 (Array.getElem?_eq_some_iff.1 HRX.out).1).trans s1; clear h4))
                all_goals (go_wp2_with fail; go_meet)
                all_goals exact ⟨0, rfl, HY.out⟩
              · go_upto_region 12 with fail
                go_region_held3 (fun w' => w'.cell? ⟨B, 0, none⟩ = some (.slice ad rs.length cd) ∧ w'.cell? ⟨B, 1, none⟩ = some (.slice ar zs.length cr) ∧ w'.cell? ⟨wr.heap.size, 2, none⟩ = some (.int .i64 xb) ∧ w'.cell? ⟨wr.heap.size, 3, none⟩ = some (.int .i64 xc)) (first | ((try dsimp only); (repeat' apply And.intro) <;> (first | assumption | exact (cell_far (Or.inl (by simp; omega)) _).trans (by assumption) | exact (cell_far2 (Or.inl (by simp; omega)) (Or.inl (by simp; omega)) _ _).trans (by assumption) | go_keep))) (first | (go_at_call 21; refine (HP.out _).mono ?_; rintro e w' ⟨rfl, rfl⟩) | (go_at_call 26; refine (hcall _ _ ?_).mono ?_; (exact HS2.out.f); rintro e w3 ⟨rfl, hb3⟩; have hb3 : Below W2.heap.size W2 w3 := hdw.trans (show Below W2.heap.size W2.drew w3 from hb3); have HY := Lib.hid (fun u0 u1 => psw_no (u0 := u0) (u1 := u1) (zs := zs) hc0 HST.out HBW.out hb3); have h4 := block_below hb3 HGX.out (Array.getElem?_eq_some_iff.1 HGX.out).1; have g0 := cell_block h4 0; have g1 := cell_block h4 1; simp only [List.getElem?_toArray, List.getElem?_cons_zero, List.getElem?_cons_succ] at g0 g1; have e0 := free_block h4 0; have e1 := free_block h4 1; have z0 := (same_below hb3 B 0 lB2).trans p0; have z1 := (same_below hb3 B 1 lB2).trans p1; have z2 := (same_below hb3 wr.heap.size 2 (Array.getElem?_eq_some_iff.1 HRX.out).1).trans s0; have z3 := (same_below hb3 wr.heap.size 3 (Array.getElem?_eq_some_iff.1 HRX.out).1).trans s1; clear h4))
                all_goals (go_wp2_with fail; go_meet)
                all_goals exact ⟨_, rfl, HY.out _ _⟩
        case rest =>
          obtain ⟨c, rfl, hst, hno⟩ := hcut
          clear p0 p1 lB2 s0 s1
          have q0 : wc.cell? ⟨B, 0, none⟩ = some (.slice ad rs.length cd) := cell_block hst.x 0
          have q1 : wc.cell? ⟨B, 1, none⟩ = some (.slice ar zs.length cr) := cell_block hst.x 1
          have lBc := hst.lt
          rcases hno with hc0 | ⟨ad', cd', ar', cr', base, rs', zs', vs, rfl, hgx, hown, hg⟩
          · have hcf : (c == 0) = false := by rw [beq_eq_false_iff_ne]; exact hc0
            have HSC := Lib.hid hst
            clear hst hc0
            go_wp2_with fail
            refine (fcheck_any _ rs zs _ HSC.out.f).mono ?_
            rintro e w5 ⟨⟨_, rfl⟩ | ⟨hno, rfl⟩, hb5⟩
            rotate_left
            · exact absurd HGD.out.ok hno
            have HN := Lib.hid (HSC.out.grown hb5)
            clear hb5
            go_wp2
            go_roundw
            case rel => exact ⟨k + 1, by go_num, by omega, rs, zs, _, _, HGD, HN⟩
            case measure => simp [intOf]; omega
          · have t0 := cell_block hgx 0
            have t1 := cell_block hgx 1
            simp only [List.getElem?_toArray, List.getElem?_cons_zero, List.getElem?_cons_succ] at t0 t1
            have f0 := free_block hst.x 0
            have f1 := free_block hst.x 1
            have HSC := Lib.hid (hst.put hown hg.bd)
            have HGG := Lib.hid hg
            clear hst hown hg hgx
            go_wp2_with fail
            refine (fcheck_any _ rs' zs' _ HSC.out.f).mono ?_
            rintro e w5 ⟨⟨_, rfl⟩ | ⟨hno, rfl⟩, hb5⟩
            rotate_left
            · exact absurd HGG.out.ok hno
            have HN := Lib.hid (HSC.out.grown hb5)
            clear hb5
            go_wp2
            go_roundw
            case rel => exact ⟨k + 1, by go_num, by omega, rs', zs', _, _, HGG, HN⟩
            case measure => simp [intOf]; omega
      · obtain rfl : k = 60 := by omega
        go_wp2_with fail
        refine (fcopy_any _ rs zs _ HST.out.f).mono ?_
        rintro e w5 ⟨bd, dd, br, dr, vs, rfl, hown, hb5⟩
        have HF := Lib.hid (hown.reads HST.out.bd)
        have HB5 := Lib.hid (HST.out.b.trans (hb5.mono HST.out.b.size))
        have s5 := HST.out.b.size
        have s6 := hb5.size
        clear hown hb5
        go_wp2_with fail
        refine (fcheck_any _ rs zs _ HF.out).mono ?_
        rintro e w6 ⟨⟨_, rfl⟩ | ⟨hno, rfl⟩, hb6⟩
        rotate_left
        · exact absurd HGD.out.ok hno
        have HB6 := Lib.hid (HB5.out.trans (hb6.mono (by omega)))
        clear hb6
        go_wp2
        go_ret
        exact ⟨ret_bool (by simp), HB6.out⟩
    · have hge : ¬ (k : Int) < (l.length : Int) := by omega
      go_wp2_with fail
      refine (fcopy_any _ rs zs _ HST.out.f).mono ?_
      rintro e w5 ⟨bd, dd, br, dr, vs, rfl, hown, hb5⟩
      have HF := Lib.hid (hown.reads HST.out.bd)
      have HB5 := Lib.hid (HST.out.b.trans (hb5.mono HST.out.b.size))
      have s5 := HST.out.b.size
      have s6 := hb5.size
      clear hown hb5
      go_wp2_with fail
      refine (fcheck_any _ rs zs _ HF.out).mono ?_
      rintro e w6 ⟨⟨_, rfl⟩ | ⟨hno, rfl⟩, hb6⟩
      rotate_left
      · exact absurd HGD.out.ok hno
      have HB6 := Lib.hid (HB5.out.trans (hb6.mono (by omega)))
      clear hb6
      go_wp2
      go_ret
      exact ⟨ret_bool (by simp), HB6.out⟩

set_option maxRecDepth 100000 in
theorem lifted (os : Os) (started : os.Started) (H : Type) (enc : TypeId × Value → H) :
    ReturnsInHanded {} Try.checked os 8 .any (Rows.framesGoodSpec.pre6 enc Try.prog Try.f8 Rows.framesGoodRow.domain false) (Rows.framesGoodSpec.post enc Try.prog Try.f8 false true false false) := by
  refine returnsInHanded_of_change_sized (C := Try.checked) Facts.own started (by kernel_rfl) Try.func8
    (ChangeSpec.witness6 (enc := enc) (C := Try.checked) false ⟨#[], #[.slice none 0 0, .int .i64 0], []⟩ 8 (by kernel_rfl) (by kernel_rfl) (by kernel_rfl) (by kernel_rfl)) ?_
  intro W base args ds gs before hval0 hW hcnd hsz0 _
  have hsz : (DataW.weightsEach Try.prog (Try.f8.params.toList ++ Rows.framesGoodSpec.plain.varTypes Try.prog) (ds ++ gs)).all (· ≤ reachBytes) = true := hsz0
  have hval : ∀ (j : Nat) t v, Try.f8.params[j]? = some t → args[j]? = some v → Value.okWide Try.prog W .any base t v := hval0
  have hW' := hW
  obtain ⟨p, q, hA0, hV, rfl, hfz, hnd⟩ := hW
  have hA : DataW.TrodAll enc Try.prog W 0 (fun _ => true) true Try.f8.params.toList args.toList ds p := hA0
  rw [Try.params8] at hA hval hsz
  obtain ⟨v0, vs0, d0, ds0, p0, q0, hargs, rfl, rfl, h0, r0⟩ := trodAll_cons hA
  obtain ⟨v1, vs1, d1, ds1, p1, q1, rfl, rfl, rfl, h1, r1⟩ := trodAll_cons r0
  obtain ⟨rfl, rfl, rfl⟩ := trodAll_nil r1
  obtain rfl : args = #[v0, v1] := by cases args; simp_all
  obtain ⟨rfl, rfl⟩ := trodVars_none hV
  have k0 := h0
  have lt0 : ∀ x ∈ p0, x.block < W.heap.size := by obtain ⟨m, hm⟩ := k0; exact DataW.trod_lt m _ _ _ hm
  obtain ⟨x0_0, w0⟩ := open_rawsR (hval 0 56 v0 rfl rfl) h0 (fits_at hsz (j := 0) rfl rfl)
  have k1 := h1
  have lt1 : ∀ x ∈ p1, x.block < W.heap.size := by obtain ⟨m, hm⟩ := k1; exact DataW.trod_lt m _ _ _ hm
  obtain ⟨a1, rfl, rfl, rfl, w1⟩ := open_int Try.underlying3 (hval 1 3 v1 rfl rfl) h1
  clear hA0 hval0
  refine (walk W v0 x0_0 w0 a1 (Go.bounds_i64 w1)).mono fun e W' ⟨he, bel⟩ => ?_
  subst he
  exact ⟨_, rfl, _, _, _, [], _, [], hW', trodAll_mk1 (shut_bool Try.underlying4 _), (trodAll_cons_mk (Below.trod Facts.laidOut (by kernel_rfl) (of_decide_eq_true (by kernel_rfl)) k0 bel lt0) (trodAll_cons_mk (Below.trod Facts.laidOut (by kernel_rfl) (of_decide_eq_true (by kernel_rfl)) k1 bel lt1) trodAll_mk0)), rfl, bel.frame _, fun h => by cases h⟩

theorem closed : joinedFacts Try.prog 8 Try.f8 Rows.framesGoodSpec Rows.framesGoodRow = true := by
  unfold joinedFacts
  rw [Facts.enters, Facts.lifts, Facts.made]
  kernel_rfl

theorem over : Rows.framesGoodRow.holds Try.pinned (OpenSpec.ofChange Rows.framesGoodSpec) :=
  OpenClaim.holds_of_wide 8 Try.f8 rfl rfl rfl rfl rfl rfl rfl ⟨rfl, rfl, rfl, rfl, rfl⟩ rfl rfl rfl rfl rfl (by kernel_rfl) Try.func8 closed
    (of_decide_eq_true (by kernel_rfl)) (by unfold Func.isWrapper; first | (rw [if_pos (by decide +kernel)]; kernel_rfl) | (rw [if_neg (by decide +kernel)]; exact ⟨rfl, rfl⟩))
    (fun os started H enc _ => lifted os started H enc)

theorem proved : Rows.FramesGoodSaid := over
#print axioms proved
end Go.Proofs.Ytneeimfffoomgaa.lFramesGood
