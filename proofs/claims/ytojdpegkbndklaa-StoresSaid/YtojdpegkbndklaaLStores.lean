/- The law hourglasskeep.Stores returns true at every two numbers. No condition. -/
import Derived.Test.YtojdpegkbndklaaRows
import Derived.Test.YtojdpegkbndklaaOpen
import Derived.Test.YtojdpegkbndklaaFacts
import Derived.WalkKit
import Derived.ProofKit
import Derived.OpenShut
import Derived.ShutString
import Derived.ChangeOld
import Derived.Below
import Derived.Test.YtojdpegkbndklaaKc
import Derived.Test.YtojdpegkbndklaaPk
namespace Go.Proofs.Ytojdpegkbndklaa.lStores
open Go Go.RowKit Go.ChangeShapes Go.WideShapes Go.ChangeAt Go.Deep
open Go.ChangeMaps (open_string shut_string)
set_option linter.unusedVariables false
attribute [local go_sem ↓] Go.wp_at_zero Go.wp_at_succ

def prog : List Ins := [⟨6, 1, 0, 0⟩, ⟨5, 2, 0, 0⟩]
def smem : List Int := prog.map Ins.enc ++ List.replicate 254 0
def m0 (k v : Int) : Mach := ⟨[gf k, gf v, 0, 0, 0, 0, 0, 0], 0, 0, false, false, -1, 0, 0, smem, [], 0, -1⟩
def mA (k v : Int) : Mach := { m0 k v with count := 1, fin := 3 }
def mB (k v : Int) : Mach := { m0 k v with mem := smem.set k.toNat (gf v), pc := 1, count := 1 }
theorem m0_is (k v : Int) : gM [k, v] (prog.map Ins.enc) = m0 k v := rfl
theorem gf_small {k : Int} (h0 : 0 ≤ k) (h1 : k < 300) : gf k = k := by
  unfold gf
  rw [Int.tmod_eq_of_lt h0 (by omega), foldZ_id (by omega) (by omega)]
theorem stA {k : Int} (v : Int) (h0 : 256 ≤ k) (h1 : k < 300) : stepM (m0 k v) false [] 0 = (mA k v, -1) := by
  rw [step_at (m := m0 k v) (op := 6) (a := 1) (b := 0) (n := 0) rfl (Or.inl rfl) (by decide : (-1 : Int) < 0) (by decide : (0 : Int) ≤ 0 ∧ (0 : Int) < 256) rfl (by decide)]
  have hp : placeZ (m0 k v).table (m0 k v).mem ((m0 k v).reg 0 + 0) true = (0, 3) := by
    have e : (m0 k v).reg 0 = k := gf_small (by omega) h1
    rw [e]; exact placeZ_far (by omega)
  unfold doM
  simp only [hp]
  rfl
theorem stB {k : Int} (v : Int) (h0 : 0 ≤ k) (h1 : k < 256) : stepM (m0 k v) false [] 0 = (mB k v, k) := by
  rw [step_at (m := m0 k v) (op := 6) (a := 1) (b := 0) (n := 0) rfl (Or.inl rfl) (by decide : (-1 : Int) < 0) (by decide : (0 : Int) ≤ 0 ∧ (0 : Int) < 256) rfl (by decide)]
  have hp : placeZ (m0 k v).table (m0 k v).mem ((m0 k v).reg 0 + 0) true = (k, 0) := by
    have e : (m0 k v).reg 0 = k := gf_small h0 (by omega)
    rw [e, Int.add_zero]; exact placeZ_flat (by omega) (by decide : (-1 : Int) < 0)
  unfold doM
  simp only [hp]
  rfl
theorem stC {k : Int} (v : Int) (h0 : 2 ≤ k) (h1 : k < 256) : (stepM (mB k v) false [] 0).2 = -1 ∧ (stepM (mB k v) false [] 0).1.regs.getD 2 0 = (m0 k v).regs.getD 1 0 := by
  have hmem : (mB k v).mem.getD (mB k v).pc.toNat 0 = encZ 5 2 0 0 := by
    show (smem.set k.toNat (gf v)).getD 1 0 = _
    rw [List.getD_eq_getElem?_getD, List.getElem?_set_ne (by omega)]
    rfl
  rw [step_at (m := mB k v) (op := 5) (a := 2) (b := 0) (n := 0) rfl (Or.inl rfl) (by decide : (-1 : Int) < 0) (by decide : (0 : Int) ≤ 1 ∧ (1 : Int) < 256) hmem (by decide)]
  have hp : placeZ (mB k v).table (mB k v).mem ((mB k v).reg 0 + 0) false = (k, 0) := by
    have e : (mB k v).reg 0 = k := gf_small (by omega) (by omega)
    rw [e, Int.add_zero]; exact placeZ_flat (by omega) (by decide : (-1 : Int) < 0)
  have hv : (mB k v).mem.getD k.toNat 0 = gf v := by
    show (smem.set k.toNat (gf v)).getD k.toNat 0 = gf v
    have hl : smem.length = 256 := image_len (prog.map Ins.enc) (by decide)
    rw [List.getD_eq_getElem?_getD, List.getElem?_set_self (by omega)]
    rfl
  unfold doM
  simp only [hp]
  refine ⟨rfl, ?_⟩
  show ([gf k, gf v, (mB k v).mem.getD k.toNat 0, 0, 0, 0, 0, 0] : List Int).getD 2 0 = gf v
  exact hv
theorem ok0 (k v : Int) : MOk (m0 k v) := gM_ok (rs := [k, v]) (l := prog) (by simp) (by decide)

set_option maxHeartbeats 4000000 in
set_option maxRecDepth 100000 in
theorem walk (W : World) (n : Int) (hn : I64 n) (v : Int) (hv : I64 v) : Calls Try.prog 5 #[.int .i64 n, .int .i64 v] W fun e W' => e = .returned (.bool true) ∧ Below W.heap.size W W' := by
  have HPK := Lib.hid (fun w => picked_any n 300 w hn.1 hn.2 (by omega) (by omega))
  have hr := pick_rng n 300 (by omega)
  generalize pickZ n 300 = k at *
  obtain ⟨k0, k3⟩ := hr
  have h0 := ok0 k v
  have hw0 : ∀ z ∈ ([] : List Int), WordZ z := fun z hz => by cases hz
  have HG : Hid (∀ vr vl w, Ints w.heap.size w vr [k, v] → InsR w.heap.size w vl prog → Calls Try.prog 15 #[vr, vl] w (GuestPost w (m0 k v))) := Lib.hid (fun vr vl w hr hl => guest_any vr vl [k, v] prog w hr (by decide : 2 ≤ 8) hl (by decide) (of_words (fun z hz => by obtain ⟨y, -, rfl⟩ := List.mem_map.1 hz; exact encZ_WordZ _ _ _ _)))
  have HIJ : Hid (∀ z ∈ [k, v], I64 z) := Lib.hid (fun z hz => by rcases List.mem_cons.1 hz with rfl | hz; (unfold I64; omega); rw [List.mem_singleton.1 hz]; exact hv)
  have HS := fun (w : World) (u : Value) (hm : MachR w.heap.size w u (m0 k v)) => step_good u (.slice none 0 0) (m0 k v) false [] 0 w hm (Ints.nil _ _) (by unfold WordZ; omega) h0 (Or.inl rfl) hw0 (by decide : (0 : Int) < 1099511627776)
  have h1 : MOk (stepM (m0 k v) false [] 0).1 := stepM_ok h0 false 0 (Or.inl rfl) hw0 (by unfold WordZ; omega) (by decide : (0 : Int) < 1099511627776)
  by_cases hk : 256 ≤ k
  · rw [stA v hk k3] at HS h1
    have hfin : (mA k v).fin = 3 := rfl
    have HS1 := Lib.hid HS
    have HK0 := Lib.hid h0
    have HK1 := Lib.hid h1
    generalize m0 k v = ma at *
    generalize mA k v = mb' at *
    have h8 := h1.regs
    have h256 := h1.mem
    clear HS hn hv h0 h1
    go_enter Try.func5, Try.ntmps5
    go_wp2_with (first
      | (go_at_call 14; refine (tells_cpu _).mono ?_; rintro e w1 ⟨rfl, hb1⟩; have HB1 := Lib.hid hb1; have hs1 := hb1.size; clear hb1)
      | (go_at_call 16; refine (HPK.out _).mono ?_; rintro e w' ⟨rfl, rfl⟩)
      | (go_at_call 15; refine (HG.out _ _ _ ?_ ?_).mono ?_; (exact ints_block (zs := [k, v]) ((alloc_lt (by simp)).trans (alloc_at rfl)) (by simp) (by simp) HIJ.out); (exact insr_block (l := prog) (alloc_at (by simp)) (by decide) (by decide)); rintro e w3 ⟨ar, cr, am, cm, ao, co, he, hown, hb3⟩; have HB3 := Lib.hid (show Below W.heap.size W w3 from ((HB1.out.alloc hs1 _).alloc (by simp; omega) _).trans (hb3.mono (by simp; omega))); rw [Mach.agg, HK0.out.regs, HK0.out.mem] at he; subst he; obtain ⟨gr, mb, rfl, rfl, hx0⟩ := KBox.start HK0.out hown (Or.inr (Nat.le_refl _)) ((OutF.refl _ w3).alloc _) (alloc_at rfl); have HX0 := Lib.hid hx0; have HMR0 := Lib.hid (hx0.machR HK0.out); clear hx0 hown hb3)
      | (go_at_call 11; (with_reducible refine (HS1.out _ _ ?_).mono ?_); exact HMR0.out; rintro e w5 ⟨ar5, cr5, am5, cm5, ao5, co5, he, hown, hb5⟩; dsimp only at he hown; rw [h8, h256] at he; subst he; have HB5 := Lib.hid ((HB3.out.alloc HB3.out.size _).trans (hb5.mono (by have := HB3.out.size; simp; omega))); have HBX := Lib.hid (HX0.out.kept hb5); obtain ⟨gr5, mb5, rfl, rfl, hx5⟩ := KBox.start HK1.out hown (Or.inr (Nat.le_refl _)) ((OutF.refl _ w5).alloc _) (alloc_at rfl); have HMR5 := Lib.hid (hx5.machR HK1.out); have lb5 := HBX.out.blt; clear hown hb5 hx5))
    go_ret
    refine ⟨rfl, ?_⟩
    go_grown
    all_goals first | exact HB5.out | exact HB5.out.size
  · have hk256 : k < 256 := by omega
    have HC := Lib.hid (fun h2 : 2 ≤ k => stC v h2 hk256)
    rw [stB v k0 hk256] at HS h1
    have HT := fun (w : World) (u : Value) (hm : MachR w.heap.size w u (mB k v)) => step_good u (.slice none 0 0) (mB k v) false [] 0 w hm (Ints.nil _ _) (by unfold WordZ; omega) h1 (Or.inl rfl) hw0 (by decide : (1 : Int) < 1099511627776)
    have h2 : MOk (stepM (mB k v) false [] 0).1 := stepM_ok h1 false 0 (Or.inl rfl) hw0 (by unfold WordZ; omega) (by decide : (1 : Int) < 1099511627776)
    have HS1 := Lib.hid HS
    have HT1 := Lib.hid HT
    have HK0 := Lib.hid h0
    have HK1 := Lib.hid h1
    have HK2 := Lib.hid h2
    generalize stepM (mB k v) false [] 0 = sr at *
    obtain ⟨mc, wc⟩ := sr
    dsimp only at h2
    generalize hma : m0 k v = ma at *
    generalize mB k v = mb' at *
    have h8 := h1.regs
    have h256 := h1.mem
    have j8 := h2.regs
    have j256 := h2.mem
    clear HS HT hn hv h0 h1 h2
    by_cases hk2 : k < 2
    · have hkd : decide (k < 2) = true := decide_eq_true hk2
      go_enter Try.func5, Try.ntmps5
      go_wp2_with (first
        | (go_at_call 14; refine (tells_cpu _).mono ?_; rintro e w1 ⟨rfl, hb1⟩; have HB1 := Lib.hid hb1; have hs1 := hb1.size; clear hb1)
        | (go_at_call 16; refine (HPK.out _).mono ?_; rintro e w' ⟨rfl, rfl⟩)
        | (go_at_call 15; refine (HG.out _ _ _ ?_ ?_).mono ?_; (exact ints_block (zs := [k, v]) ((alloc_lt (by simp)).trans (alloc_at rfl)) (by simp) (by simp) HIJ.out); (exact insr_block (l := prog) (alloc_at (by simp)) (by decide) (by decide)); rintro e w3 ⟨ar, cr, am, cm, ao, co, he, hown, hb3⟩; have HB3 := Lib.hid (show Below W.heap.size W w3 from ((HB1.out.alloc hs1 _).alloc (by simp; omega) _).trans (hb3.mono (by simp; omega))); rw [Mach.agg, HK0.out.regs, HK0.out.mem] at he; subst he; obtain ⟨gr, mb, rfl, rfl, hx0⟩ := KBox.start HK0.out hown (Or.inr (Nat.le_refl _)) ((OutF.refl _ w3).alloc _) (alloc_at rfl); have HX0 := Lib.hid hx0; have HMR0 := Lib.hid (hx0.machR HK0.out); clear hx0 hown hb3)
        | (go_at_call 11; (with_reducible refine (HS1.out _ _ ?_).mono ?_); exact HMR0.out; rintro e w5 ⟨ar5, cr5, am5, cm5, ao5, co5, he, hown, hb5⟩; dsimp only at he hown; rw [h8, h256] at he; subst he; have HB5 := Lib.hid ((HB3.out.alloc HB3.out.size _).trans (hb5.mono (by have := HB3.out.size; simp; omega))); have HBX := Lib.hid (HX0.out.kept hb5); obtain ⟨gr5, mb5, rfl, rfl, hx5⟩ := KBox.start HK1.out hown (Or.inr (Nat.le_refl _)) ((OutF.refl _ w5).alloc _) (alloc_at rfl); have HMR5 := Lib.hid (hx5.machR HK1.out); have lb5 := HBX.out.blt; clear hown hb5 hx5)
        | (go_at_call 11; (with_reducible refine (HT1.out _ _ ?_).mono ?_); exact HMR5.out; rintro e w6 ⟨ar6, cr6, am6, cm6, ao6, co6, he, hown, hb6⟩; dsimp only at he hown; rw [j8, j256] at he; subst he; have HB6 := Lib.hid ((HB5.out.alloc HB5.out.size _).trans (hb6.mono (by have := HB5.out.size; simp; omega))); have HBS6 := Lib.hid hb6; have HOWN6 := Lib.hid hown; clear hown hb6))
      go_ret
      refine ⟨rfl, ?_⟩
      go_grown
      all_goals first | exact HB6.out | exact HB6.out.size
    · obtain ⟨hwc, hreg⟩ := HC.out (by omega)
      dsimp only at hwc hreg
      subst hwc
      have hk2' : ¬ k < 2 := hk2
      have HREG := Lib.hid hreg
      clear hreg
      go_enter Try.func5, Try.ntmps5
      go_upto_region 11 with (first
        | (go_at_call 14; refine (tells_cpu _).mono ?_; rintro e w1 ⟨rfl, hb1⟩; have HB1 := Lib.hid hb1; have hs1 := hb1.size; clear hb1)
        | (go_at_call 16; refine (HPK.out _).mono ?_; rintro e w' ⟨rfl, rfl⟩)
        | (go_at_call 15; refine (HG.out _ _ _ ?_ ?_).mono ?_; (exact ints_block (zs := [k, v]) ((alloc_lt (by simp)).trans (alloc_at rfl)) (by simp) (by simp) HIJ.out); (exact insr_block (l := prog) (alloc_at (by simp)) (by decide) (by decide)); rintro e w3 ⟨ar, cr, am, cm, ao, co, he, hown, hb3⟩; have HB3 := Lib.hid (show Below W.heap.size W w3 from ((HB1.out.alloc hs1 _).alloc (by simp; omega) _).trans (hb3.mono (by simp; omega))); rw [Mach.agg, HK0.out.regs, HK0.out.mem] at he; subst he; obtain ⟨gr, mb, rfl, rfl, hx0⟩ := KBox.start HK0.out hown (Or.inr (Nat.le_refl _)) ((OutF.refl _ w3).alloc _) (alloc_at rfl); have HX0 := Lib.hid hx0; have HMR0 := Lib.hid (hx0.machR HK0.out); clear hx0 hown hb3)
        | (go_at_call 11; (with_reducible refine (HS1.out _ _ ?_).mono ?_); exact HMR0.out; rintro e w5 ⟨ar5, cr5, am5, cm5, ao5, co5, he, hown, hb5⟩; dsimp only at he hown; rw [h8, h256] at he; subst he; have HB5 := Lib.hid ((HB3.out.alloc HB3.out.size _).trans (hb5.mono (by have := HB3.out.size; simp; omega))); have HBX := Lib.hid (HX0.out.kept hb5); obtain ⟨gr5, mb5, rfl, rfl, hx5⟩ := KBox.start HK1.out hown (Or.inr (Nat.le_refl _)) ((OutF.refl _ w5).alloc _) (alloc_at rfl); have HMR5 := Lib.hid (hx5.machR HK1.out); have lb5 := HBX.out.blt; clear hown hb5 hx5)
        | (go_at_call 11; (with_reducible refine (HT1.out _ _ ?_).mono ?_); exact HMR5.out; rintro e w6 ⟨ar6, cr6, am6, cm6, ao6, co6, he, hown, hb6⟩; dsimp only at he hown; rw [j8, j256] at he; subst he; have HB6 := Lib.hid ((HB5.out.alloc HB5.out.size _).trans (hb6.mono (by have := HB5.out.size; simp; omega))); have HBS6 := Lib.hid hb6; have HOWN6 := Lib.hid hown; clear hown hb6))
      obtain ⟨gr6, rfl, -⟩ := own_some0 HOWN6.out.hr (by omega)
      have c2 := own_cellAt (own_base HOWN6.out.hr (Nat.zero_le _)) (k := 2) (by omega)
      have l6 := (HOWN6.out.hr.lt gr6 rfl).2
      have hba := (HBX.out.kept (below_alloc w5 (.cells #[.slice (some ⟨gr5, 0, none⟩) 8 cr5, .int .i64 mb'.pc, .int .i64 mb'.back, .bool mb'.ints, .bool mb'.wait, .int .i64 mb'.table, .int .i64 mb'.count, .int .i64 mb'.fin, .slice (some ⟨mb5, 0, none⟩) 256 cm5, .slice ao5 mb'.out.length co5, .int .i64 mb'.ready, .int .i64 mb'.want] 24 (0, 0)))).kept HBS6.out
      have c1 := own_cellAt hba.regs (k := 1) (by omega)
      have d0 : w6.cell? ⟨w3.heap.size, 0, none⟩ = some (.slice (some ⟨gr, 0, none⟩) 8 cr) := cell_block hba.box 0
      have l3 := hba.blt
      have lg := (hba.regs.lt gr rfl).2
      rw [HREG.out] at c2
      generalize ma.regs.getD 1 0 = x at *
      clear hba
      go_quiet (fail)
      go_wp2
      go_ret
      exact ⟨rfl, below_drewN (HB6.out.alloc HB6.out.size _) _⟩

set_option maxRecDepth 100000 in
theorem lifted (os : Os) (started : os.Started) (H : Type) (enc : TypeId × Value → H) :
    ReturnsInHanded {} Try.checked os 5 .any (Rows.storesSpec.pre6 enc Try.prog Try.f5 Rows.storesRow.domain false) (Rows.storesSpec.post enc Try.prog Try.f5 false true false false) := by
  refine returnsInHanded_of_change_sized (C := Try.checked) Facts.own started (by kernel_rfl) Try.func5
    (ChangeSpec.witness6 (enc := enc) (C := Try.checked) false ⟨#[], #[.int .i64 0, .int .i64 0], []⟩ 8 (by kernel_rfl) (by kernel_rfl) (by kernel_rfl) (by kernel_rfl)) ?_
  intro W base args ds gs before hval0 hW hcnd hsz0 _
  have hsz : (DataW.weightsEach Try.prog (Try.f5.params.toList ++ Rows.storesSpec.plain.varTypes Try.prog) (ds ++ gs)).all (· ≤ reachBytes) = true := hsz0
  have hval : ∀ (j : Nat) t v, Try.f5.params[j]? = some t → args[j]? = some v → Value.okWide Try.prog W .any base t v := hval0
  have hW' := hW
  obtain ⟨p, q, hA0, hV, rfl, hfz, hnd⟩ := hW
  have hA : DataW.TrodAll enc Try.prog W 0 (fun _ => true) true Try.f5.params.toList args.toList ds p := hA0
  rw [Try.params5] at hA hval hsz
  obtain ⟨v0, vs0, d0, ds0, p0, q0, hargs, rfl, rfl, h0, r0⟩ := trodAll_cons hA
  obtain ⟨v1, vs1, d1, ds1, p1, q1, rfl, rfl, rfl, h1, r1⟩ := trodAll_cons r0
  obtain ⟨rfl, rfl, rfl⟩ := trodAll_nil r1
  obtain rfl : args = #[v0, v1] := by cases args; simp_all
  obtain ⟨rfl, rfl⟩ := trodVars_none hV
  have k0 := h0
  have lt0 : ∀ x ∈ p0, x.block < W.heap.size := by obtain ⟨m, hm⟩ := k0; exact DataW.trod_lt m _ _ _ hm
  obtain ⟨a0, rfl, rfl, rfl, w0⟩ := open_int Try.underlying3 (hval 0 3 v0 rfl rfl) h0
  have k1 := h1
  have lt1 : ∀ x ∈ p1, x.block < W.heap.size := by obtain ⟨m, hm⟩ := k1; exact DataW.trod_lt m _ _ _ hm
  obtain ⟨a1, rfl, rfl, rfl, w1⟩ := open_int Try.underlying3 (hval 1 3 v1 rfl rfl) h1
  clear hA0 hval0
  refine (walk W a0 (Go.bounds_i64 w0) a1 (Go.bounds_i64 w1)).mono fun e W' ⟨he, bel⟩ => ?_
  subst he
  exact ⟨_, rfl, _, _, _, [], _, [], hW', trodAll_mk1 (shut_bool Try.underlying4 _), (trodAll_cons_mk (Below.trod Facts.laidOut (by kernel_rfl) (of_decide_eq_true (by kernel_rfl)) k0 bel lt0) (trodAll_cons_mk (Below.trod Facts.laidOut (by kernel_rfl) (of_decide_eq_true (by kernel_rfl)) k1 bel lt1) trodAll_mk0)), rfl, bel.frame _, fun h => by cases h⟩

theorem closed : joinedFacts Try.prog 5 Try.f5 Rows.storesSpec Rows.storesRow = true := by
  unfold joinedFacts
  rw [Facts.enters, Facts.lifts, Facts.made]
  kernel_rfl

theorem over : Rows.storesRow.holds Try.pinned (OpenSpec.ofChange Rows.storesSpec) :=
  OpenClaim.holds_of_wide 5 Try.f5 rfl rfl rfl rfl rfl rfl rfl ⟨rfl, rfl, rfl, rfl, rfl⟩ rfl rfl rfl rfl rfl (by kernel_rfl) Try.func5 closed
    (of_decide_eq_true (by kernel_rfl)) (by unfold Func.isWrapper; first | (rw [if_pos (by decide +kernel)]; kernel_rfl) | (rw [if_neg (by decide +kernel)]; exact ⟨rfl, rfl⟩))
    (fun os started H enc _ => lifted os started H enc)

theorem proved : Rows.StoresSaid := over
#print axioms proved
end Go.Proofs.Ytojdpegkbndklaa.lStores
