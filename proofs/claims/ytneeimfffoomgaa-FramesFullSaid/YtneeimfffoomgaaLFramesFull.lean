/- The law hourglasskeep.FramesFull returns true at every number. No condition. -/
import Derived.Test.YtneeimfffoomgaaRows
import Derived.Test.YtneeimfffoomgaaOpen
import Derived.Test.YtneeimfffoomgaaFacts
import Derived.WalkKit
import Derived.ProofKit
import Derived.OpenShut
import Derived.ShutString
import Derived.ChangeOld
import Derived.Below
import Derived.Test.YtneeimfffoomgaaFt
namespace Go.Proofs.Ytneeimfffoomgaa.lFramesFull
open Go Go.RowKit Go.ChangeShapes Go.WideShapes Go.ChangeAt Go.Deep
open Go.ChangeMaps (open_string shut_string)
set_option linter.unusedVariables false

/-- k frames, of which the first i are taken. -/
def rsT (k i : Nat) : List (List Int) := List.replicate i (List.replicate 16 0) ++ List.replicate (k - i) []
def zsT (k i : Nat) : List Int := List.replicate i 1 ++ List.replicate (k - i) 0
theorem rsT_len {k i : Nat} (h : i ≤ k) : (rsT k i).length = k := by simp [rsT]; omega
theorem zsT_len {k i : Nat} (h : i ≤ k) : (zsT k i).length = k := by simp [zsT]; omega
theorem zsT_at {k i j : Nat} (h : i ≤ k) (hj : j < k) : (zsT k i).getD j 0 = if j < i then 1 else 0 := by
  unfold zsT
  rw [List.getD, List.getElem?_append]
  split
  · rename_i hh
    simp at hh
    simp [hh]
  · rename_i hh
    simp at hh
    have : j - i < k - i := by omega
    rw [if_neg (by omega)]
    simp [this]
theorem rsT_at {k i j : Nat} (h : i ≤ k) (hj : j < k) : (rsT k i).getD j [] = if j < i then List.replicate 16 0 else [] := by
  unfold rsT
  rw [List.getD, List.getElem?_append]
  split
  · rename_i hh
    simp at hh
    simp [hh]
  · rename_i hh
    simp at hh
    have : j - i < k - i := by omega
    rw [if_neg (by omega)]
    simp [this]
theorem good_T {k i : Nat} (h : i ≤ k) (hk : k ≤ 200) : FGood (rsT k i) (zsT k i) := by
  refine ⟨⟨by rw [rsT_len h, zsT_len h], by rw [zsT_len h]; exact hk, fun j hj => ?_⟩, ⟨fun row hr => ?_, fun z hz => ?_, by rw [rsT_len h]; omega, by rw [zsT_len h]; omega⟩⟩
  · rw [zsT_len h] at hj
    rw [zsT_at h hj, rsT_at h hj]
    split
    · exact okU (by simp) 1 (by omega) (by omega)
    · exact okF
  · rcases List.mem_append.1 hr with hr | hr
    · rw [List.eq_of_mem_replicate hr]; exact ⟨i64_zeros 16, by simp⟩
    · rw [List.eq_of_mem_replicate hr]; simp
  · rcases List.mem_append.1 hz with hz | hz
    · rw [List.eq_of_mem_replicate hz]; unfold I64; omega
    · rw [List.eq_of_mem_replicate hz]; unfold I64; omega
theorem free_T {k i : Nat} (h : i < k) : Fz (zsT k i) i := by
  refine Or.inl ⟨i, rfl, by rw [zsT_len (by omega)]; exact h, by rw [zsT_at (by omega) h, if_neg (by omega)], fun j hj => ?_⟩
  rw [zsT_at (by omega) (by omega), if_pos hj]
  decide
theorem full_T {k : Nat} : Fz (zsT k k) (-1) := by
  refine Or.inr ⟨rfl, fun j hj => ?_⟩
  rw [zsT_len (Nat.le_refl _)] at hj
  rw [zsT_at (Nat.le_refl _) hj, if_pos hj]
  decide
theorem zsT_step {k i : Nat} (h : i < k) : (zsT k i).set i 1 = zsT k (i + 1) := by
  apply List.ext_getElem
  · rw [List.length_set, zsT_len (by omega), zsT_len (by omega)]
  · intro j h1 h2
    rw [List.length_set, zsT_len (by omega)] at h1
    have e1 := zsT_at (k := k) (i := i + 1) (by omega) h1
    have e2 := zsT_at (k := k) (i := i) (by omega) h1
    rw [getD_of h2] at e1
    rw [getD_of (by rw [zsT_len (by omega)]; exact h1)] at e2
    rw [List.getElem_set, e1]
    split
    · subst_vars; rw [if_pos (by omega)]
    · rw [e2]; split <;> split <;> first | rfl | omega
theorem rsT_step {k i : Nat} (h : i < k) : (rsT k i).set i (List.replicate 16 0) = rsT k (i + 1) := by
  apply List.ext_getElem
  · rw [List.length_set, rsT_len (by omega), rsT_len (by omega)]
  · intro j h1 h2
    rw [List.length_set, rsT_len (by omega)] at h1
    have e1 := rsT_at (k := k) (i := i + 1) (by omega) h1
    have e2 := rsT_at (k := k) (i := i) (by omega) h1
    rw [getD_of h2] at e1
    rw [getD_of (by rw [rsT_len (by omega)]; exact h1)] at e2
    rw [List.getElem_set, e1]
    split
    · subst_vars; rw [if_pos (by omega)]
    · rw [e2]; split <;> split <;> first | rfl | omega

set_option maxHeartbeats 4000000 in
set_option maxRecDepth 100000 in
theorem walk (W : World) (n : Int) (hn : -9223372036854775808 ≤ n ∧ n ≤ 9223372036854775807) :
    Calls Try.prog 6 #[.int .i64 n] W fun e W' => e = .returned (.bool true) ∧ Below W.heap.size W W' := by
  obtain ⟨hn1, hn2⟩ := hn
  obtain ⟨k, hk, hk1, hk20⟩ : ∃ k : Nat, 1 + pickZ n 20 = k ∧ 1 ≤ k ∧ k ≤ 20 := by
    have := pick_rng n 20 (by omega)
    exact ⟨(1 + pickZ n 20).toNat, by omega, by omega, by omega⟩
  have hq : pickZ n 20 = (k : Int) - 1 := by omega
  have HP := Lib.hid (fun w => picked_any n 20 w hn1 hn2 (by omega) (by omega))
  rw [hq] at HP
  clear hq hk hn1 hn2
  go_enter Try.func6, Try.ntmps6
  go_wp2_with fail
  refine (HP.out _).mono ?_
  rintro e w' ⟨rfl, rfl⟩
  go_wp2_with fail
  have e1 : (1 : Int) + ((k : Int) - 1) = k := by omega
  simp only [e1]
  refine (new_in k _ ⟨by omega, by omega⟩).mono ?_
  rintro e w1 ⟨v1, rfl, hf1, hb1⟩
  have e2 : List.replicate (k : Int).toNat ([] : List Int) = rsT k 0 := by simp [rsT]
  have e3 : List.replicate (k : Int).toNat (0 : Int) = zsT k 0 := by simp [zsT]
  rw [e2, e3] at hf1
  obtain ⟨a1, c1, a2, c2, hv1⟩ := hf1.shape
  subst hv1
  have H0 := Lib.hid (FSt.mk0 hf1 hb1)
  clear hf1 hb1 e1 e2 e3
  go_wp2
  generalize hW : World.alloc w1 _ = W0 at H0 ⊢
  generalize hB : w1.heap.size = B at H0 ⊢
  clear hW hB
  go_loopw [28] (fun i wr => ∃ j : Nat, i = .int .i64 j ∧ j ≤ k ∧ ∃ vd vr, Hid (FSt W B (rsT k j) (zsT k j) vd vr wr)) (fun i _ => k - (intOf i).toNat)
  case atStart => exact ⟨0, rfl, by omega, _, _, H0⟩
  case round =>
    obtain ⟨j, rfl, hj, vd, vr, HST⟩ := hrel
    clear H0
    obtain ⟨ad, cd, ar, cr, hs⟩ := HST.out.f.shape
    obtain ⟨rfl, rfl⟩ : vd = .slice ad (rsT k j).length cd ∧ vr = .slice ar (zsT k j).length cr := by simpa using hs
    clear hs
    have q0 : wr.cell? ⟨B, 0, none⟩ = some (.slice ad (rsT k j).length cd) := cell_block HST.out.x 0
    have q1 : wr.cell? ⟨B, 1, none⟩ = some (.slice ar (zsT k j).length cr) := cell_block HST.out.x 1
    have lB := HST.out.lt
    by_cases hlt : j < k
    · go_wp2_with fail
      refine (take_yes _ (rsT k j) (zsT k j) j _ HST.out.f (good_T hj (by omega)).ok (free_T hlt) (by rw [zsT_len hj]; exact hlt)).mono ?_
      rw [rsT_step hlt, zsT_step hlt]
      rintro e w3 ⟨bd, dd, br, dr, vs, rfl, hown, hb3⟩
      have hx := block_below hb3 HST.out.x HST.out.lt
      have f0 := free_block hx 0
      have f1 := free_block hx 1
      have p0 := cell_block hx 0
      have p1 := cell_block hx 1
      simp only [List.getElem?_toArray, List.getElem?_cons_zero, List.getElem?_cons_succ] at p0 p1
      have lB3 := (Array.getElem?_eq_some_iff.1 hx).1
      have HN := Lib.hid (((HST.out.grown hb3).put hown (good_T (k := k) (i := j + 1) (by omega) (by omega)).bd).grown (below_alloc _ (.cells #[.slice bd (rsT k (j + 1)).length dd, .slice br (zsT k (j + 1)).length dr] 46)))
      clear hown hb3 hx
      go_wp2
      go_roundw
      case rel => exact ⟨j + 1, by go_num, by omega, _, _, HN⟩
      case measure => simp [intOf]; omega
    · obtain rfl : j = k := by omega
      obtain ⟨m, hm, hmk⟩ : ∃ m : Nat, (j : Int) / 2 = m ∧ m < j := ⟨j / 2, by omega, by omega⟩
      have HM := Lib.hid hm
      clear hm
      have z1 : (zsT j j).getD m 0 = 1 := by rw [zsT_at (Nat.le_refl _) hmk, if_pos hmk]
      have kn : Kn (zsT j j) m := ⟨by omega, by rw [zsT_len (Nat.le_refl _)]; omega, by rw [show ((m : Int)).toNat = m by omega, z1]; decide⟩
      have g2 : FGood ((rsT j j).set m []) ((zsT j j).set m 0) := ⟨(good_T (Nat.le_refl _) (by omega)).ok.put (by rw [zsT_len (Nat.le_refl _)]; exact hmk) (row := []) okF, ((good_T (k := j) (i := j) (Nat.le_refl _) (by omega)).bd.setNil m).setRef m 0 (by unfold I64; omega)⟩
      have lz : ((zsT j j).set m 0).length = j := by rw [List.length_set, zsT_len (Nat.le_refl _)]
      have z0 : ((zsT j j).set m 0).getD m 0 = 0 := getD_set_same (by rw [zsT_len (Nat.le_refl _)]; exact hmk) _ _
      have nkn : ¬ Kn ((zsT j j).set m 0) m := fun h => h.2.2 (by rw [show ((m : Int)).toNat = m by omega]; exact z0)
      have fz2 : Fz ((zsT j j).set m 0) m := Or.inl ⟨m, rfl, by rw [lz]; exact hmk, z0, fun i hi => by rw [getD_set_ne (by omega), zsT_at (Nat.le_refl _) (by omega), if_pos (by omega)]; decide⟩
      have KN := Lib.hid kn
      have Z1 := Lib.hid z1
      have G1 := Lib.hid (good_T (k := j) (i := j) (Nat.le_refl _) (by omega))
      have G2 := Lib.hid g2
      have NK := Lib.hid nkn
      have FZ := Lib.hid fz2
      have LZ := Lib.hid lz
      clear kn z1 g2 nkn fz2 lz z0
      obtain ⟨rs2, hrs2⟩ : ∃ r, r = (rsT j j).set m [] := ⟨_, rfl⟩
      obtain ⟨zs2, hzs2⟩ : ∃ r, r = (zsT j j).set m 0 := ⟨_, rfl⟩
      rw [← hrs2, ← hzs2] at G2
      rw [← hzs2] at NK FZ LZ
      have HRS := Lib.hid hrs2
      have HZS := Lib.hid hzs2
      clear hrs2 hzs2
      have nlt : ¬ (j : Int) < (j : Int) := by omega
      go_wp2_with fail
      refine (take_full _ (rsT j j) (zsT j j) _ HST.out.f G1.out.ok full_T).mono ?_
      rintro e w3 ⟨rfl, hb3⟩
      have hx := block_below hb3 HST.out.x HST.out.lt
      have p0 := cell_block hx 0
      have p1 := cell_block hx 1
      simp only [List.getElem?_toArray, List.getElem?_cons_zero, List.getElem?_cons_succ] at p0 p1
      have lB3 := (Array.getElem?_eq_some_iff.1 hx).1
      have H3 := Lib.hid ((HST.out.grown hb3).grown (below_alloc w3 (.cells #[.slice none 0 0, .slice none 0 0] 46)))
      clear hb3 hx
      go_wp2_with fail
      simp only [HM.out]
      refine ((drop_yes _ (rsT j j) (zsT j j) m 1 _ H3.out.f G1.out.ok KN.out Z1.out).2 rfl).mono ?_
      rw [← HRS.out, ← HZS.out]
      rintro e w4 ⟨bd, dd, br, dr, vs, rfl, hown, hb4⟩
      have hx := block_below hb4 H3.out.x H3.out.lt
      have f0 := free_block hx 0
      have f1 := free_block hx 1
      have q0 := cell_block hx 0
      have q1 := cell_block hx 1
      simp only [List.getElem?_toArray, List.getElem?_cons_zero, List.getElem?_cons_succ] at q0 q1
      have lB4 := (Array.getElem?_eq_some_iff.1 hx).1
      have H4 := Lib.hid ((H3.out.grown hb4).put hown G2.out.bd)
      clear hown hb4 hx
      go_wp2_with fail
      generalize hW : World.setCell (World.setCell w4 _ _) _ _ = W4 at H4 ⊢
      clear hW q0 q1 f0 f1 lB4 p0 p1 lB3
      simp only [HM.out]
      refine (read_any _ rs2 zs2 (m : Int) 0 0 6 _ H4.out.f (RdR.none G2.out.ok NK.out)).mono ?_
      rintro e w5 ⟨rfl, hb5⟩
      have hx := block_below hb5 H4.out.x H4.out.lt
      have q0 := cell_block hx 0
      have q1 := cell_block hx 1
      simp only [List.getElem?_toArray, List.getElem?_cons_zero, List.getElem?_cons_succ] at q0 q1
      have lB5 := (Array.getElem?_eq_some_iff.1 hx).1
      have H5 := Lib.hid (H4.out.grown hb5)
      clear hb5 hx
      go_wp2_with fail
      refine (take_yes _ rs2 zs2 m _ H5.out.f G2.out.ok FZ.out (by rw [LZ.out]; exact hmk)).mono ?_
      rintro e w6 ⟨bd6, dd6, br6, dr6, vs6, rfl, hown, hb6⟩
      have H6 := Lib.hid (fun O => ((H5.out.grown hb6).b).alloc (H5.out.grown hb6).b.size O)
      clear hown hb6
      go_wp2
      go_ret
      exact ⟨ret_bool (by simp [HM.out]), H6.out _⟩

set_option maxRecDepth 100000 in
theorem lifted (os : Os) (started : os.Started) (H : Type) (enc : TypeId × Value → H) :
    ReturnsInHanded {} Try.checked os 6 .any (Rows.framesFullSpec.pre6 enc Try.prog Try.f6 Rows.framesFullRow.domain false) (Rows.framesFullSpec.post enc Try.prog Try.f6 false true false false) := by
  refine returnsInHanded_of_change_sized (C := Try.checked) Facts.own started (by kernel_rfl) Try.func6
    (ChangeSpec.witness6 (enc := enc) (C := Try.checked) false ⟨#[], #[.int .i64 0], []⟩ 8 (by kernel_rfl) (by kernel_rfl) (by kernel_rfl) (by kernel_rfl)) ?_
  intro W base args ds gs before hval0 hW hcnd hsz0 _
  have hsz : (DataW.weightsEach Try.prog (Try.f6.params.toList ++ Rows.framesFullSpec.plain.varTypes Try.prog) (ds ++ gs)).all (· ≤ reachBytes) = true := hsz0
  have hval : ∀ (j : Nat) t v, Try.f6.params[j]? = some t → args[j]? = some v → Value.okWide Try.prog W .any base t v := hval0
  have hW' := hW
  obtain ⟨p, q, hA0, hV, rfl, hfz, hnd⟩ := hW
  have hA : DataW.TrodAll enc Try.prog W 0 (fun _ => true) true Try.f6.params.toList args.toList ds p := hA0
  rw [Try.params6] at hA hval hsz
  obtain ⟨v0, vs0, d0, ds0, p0, q0, hargs, rfl, rfl, h0, r0⟩ := trodAll_cons hA
  obtain ⟨rfl, rfl, rfl⟩ := trodAll_nil r0
  obtain rfl : args = #[v0] := by cases args; simp_all
  obtain ⟨rfl, rfl⟩ := trodVars_none hV
  have k0 := h0
  have lt0 : ∀ x ∈ p0, x.block < W.heap.size := by obtain ⟨m, hm⟩ := k0; exact DataW.trod_lt m _ _ _ hm
  obtain ⟨a0, rfl, rfl, rfl, w0⟩ := open_int Try.underlying3 (hval 0 3 v0 rfl rfl) h0
  clear hA0 hval0
  refine (walk W a0 (Go.bounds_i64 w0)).mono fun e W' ⟨he, bel⟩ => ?_
  subst he
  exact ⟨_, rfl, _, _, _, [], _, [], hW', trodAll_mk1 (shut_bool Try.underlying4 _), (trodAll_cons_mk (Below.trod Facts.laidOut (by kernel_rfl) (of_decide_eq_true (by kernel_rfl)) k0 bel lt0) trodAll_mk0), rfl, bel.frame _, fun h => by cases h⟩

theorem closed : joinedFacts Try.prog 6 Try.f6 Rows.framesFullSpec Rows.framesFullRow = true := by
  unfold joinedFacts
  rw [Facts.enters, Facts.lifts, Facts.made]
  kernel_rfl

theorem over : Rows.framesFullRow.holds Try.pinned (OpenSpec.ofChange Rows.framesFullSpec) :=
  OpenClaim.holds_of_wide 6 Try.f6 rfl rfl rfl rfl rfl rfl rfl ⟨rfl, rfl, rfl, rfl, rfl⟩ rfl rfl rfl rfl rfl (by kernel_rfl) Try.func6 closed
    (of_decide_eq_true (by kernel_rfl)) (by unfold Func.isWrapper; first | (rw [if_pos (by decide +kernel)]; kernel_rfl) | (rw [if_neg (by decide +kernel)]; exact ⟨rfl, rfl⟩))
    (fun os started H enc _ => lifted os started H enc)

theorem proved : Rows.FramesFullSaid := over
#print axioms proved
end Go.Proofs.Ytneeimfffoomgaa.lFramesFull
