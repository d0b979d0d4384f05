/- The law hourglasskeep.FramesCopied returns true at all numbers. No condition. -/
import Derived.Test.YtneeimfffoomgaaRows
import Derived.Test.YtneeimfffoomgaaOpen
import Derived.Test.YtneeimfffoomgaaFacts
import Derived.WalkKit
import Derived.ProofKit
import Derived.OpenShut
import Derived.ShutString
import Derived.ChangeOld
import Derived.Below
import Derived.Test.YtneeimfffoomgaaFk
namespace Go.Proofs.Ytneeimfffoomgaa.lFramesCopied
open Go Go.RowKit Go.ChangeShapes Go.WideShapes Go.ChangeAt
open Go.ChangeMaps (open_string shut_string)
set_option linter.unusedVariables false

theorem i64_1 : I64 1 := by unfold I64; omega
theorem i64_0 : I64 0 := by unfold I64; omega
theorem i64_2 : I64 2 := by unfold I64; omega

set_option maxHeartbeats 4000000 in
set_option maxRecDepth 100000 in
theorem walk (W : World) (at_ : Int) (hat : -9223372036854775808 ≤ at_ ∧ at_ ≤ 9223372036854775807) (v : Int) (hv : -9223372036854775808 ≤ v ∧ v ≤ 9223372036854775807) (x : Int) (hx : -9223372036854775808 ≤ x ∧ x ≤ 9223372036854775807) :
    Calls Try.prog 7 #[.int .i64 at_, .int .i64 v, .int .i64 x] W fun e W' => e = .returned (.bool true) ∧ Below W.heap.size W W' := by
  obtain ⟨j, hj, hj16⟩ : ∃ j : Nat, pickZ at_ 16 = j ∧ j < 16 := by
    have := pick_rng at_ 16 (by omega)
    exact ⟨(pickZ at_ 16).toNat, by omega, by omega⟩
  have HP := Lib.hid (fun w => picked_any at_ 16 w hat.1 hat.2 (by omega) (by omega))
  rw [hj] at HP
  clear hj hat
  have i1 : ∀ u ∈ List.replicate 16 (0 : Int), I64 u := i64_zeros 16
  have i2 : ∀ u ∈ (List.replicate 16 (0 : Int)).set j v, I64 u := i64_set i1 j hv
  have i3 : ∀ u ∈ ((List.replicate 16 (0 : Int)).set j v).set j x, I64 u := i64_set i2 j hx
  have i4 : ∀ u ∈ (((List.replicate 16 (0 : Int)).set j v).set j x).set j v, I64 u := i64_set i3 j hv
  obtain ⟨Z, hZ, hZl⟩ : ∃ Z, Z = List.replicate 16 (0 : Int) ∧ Z.length = 16 := ⟨_, rfl, by simp⟩
  obtain ⟨A, hA, hAl⟩ : ∃ A, A = Z.set j v ∧ A.length = 16 := ⟨_, rfl, by simp [hZl]⟩
  obtain ⟨C, hC, hCl⟩ : ∃ C, C = A.set j x ∧ C.length = 16 := ⟨_, rfl, by simp [hAl]⟩
  obtain ⟨D, hD, hDl⟩ : ∃ D, D = C.set j v ∧ D.length = 16 := ⟨_, rfl, by simp [hCl]⟩
  have g1 : A.getD j 0 = v := by rw [hA]; simp [List.getD, hZl, hj16]
  have g2 : C.getD j 0 = x := by rw [hC]; simp [List.getD, hAl, hj16]
  rw [← hZ] at i1 i2 i3 i4
  rw [← hA] at i2 i3 i4
  rw [← hC] at i3 i4
  rw [← hD] at i4
  have k1 : FOk [([] : List Int), [], []] [0, 0, 0] := fok3 okF okF okF
  have k2 : FOk [Z, [], []] [1, 0, 0] := fok3 (okU hZl 1 (by omega) (by omega)) okF okF
  have k3 : FOk [A, [], []] [1, 0, 0] := fok3 (okU hAl 1 (by omega) (by omega)) okF okF
  have k4 : FOk [A, [], []] [2, 0, 0] := fok3 (okU hAl 2 (by omega) (by omega)) okF okF
  have k5 : FOk [A, C, []] [1, 1, 0] := fok3 (okU hAl 1 (by omega) (by omega)) (okU hCl 1 (by omega) (by omega)) okF
  have b2 : FBd [Z, [], []] [1, 0, 0] := bd3 (Or.inl ⟨i1, hZl⟩) (Or.inr rfl) (Or.inr rfl) i64_1 i64_0 i64_0
  have b3 : FBd [A, [], []] [1, 0, 0] := bd3 (Or.inl ⟨i2, hAl⟩) (Or.inr rfl) (Or.inr rfl) i64_1 i64_0 i64_0
  have b4 : FBd [A, [], []] [2, 0, 0] := bd3 (Or.inl ⟨i2, hAl⟩) (Or.inr rfl) (Or.inr rfl) i64_2 i64_0 i64_0
  have b5 : FBd [A, C, []] [1, 1, 0] := bd3 (Or.inl ⟨i2, hAl⟩) (Or.inl ⟨i3, hCl⟩) (Or.inr rfl) i64_1 i64_1 i64_0
  have b6 : FBd [A, D, []] [1, 1, 0] := bd3 (Or.inl ⟨i2, hAl⟩) (Or.inl ⟨i4, hDl⟩) (Or.inr rfl) i64_1 i64_1 i64_0
  have n0 : Fz [0, 0, 0] ((0 : Nat) : Int) := Or.inl ⟨0, rfl, by decide, rfl, fun j hj => absurd hj (Nat.not_lt_zero _)⟩
  have n1 : Fz [2, 0, 0] ((1 : Nat) : Int) := Or.inl ⟨1, rfl, by decide, rfl, fun q hq => (by have e : q = 0 := (by omega); subst e; decide)⟩
  have m1 : Kn [1, 0, 0] ((0 : Nat) : Int) := ⟨by decide, by decide, by decide⟩
  have m2 : Kn [2, 0, 0] ((0 : Nat) : Int) := ⟨by decide, by decide, by decide⟩
  have m3 : Kn [1, 1, 0] ((0 : Nat) : Int) := ⟨by decide, by decide, by decide⟩
  have m4 : Kn [1, 1, 0] ((1 : Nat) : Int) := ⟨by decide, by decide, by decide⟩
  have K1 := Lib.hid k1
  have K2 := Lib.hid k2
  have K3 := Lib.hid k3
  have K4 := Lib.hid k4
  have K5 := Lib.hid k5
  have B2 := Lib.hid b2
  have B3 := Lib.hid b3
  have B4 := Lib.hid b4
  have B5 := Lib.hid b5
  have B6 := Lib.hid b6
  have N0 := Lib.hid n0
  have N1 := Lib.hid n1
  have M1 := Lib.hid m1
  have M2 := Lib.hid m2
  have M3 := Lib.hid m3
  have M4 := Lib.hid m4
  have HZ := Lib.hid hZ
  have HA := Lib.hid hA
  have HC := Lib.hid hC
  have HD := Lib.hid hD
  have G1 := Lib.hid g1
  have G2 := Lib.hid g2
  clear k1 k2 k3 k4 k5 b2 b3 b4 b5 b6 n0 n1 m1 m2 m3 m4 hZ hA hC hD g1 g2 i1 i2 i3 i4 hZl hAl hCl hDl hv hx
  go_enter Try.func7, Try.ntmps7
  go_wp2_with fail
  refine (HP.out _).mono ?_
  rintro e w0 ⟨rfl, rfl⟩
  go_wp2_with fail
  refine (new_in 3 _ (by omega)).mono ?_
  rintro e w1 ⟨v1, rfl, hf1, hb1⟩
  obtain ⟨a1, c1, a2, c2, hv1⟩ := hf1.shape
  subst hv1
  have H0 := Lib.hid (FSt.mk0 (show FramesR w1.heap.size w1 (.agg #[.slice a1 3 c1, .slice a2 3 c2]) [[], [], []] [0, 0, 0] from hf1) hb1)
  clear hf1 hb1
  go_wp2_with fail
  generalize hW : World.alloc w1 _ = W0 at H0 ⊢
  generalize hB : w1.heap.size = B at H0 ⊢
  clear hW hB
  refine (take_yes _ [[], [], []] [0, 0, 0] 0 _ H0.out.f K1.out N0.out (by decide)).mono ?_
  rintro e w1 hp
  obtain ⟨ad1, cd1, ar1, cr1, vs1, rfl, hown, hb⟩ := fy3 (show FrYesI _ 0 [Z, [], []] [1, 0, 0] e w1 from (by rw [HZ.out]; exact hp))
  have hx := block_below hb H0.out.x H0.out.lt
  have p0 := cell_block hx 0
  have p1 := cell_block hx 1
  simp only [List.getElem?_toArray, List.getElem?_cons_zero, List.getElem?_cons_succ] at p0 p1
  have f0 := free_block hx 0
  have f1 := free_block hx 1
  have lB := (Array.getElem?_eq_some_iff.1 hx).1
  have H1 := Lib.hid (H0.out.step hown hb B2.out)
  clear hp hown hb hx
  go_wp2_with fail
  generalize hW : World.setCell (World.setCell w1 _ _) _ _ = W1 at H1 ⊢
  clear hW p0 p1 f0 f1 lB
  refine (write_one _ [Z, [], []] [1, 0, 0] 0 j v _ H1.out.f K2.out M1.out hj16 rfl).mono ?_
  rintro e w2 hp
  obtain ⟨ad2, cd2, ar2, cr2, vs2, rfl, hown, hb⟩ := fy3 (show FrYesI _ 0 [A, [], []] [1, 0, 0] e w2 from (by rw [HA.out]; exact hp))
  have hx := block_below hb H1.out.x H1.out.lt
  have p0 := cell_block hx 0
  have p1 := cell_block hx 1
  simp only [List.getElem?_toArray, List.getElem?_cons_zero, List.getElem?_cons_succ] at p0 p1
  have f0 := free_block hx 0
  have f1 := free_block hx 1
  have lB := (Array.getElem?_eq_some_iff.1 hx).1
  have H2 := Lib.hid (H1.out.step hown hb B3.out)
  clear hp hown hb hx
  go_wp2_with fail
  generalize hW : World.setCell (World.setCell w2 _ _) _ _ = W2 at H2 ⊢
  clear hW p0 p1 f0 f1 lB
  refine ((share_yes _ [A, [], []] [1, 0, 0] 0 1 _ H2.out.f K3.out M1.out rfl).2 (by decide)).mono ?_
  rintro e w3 hp
  obtain ⟨ad3, cd3, ar3, cr3, vs3, rfl, hown, hb⟩ := fs3 (show FrYes _ [A, [], []] [2, 0, 0] e w3 from hp)
  have hx := block_below hb H2.out.x H2.out.lt
  have p0 := cell_block hx 0
  have p1 := cell_block hx 1
  simp only [List.getElem?_toArray, List.getElem?_cons_zero, List.getElem?_cons_succ] at p0 p1
  have f0 := free_block hx 0
  have f1 := free_block hx 1
  have lB := (Array.getElem?_eq_some_iff.1 hx).1
  have H3 := Lib.hid (H2.out.step hown hb B4.out)
  clear hp hown hb hx
  go_wp2_with fail
  generalize hW : World.setCell (World.setCell w3 _ _) _ _ = W3 at H3 ⊢
  clear hW p0 p1 f0 f1 lB
  refine (write_copy _ [A, [], []] [2, 0, 0] 0 j 1 x 2 _ H3.out.f K4.out M2.out hj16 rfl (by decide) N1.out (by decide)).mono ?_
  rintro e w4 hp
  obtain ⟨ad4, cd4, ar4, cr4, vs4, rfl, hown, hb⟩ := fy3 (show FrYesI _ 1 [A, C, []] [1, 1, 0] e w4 from (by rw [HC.out]; exact hp))
  have hx := block_below hb H3.out.x H3.out.lt
  have p0 := cell_block hx 0
  have p1 := cell_block hx 1
  simp only [List.getElem?_toArray, List.getElem?_cons_zero, List.getElem?_cons_succ] at p0 p1
  have f0 := free_block hx 0
  have f1 := free_block hx 1
  have lB := (Array.getElem?_eq_some_iff.1 hx).1
  have H4 := Lib.hid (H3.out.step hown hb B5.out)
  clear hp hown hb hx
  go_wp2_with fail
  generalize hW : World.setCell (World.setCell w4 _ _) _ _ = W4 at H4 ⊢
  clear hW p0 p1 f0 f1 lB
  refine (read_any _ [A, C, []] [1, 1, 0] ((0 : Nat) : Int) (j : Int) v 0 _ H4.out.f (by have h := RdR.word (rs := [A, C, []]) (zs := [1, 1, 0]) (n := ((0 : Nat) : Int)) (at_ := (j : Int)) K5.out M3.out (by omega); rw [← G1.out]; exact h)).mono ?_
  rintro e w5 ⟨rfl, hb⟩
  have hx := block_below hb H4.out.x H4.out.lt
  have p0 := cell_block hx 0
  have p1 := cell_block hx 1
  simp only [List.getElem?_toArray, List.getElem?_cons_zero, List.getElem?_cons_succ] at p0 p1
  have H5 := Lib.hid (H4.out.grown hb)
  clear hb hx
  go_wp2_with fail
  clear p0 p1
  refine (read_any _ [A, C, []] [1, 1, 0] ((1 : Nat) : Int) (j : Int) x 0 _ H5.out.f (by have h := RdR.word (rs := [A, C, []]) (zs := [1, 1, 0]) (n := ((1 : Nat) : Int)) (at_ := (j : Int)) K5.out M4.out (by omega); rw [← G2.out]; exact h)).mono ?_
  rintro e w6 ⟨rfl, hb⟩
  have hx := block_below hb H5.out.x H5.out.lt
  have p0 := cell_block hx 0
  have p1 := cell_block hx 1
  simp only [List.getElem?_toArray, List.getElem?_cons_zero, List.getElem?_cons_succ] at p0 p1
  have H6 := Lib.hid (H5.out.grown hb)
  clear hb hx
  go_wp2_with fail
  clear p0 p1
  refine (write_one _ [A, C, []] [1, 1, 0] 1 j v _ H6.out.f K5.out M4.out hj16 rfl).mono ?_
  rintro e w7 hp
  obtain ⟨ad7, cd7, ar7, cr7, vs7, rfl, hown, hb⟩ := fy3 (show FrYesI _ 1 [A, D, []] [1, 1, 0] e w7 from (by rw [HD.out]; exact hp))
  have hx := block_below hb H6.out.x H6.out.lt
  have p0 := cell_block hx 0
  have p1 := cell_block hx 1
  simp only [List.getElem?_toArray, List.getElem?_cons_zero, List.getElem?_cons_succ] at p0 p1
  have f0 := free_block hx 0
  have f1 := free_block hx 1
  have lB := (Array.getElem?_eq_some_iff.1 hx).1
  have H7 := Lib.hid (H6.out.step hown hb B6.out)
  obtain ⟨gr, cur, hgr, hbr, hblk, hcap⟩ := own_some hown.r (by decide)
  subst hgr
  have c0 : w7.cell? ⟨gr, 0, none⟩ = some (.int .i64 1) := (hown.r.cellAt 0 (by decide)).trans rfl
  have c1 : w7.cell? ⟨gr, 1, none⟩ = some (.int .i64 1) := (hown.r.cellAt 1 (by decide)).trans rfl
  have ngr : B ≠ gr := by intro e; subst e; rw [hblk] at hx; simp at hx
  have lgr : gr < w7.heap.size := (Array.getElem?_eq_some_iff.1 hblk).1
  clear hp hown hb hx hblk
  go_wp2
  go_ret
  exact ⟨ret_bool (by simp), H7.out.b⟩

set_option maxRecDepth 100000 in
theorem lifted (os : Os) (started : os.Started) (H : Type) (enc : TypeId × Value → H) :
    ReturnsInHanded {} Try.checked os 7 .any (Rows.framesCopiedSpec.pre6 enc Try.prog Try.f7 Rows.framesCopiedRow.domain false) (Rows.framesCopiedSpec.post enc Try.prog Try.f7 false true false false) := by
  refine returnsInHanded_of_change_sized (C := Try.checked) Facts.own started (by kernel_rfl) Try.func7
    (ChangeSpec.witness6 (enc := enc) (C := Try.checked) false ⟨#[], #[.int .i64 0, .int .i64 0, .int .i64 0], []⟩ 8 (by kernel_rfl) (by kernel_rfl) (by kernel_rfl) (by kernel_rfl)) ?_
  intro W base args ds gs before hval0 hW hcnd hsz0 _
  have hsz : (DataW.weightsEach Try.prog (Try.f7.params.toList ++ Rows.framesCopiedSpec.plain.varTypes Try.prog) (ds ++ gs)).all (· ≤ reachBytes) = true := hsz0
  have hval : ∀ (j : Nat) t v, Try.f7.params[j]? = some t → args[j]? = some v → Value.okWide Try.prog W .any base t v := hval0
  have hW' := hW
  obtain ⟨p, q, hA0, hV, rfl, hfz, hnd⟩ := hW
  have hA : DataW.TrodAll enc Try.prog W 0 (fun _ => true) true Try.f7.params.toList args.toList ds p := hA0
  rw [Try.params7] at hA hval hsz
  obtain ⟨v0, vs0, d0, ds0, p0, q0, hargs, rfl, rfl, h0, r0⟩ := trodAll_cons hA
  obtain ⟨v1, vs1, d1, ds1, p1, q1, rfl, rfl, rfl, h1, r1⟩ := trodAll_cons r0
  obtain ⟨v2, vs2, d2, ds2, p2, q2, rfl, rfl, rfl, h2, r2⟩ := trodAll_cons r1
  obtain ⟨rfl, rfl, rfl⟩ := trodAll_nil r2
  obtain rfl : args = #[v0, v1, v2] := by cases args; simp_all
  obtain ⟨rfl, rfl⟩ := trodVars_none hV
  have k0 := h0
  have lt0 : ∀ x ∈ p0, x.block < W.heap.size := by obtain ⟨m, hm⟩ := k0; exact DataW.trod_lt m _ _ _ hm
  obtain ⟨a0, rfl, rfl, rfl, w0⟩ := open_int Try.underlying3 (hval 0 3 v0 rfl rfl) h0
  have k1 := h1
  have lt1 : ∀ x ∈ p1, x.block < W.heap.size := by obtain ⟨m, hm⟩ := k1; exact DataW.trod_lt m _ _ _ hm
  obtain ⟨a1, rfl, rfl, rfl, w1⟩ := open_int Try.underlying3 (hval 1 3 v1 rfl rfl) h1
  have k2 := h2
  have lt2 : ∀ x ∈ p2, x.block < W.heap.size := by obtain ⟨m, hm⟩ := k2; exact DataW.trod_lt m _ _ _ hm
  obtain ⟨a2, rfl, rfl, rfl, w2⟩ := open_int Try.underlying3 (hval 2 3 v2 rfl rfl) h2
  clear hA0 hval0
  refine (walk W a0 (Go.bounds_i64 w0) a1 (Go.bounds_i64 w1) a2 (Go.bounds_i64 w2)).mono fun e W' ⟨he, bel⟩ => ?_
  subst he
  exact ⟨_, rfl, _, _, _, [], _, [], hW', trodAll_mk1 (shut_bool Try.underlying4 _), (trodAll_cons_mk (Below.trod Facts.laidOut (by kernel_rfl) (of_decide_eq_true (by kernel_rfl)) k0 bel lt0) (trodAll_cons_mk (Below.trod Facts.laidOut (by kernel_rfl) (of_decide_eq_true (by kernel_rfl)) k1 bel lt1) (trodAll_cons_mk (Below.trod Facts.laidOut (by kernel_rfl) (of_decide_eq_true (by kernel_rfl)) k2 bel lt2) trodAll_mk0))), rfl, bel.frame _, fun h => by cases h⟩

theorem closed : joinedFacts Try.prog 7 Try.f7 Rows.framesCopiedSpec Rows.framesCopiedRow = true := by
  unfold joinedFacts
  rw [Facts.enters, Facts.lifts, Facts.made]
  kernel_rfl

theorem over : Rows.framesCopiedRow.holds Try.pinned (OpenSpec.ofChange Rows.framesCopiedSpec) :=
  OpenClaim.holds_of_wide 7 Try.f7 rfl rfl rfl rfl rfl rfl rfl ⟨rfl, rfl, rfl, rfl, rfl⟩ rfl rfl rfl rfl rfl (by kernel_rfl) Try.func7 closed
    (of_decide_eq_true (by kernel_rfl)) (by unfold Func.isWrapper; first | (rw [if_pos (by decide +kernel)]; kernel_rfl) | (rw [if_neg (by decide +kernel)]; exact ⟨rfl, rfl⟩))
    (fun os started H enc _ => lifted os started H enc)

theorem proved : Rows.FramesCopiedSaid := over
#print axioms proved
end Go.Proofs.Ytneeimfffoomgaa.lFramesCopied
