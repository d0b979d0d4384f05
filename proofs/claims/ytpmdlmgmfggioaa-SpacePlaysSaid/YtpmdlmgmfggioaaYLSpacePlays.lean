/- The law hourglasslaw.SpacePlays returns true at every number and every two lists of writes. No condition. -/
import Derived.Test.YtpmdlmgmfggioaaRows
import Derived.Test.YtpmdlmgmfggioaaYMem
import Derived.Test.YtpmdlmgmfggioaaYFacts
import Derived.WalkKit
import Derived.ProofKit
import Derived.OpenShut
import Derived.ShutString
import Derived.ChangeOld
import Derived.Below
import Derived.Test.YtpmdlmgmfggioaaYPlc
namespace Go.Proofs.Ytpmdlmgmfggioaa.lSpacePlays
open Go Go.RowKit Go.ChangeShapes Go.WideShapes Go.ChangeAt
open Go.ChangeMaps (open_string shut_string)
set_option linter.unusedVariables false
set_option linter.unusedSimpArgs false

set_option maxHeartbeats 4000000 in
theorem walk (W : World) (n : Int) (hn : -9223372036854775808 ≤ n ∧ n ≤ 9223372036854775807) (v1 : Value) (first : List (Int × Int)) (h1 : P2R W.heap.size W v1 first) (v2 : Value) (writes : List (Int × Int × Int)) (h2 : P3R W.heap.size W v2 writes) :
    Calls Try.prog 3 #[.int .i64 n, v1, v2] W fun e W' => e = .returned (.bool true) ∧ Below W.heap.size W W' := by
  have H1 := Lib.hid h1
  have H2 := Lib.hid h2
  obtain ⟨a1, c1, rfl, _⟩ := id h1
  obtain ⟨a2, c2, rfl, _⟩ := id h2
  clear h1 h2
  have HP := Lib.hid (play_any n _ _ first writes W hn H1.out H2.out)
  have HQ := Lib.hid (fun (w1 : World) (hb : Below W.heap.size W w1) => playedof_any n _ _ first writes w1 hn (H1.out.to hb.size (same_below hb)) (H2.out.to hb.size (same_below hb)))
  generalize PlayO n first writes = o at *
  clear H1 H2
  go_enter Try.func3, Try.ntmps3
  go_wp2_with fail
  refine HP.out.mono ?_
  rintro e w1 ⟨vx, vy, rfl, hx, hy, hb1⟩
  obtain ⟨xa, xc, rfl, -⟩ := id hx
  obtain ⟨ya, yc, rfl, -⟩ := id hy
  have HX := Lib.hid hx
  have HY := Lib.hid hy
  have HB1 := Lib.hid hb1
  clear hx hy hb1
  go_wp2_with fail
  refine (HQ.out w1 HB1.out).mono ?_
  rintro e w2 ⟨vx, vy, rfl, hx, hy, hb2⟩
  obtain ⟨za, zc, rfl, -⟩ := id hx
  obtain ⟨ua, uc, rfl, -⟩ := id hy
  have HX2 := Lib.hid hx
  have HY2 := Lib.hid hy
  have HX1 := Lib.hid (HX.out.to hb2.size (same_below hb2))
  have HY1 := Lib.hid (HY.out.to hb2.size (same_below hb2))
  have HB2 := Lib.hid (HB1.out.trans (hb2.mono HB1.out.size))
  clear hx hy hb2
  have HS1 := Lib.hid (fun q => sameInts_yes _ _ o.1 (w2.drewN q) (HX1.out.to (Nat.le_refl _) (fun _ _ _ => rfl)) (HX2.out.to (Nat.le_refl _) (fun _ _ _ => rfl)))
  have HS2 := Lib.hid (fun q => sameInts_yes _ _ o.2.1 (w2.drewN q) (HY1.out.to (Nat.le_refl _) (fun _ _ _ => rfl)) (HY2.out.to (Nat.le_refl _) (fun _ _ _ => rfl)))
  clear HX HY HX1 HY1 HX2 HY2 HP HQ
  generalize o.1.length = l1 at *
  generalize o.2.1.length = l2 at *
  generalize o.2.2.1 = k at *
  generalize o.2.2.2 = c at *
  go_wp2_with fail
  refine (HS1.out 0).mono ?_
  rintro e w3 ⟨rfl, q1, rfl⟩
  simp only [World.drewN_drewN] 
  go_wp2_with fail
  refine (HS2.out _).mono ?_
  rintro e w4 ⟨rfl, q2, rfl⟩
  go_wp2_with fail
  go_ret
  exact ⟨rfl, below_drewN HB2.out _⟩

set_option maxRecDepth 100000 in
theorem lifted (os : Os) (started : os.Started) (H : Type) (enc : TypeId × Value → H) :
    ReturnsInHanded {} Try.checked os 3 .any (Rows.spacePlaysSpec.pre6 enc Try.prog Try.f3 Rows.spacePlaysRow.domain false) (Rows.spacePlaysSpec.post enc Try.prog Try.f3 false true false false) := by
  refine returnsInHanded_of_change_sized (C := Try.checked) Facts.own started (by kernel_rfl) Try.func3
    (ChangeSpec.witness6 (enc := enc) (C := Try.checked) false ⟨#[], #[.int .i64 0, .slice none 0 0, .slice none 0 0], []⟩ 8 (by kernel_rfl) (by kernel_rfl) (by kernel_rfl) (by kernel_rfl)) ?_
  intro W base args ds gs before hval0 hW hcnd hsz0 _
  have hsz : (DataW.weightsEach Try.prog (Try.f3.params.toList ++ Rows.spacePlaysSpec.plain.varTypes Try.prog) (ds ++ gs)).all (· ≤ reachBytes) = true := hsz0
  have hval : ∀ (j : Nat) t v, Try.f3.params[j]? = some t → args[j]? = some v → Value.okWide Try.prog W .any base t v := hval0
  have hW' := hW
  obtain ⟨p, q, hA0, hV, rfl, hfz, hnd⟩ := hW
  have hA : DataW.TrodAll enc Try.prog W 0 (fun _ => true) true Try.f3.params.toList args.toList ds p := hA0
  rw [Try.params3] at hA hval hsz
  obtain ⟨v0, vs0, d0, ds0, p0, q0, hargs, rfl, rfl, h0, r0⟩ := trodAll_cons hA
  obtain ⟨v1, vs1, d1, ds1, p1, q1, rfl, rfl, rfl, h1, r1⟩ := trodAll_cons r0
  obtain ⟨v2, vs2, d2, ds2, p2, q2, rfl, rfl, rfl, h2, r2⟩ := trodAll_cons r1
  obtain ⟨rfl, rfl, rfl⟩ := trodAll_nil r2
  obtain rfl : args = #[v0, v1, v2] := by cases args; simp_all
  obtain ⟨rfl, rfl⟩ := trodVars_none hV
  have k0 := h0
  have lt0 : ∀ x ∈ p0, x.block < W.heap.size := by obtain ⟨m, hm⟩ := k0; exact DataW.trod_lt m _ _ _ hm
  obtain ⟨a0, rfl, rfl, rfl, w0⟩ := open_int Try.underlying3 (hval 0 3 v0 rfl rfl) h0
  have k1 := h1
  have lt1 : ∀ x ∈ p1, x.block < W.heap.size := by obtain ⟨m, hm⟩ := k1; exact DataW.trod_lt m _ _ _ hm
  obtain ⟨x1_0, w1⟩ := open_p2R (hval 1 22 v1 rfl rfl) h1 (fits_at hsz (j := 1) rfl rfl)
  have k2 := h2
  have lt2 : ∀ x ∈ p2, x.block < W.heap.size := by obtain ⟨m, hm⟩ := k2; exact DataW.trod_lt m _ _ _ hm
  obtain ⟨x2_0, w2⟩ := open_p3R (hval 2 23 v2 rfl rfl) h2 (fits_at hsz (j := 2) rfl rfl)
  clear hA0 hval0
  refine (walk W a0 (Go.bounds_i64 w0) v1 x1_0 w1 v2 x2_0 w2).mono fun e W' ⟨he, bel⟩ => ?_
  subst he
  exact ⟨_, rfl, _, _, _, [], _, [], hW', trodAll_mk1 (shut_bool Try.underlying4 _), (trodAll_cons_mk (Below.trod Facts.laidOut (by kernel_rfl) (of_decide_eq_true (by kernel_rfl)) k0 bel lt0) (trodAll_cons_mk (Below.trod Facts.laidOut (by kernel_rfl) (of_decide_eq_true (by kernel_rfl)) k1 bel lt1) (trodAll_cons_mk (Below.trod Facts.laidOut (by kernel_rfl) (of_decide_eq_true (by kernel_rfl)) k2 bel lt2) trodAll_mk0))), rfl, bel.frame _, fun h => by cases h⟩

theorem closed : joinedFacts Try.prog 3 Try.f3 Rows.spacePlaysSpec Rows.spacePlaysRow = true := by
  unfold joinedFacts
  rw [Facts.enters, Facts.lifts, Facts.made]
  kernel_rfl

theorem over : Rows.spacePlaysRow.holds Try.pinned (OpenSpec.ofChange Rows.spacePlaysSpec) :=
  OpenClaim.holds_of_wide 3 Try.f3 rfl rfl rfl rfl rfl rfl rfl ⟨rfl, rfl, rfl, rfl, rfl⟩ rfl rfl rfl rfl rfl (by kernel_rfl) Try.func3 closed
    (of_decide_eq_true (by kernel_rfl)) (by unfold Func.isWrapper; first | (rw [if_pos (by decide +kernel)]; kernel_rfl) | (rw [if_neg (by decide +kernel)]; exact ⟨rfl, rfl⟩))
    (fun os started H enc _ => lifted os started H enc)

theorem proved : Rows.SpacePlaysSaid := over
#print axioms proved
end Go.Proofs.Ytpmdlmgmfggioaa.lSpacePlays
