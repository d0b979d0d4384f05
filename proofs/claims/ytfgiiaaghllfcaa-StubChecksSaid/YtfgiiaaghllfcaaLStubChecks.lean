/- The law hourglasslaw.StubChecks returns true at every tape and session. No condition. -/
import Derived.Test.YtfgiiaaghllfcaaRows
import Derived.Test.YtfgiiaaghllfcaaOpen
import Derived.Test.YtfgiiaaghllfcaaFacts
import Derived.WalkKit
import Derived.ProofKit
import Derived.OpenShut
import Derived.ShutString
import Derived.ChangeOld
import Derived.Below
import Derived.Test.YtfgiiaaghllfcaaPl
namespace Go.Proofs.Ytfgiiaaghllfcaa.lStubChecks
open Go Go.RowKit Go.ChangeShapes Go.WideShapes Go.ChangeAt
open Go.ChangeMaps (open_string shut_string)
set_option linter.unusedVariables false

/-- A session that may be. -/
def SOk (cnt at_ : Int) (bs ws : List Int) : Prop := 0 ≤ at_ ∧ at_ ≤ cnt ∧ Places bs ∧ Places ws
def SCPost (cnt at_ : Int) (bs ws : List Int) (y n : Value) (w : World) (e : Ending) (w' : World) : Prop := ((SOk cnt at_ bs ws ∧ e = .returned y) ∨ (¬ SOk cnt at_ bs ws ∧ e = .returned n)) ∧ Below w.heap.size w w'

set_option maxHeartbeats 2000000 in
theorem check_any (ai ae ab aw : Option Addr) (ni ne ci ce cb cw : Nat) (cnt at_ : Int) (bs ws : List Int) (w : World) (hb : Ints w.heap.size w (.slice ab bs.length cb) bs) (hw : Ints w.heap.size w (.slice aw ws.length cw) ws) :
    Calls Try.prog 45 #[.agg #[.slice ai ni ci, .slice ae ne ce, .int .i64 cnt], .agg #[.int .i64 at_, .slice ab bs.length cb, .slice aw ws.length cw]] w (SCPost cnt at_ bs ws (.int .i64 0) (.int .i64 8) w) := by
  have HB := Lib.hid hb
  have HW := Lib.hid hw
  clear hb hw
  by_cases h1 : 0 ≤ at_
  · by_cases h2 : at_ ≤ cnt
    · go_enter Try.func45, Try.ntmps45
      go_wp2_with fail
      refine (list_any _ bs _ (HB.out.to (by simp; omega) (same_below (below_alloc2 _ _ _)))).mono ?_
      rintro e w1 ⟨⟨hp, rfl⟩ | ⟨hp, rfl⟩, n, rfl⟩
      · go_wp2_with fail
        refine (list_any _ ws _ (HW.out.to (by simp; omega) (same_below (below_drewN (below_alloc2 _ _ _) _)))).mono ?_
        rintro e w1 ⟨⟨hq, rfl⟩ | ⟨hq, rfl⟩, n2, rfl⟩
        · go_wp2
          go_ret
          exact ⟨Or.inl ⟨⟨h1, h2, hp, hq⟩, rfl⟩, below_drewN (below_alloc2 _ _ _) _⟩
        · go_wp2
          go_ret
          exact ⟨Or.inr ⟨fun h => hq h.2.2.2, rfl⟩, below_drewN (below_alloc2 _ _ _) _⟩
      · go_wp2
        go_ret
        exact ⟨Or.inr ⟨fun h => hp h.2.2.1, rfl⟩, below_drewN (below_alloc2 _ _ _) _⟩
    · go_enter Try.func45, Try.ntmps45
      go_wp2
      go_ret
      exact ⟨Or.inr ⟨fun h => absurd h.2.1 (by omega), rfl⟩, below_alloc2 _ _ _⟩
  · go_enter Try.func45, Try.ntmps45
    go_wp2
    go_ret
    exact ⟨Or.inr ⟨fun h => absurd h.1 (by omega), rfl⟩, below_alloc2 _ _ _⟩

set_option maxHeartbeats 2000000 in
theorem may_any (ai ae ab aw : Option Addr) (ni ne ci ce cb cw : Nat) (cnt at_ : Int) (bs ws : List Int) (w : World) (hb : Ints w.heap.size w (.slice ab bs.length cb) bs) (hw : Ints w.heap.size w (.slice aw ws.length cw) ws) :
    Calls Try.prog 46 #[.agg #[.slice ai ni ci, .slice ae ne ce, .int .i64 cnt], .agg #[.int .i64 at_, .slice ab bs.length cb, .slice aw ws.length cw]] w (SCPost cnt at_ bs ws (.bool true) (.bool false) w) := by
  have HB := Lib.hid hb
  have HW := Lib.hid hw
  clear hb hw
  by_cases h1 : 0 ≤ at_ ∧ at_ ≤ cnt
  · go_enter Try.func46, Try.ntmps46
    go_wp2_with (go_at_call 82; refine (in_yes _ _ _ _ ?_).mono ?_; exact h1; rintro e w' ⟨rfl, rfl⟩)
    refine (places_any _ bs _ (HB.out.to (by simp; omega) (same_below (below_alloc2 _ _ _)))).mono ?_
    rintro e w1 ⟨⟨hp, rfl⟩ | ⟨hp, rfl⟩, n, rfl⟩
    · go_wp2_with fail
      refine (places_any _ ws _ (HW.out.to (by simp; omega) (same_below (below_drewN (below_alloc2 _ _ _) _)))).mono ?_
      rintro e w1 ⟨⟨hq, rfl⟩ | ⟨hq, rfl⟩, n2, rfl⟩
      · go_wp2
        go_ret
        exact ⟨Or.inl ⟨⟨h1.1, h1.2, hp, hq⟩, rfl⟩, below_drewN (below_alloc2 _ _ _) _⟩
      · go_wp2
        go_ret
        exact ⟨Or.inr ⟨fun h => hq h.2.2.2, rfl⟩, below_drewN (below_alloc2 _ _ _) _⟩
    · go_wp2
      go_ret
      exact ⟨Or.inr ⟨fun h => hp h.2.2.1, rfl⟩, below_drewN (below_alloc2 _ _ _) _⟩
  · go_enter Try.func46, Try.ntmps46
    go_wp2_with (go_at_call 82; refine (in_no _ _ _ _ ?_).mono ?_; exact h1; rintro e w' ⟨rfl, rfl⟩)
    go_ret
    exact ⟨Or.inr ⟨fun h => h1 ⟨h.1, h.2.1⟩, rfl⟩, below_alloc2 _ _ _⟩

set_option maxHeartbeats 2000000 in
theorem walk (W : World) (v : Value) (img : List Int) (evs : List UInt8) (cnt : Int) (hv : TapeR W.heap.size W v img evs cnt) (u : Value) (at_ : Int) (bs ws : List Int) (hu : SessR W.heap.size W u at_ bs ws) : Calls Try.prog 10 #[v, u] W fun e W' => e = .returned (.bool true) ∧ Below W.heap.size W W' := by
  obtain ⟨vi, ve, rfl, ⟨ai, ci, rfl, _⟩, ⟨ae, ce, rfl, _⟩, _⟩ := hv
  obtain ⟨vb, vw, rfl, _, hb, hw⟩ := hu
  obtain ⟨ab, cb, hvb, _⟩ := id hb
  obtain ⟨aw, cw, hvw, _⟩ := id hw
  subst hvb hvw
  have HB := Lib.hid hb
  have HW := Lib.hid hw
  clear hb hw
  go_enter Try.func10, Try.ntmps10
  go_wp2_with fail
  refine (check_any ai ae ab aw _ _ ci ce cb cw cnt at_ bs ws _ (HB.out.to (by simp; omega) (same_below (below_alloc2 _ _ _))) (HW.out.to (by simp; omega) (same_below (below_alloc2 _ _ _)))).mono ?_
  rintro e w1 ⟨he, hb1⟩
  have s1 := hb1.size
  simp only [World.size_alloc] at s1
  have hx := block_below hb1 (g := W.heap.size) ((alloc_lt (by simp)).trans (alloc_at rfl)) (by simp; omega)
  have hy := block_below hb1 (g := W.heap.size + 1) (alloc_at (by simp)) (by simp)
  have q0 : w1.cell? ⟨W.heap.size, 0, none⟩ = some (.slice ai img.length ci) := cell_block hx 0
  have q1 : w1.cell? ⟨W.heap.size, 1, none⟩ = some (.slice ae evs.length ce) := cell_block hx 1
  have q2 : w1.cell? ⟨W.heap.size, 2, none⟩ = some (.int .i64 cnt) := cell_block hx 2
  have r0 : w1.cell? ⟨W.heap.size + 1, 0, none⟩ = some (.int .i64 at_) := cell_block hy 0
  have r1 : w1.cell? ⟨W.heap.size + 1, 1, none⟩ = some (.slice ab bs.length cb) := cell_block hy 1
  have r2 : w1.cell? ⟨W.heap.size + 1, 2, none⟩ = some (.slice aw ws.length cw) := cell_block hy 2
  have HBl := Lib.hid ((below_alloc2 W _ _).trans (hb1.mono (by simp; omega)))
  clear hx hy hb1
  rcases he with ⟨hok, rfl⟩ | ⟨hok, rfl⟩
  · go_wp2_with fail
    refine (may_any ai ae ab aw _ _ ci ce cb cw cnt at_ bs ws _ (HB.out.to (by omega) (same_below HBl.out)) (HW.out.to (by omega) (same_below HBl.out))).mono ?_
    rintro e w2 ⟨⟨_, rfl⟩ | ⟨hno, rfl⟩, hb2⟩
    · go_wp2
      go_ret
      exact ⟨rfl, HBl.out.trans (hb2.mono (by omega))⟩
    · exact absurd hok hno
  · go_wp2_with fail
    refine (may_any ai ae ab aw _ _ ci ce cb cw cnt at_ bs ws _ (HB.out.to (by omega) (same_below HBl.out)) (HW.out.to (by omega) (same_below HBl.out))).mono ?_
    rintro e w2 ⟨⟨hyes, rfl⟩ | ⟨_, rfl⟩, hb2⟩
    · exact absurd hyes hok
    · go_wp2
      go_ret
      exact ⟨rfl, HBl.out.trans (hb2.mono (by omega))⟩

set_option maxRecDepth 100000 in
theorem lifted (os : Os) (started : os.Started) (H : Type) (enc : TypeId × Value → H) :
    ReturnsInHanded {} Try.checked os 10 .any (Rows.stubChecksSpec.pre6 enc Try.prog Try.f10 Rows.stubChecksRow.domain false) (Rows.stubChecksSpec.post enc Try.prog Try.f10 false true false false) := by
  refine returnsInHanded_of_change_sized (C := Try.checked) Facts.own started (by kernel_rfl) Try.func10
    (ChangeSpec.witness6 (enc := enc) (C := Try.checked) false ⟨#[], #[.agg #[.slice none 0 0, .slice none 0 0, .int .i64 0], .agg #[.int .i64 0, .slice none 0 0, .slice none 0 0]], []⟩ 8 (by kernel_rfl) (by kernel_rfl) (by kernel_rfl) (by kernel_rfl)) ?_
  intro W base args ds gs before hval0 hW hcnd hsz0 _
  have hsz : (DataW.weightsEach Try.prog (Try.f10.params.toList ++ Rows.stubChecksSpec.plain.varTypes Try.prog) (ds ++ gs)).all (· ≤ reachBytes) = true := hsz0
  have hval : ∀ (j : Nat) t v, Try.f10.params[j]? = some t → args[j]? = some v → Value.okWide Try.prog W .any base t v := hval0
  have hW' := hW
  obtain ⟨p, q, hA0, hV, rfl, hfz, hnd⟩ := hW
  have hA : DataW.TrodAll enc Try.prog W 0 (fun _ => true) true Try.f10.params.toList args.toList ds p := hA0
  rw [Try.params10] at hA hval hsz
  obtain ⟨v0, vs0, d0, ds0, p0, q0, hargs, rfl, rfl, h0, r0⟩ := trodAll_cons hA
  obtain ⟨v1, vs1, d1, ds1, p1, q1, rfl, rfl, rfl, h1, r1⟩ := trodAll_cons r0
  obtain ⟨rfl, rfl, rfl⟩ := trodAll_nil r1
  obtain rfl : args = #[v0, v1] := by cases args; simp_all
  obtain ⟨rfl, rfl⟩ := trodVars_none hV
  have k0 := h0
  have lt0 : ∀ x ∈ p0, x.block < W.heap.size := by obtain ⟨m, hm⟩ := k0; exact DataW.trod_lt m _ _ _ hm
  obtain ⟨x0_0, x0_1, x0_2, w0⟩ := open_tapeR (hval 0 51 v0 rfl rfl) h0 (fits_at hsz (j := 0) rfl rfl)
  have k1 := h1
  have lt1 : ∀ x ∈ p1, x.block < W.heap.size := by obtain ⟨m, hm⟩ := k1; exact DataW.trod_lt m _ _ _ hm
  obtain ⟨x1_0, x1_1, x1_2, w1⟩ := open_sessR (hval 1 53 v1 rfl rfl) h1 (fits_at hsz (j := 1) rfl rfl)
  clear hA0 hval0
  refine (walk W v0 x0_0 x0_1 x0_2 w0 v1 x1_0 x1_1 x1_2 w1).mono fun e W' ⟨he, bel⟩ => ?_
  subst he
  exact ⟨_, rfl, _, _, _, [], _, [], hW', trodAll_mk1 (shut_bool Try.underlying4 _), (trodAll_cons_mk (Below.trod Facts.laidOut (by kernel_rfl) (of_decide_eq_true (by kernel_rfl)) k0 bel lt0) (trodAll_cons_mk (Below.trod Facts.laidOut (by kernel_rfl) (of_decide_eq_true (by kernel_rfl)) k1 bel lt1) trodAll_mk0)), rfl, bel.frame _, fun h => by cases h⟩

theorem closed : joinedFacts Try.prog 10 Try.f10 Rows.stubChecksSpec Rows.stubChecksRow = true := by
  unfold joinedFacts
  rw [Facts.enters, Facts.lifts, Facts.made]
  kernel_rfl

theorem over : Rows.stubChecksRow.holds Try.pinned (OpenSpec.ofChange Rows.stubChecksSpec) :=
  OpenClaim.holds_of_wide 10 Try.f10 rfl rfl rfl rfl rfl rfl rfl ⟨rfl, rfl, rfl, rfl, rfl⟩ rfl rfl rfl rfl rfl (by kernel_rfl) Try.func10 closed
    (of_decide_eq_true (by kernel_rfl)) (by unfold Func.isWrapper; first | (rw [if_pos (by decide +kernel)]; kernel_rfl) | (rw [if_neg (by decide +kernel)]; exact ⟨rfl, rfl⟩))
    (fun os started H enc _ => lifted os started H enc)

theorem proved : Rows.StubChecksSaid := over
#print axioms proved
end Go.Proofs.Ytfgiiaaghllfcaa.lStubChecks
