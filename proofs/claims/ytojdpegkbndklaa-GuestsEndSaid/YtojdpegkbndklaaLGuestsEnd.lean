/- The law hourglasskeep.GuestsEnd returns true at every raw things and number. No condition. -/
import Derived.Test.YtojdpegkbndklaaRows
import Derived.Test.YtojdpegkbndklaaOpen
import Derived.Test.YtojdpegkbndklaaFacts
import Derived.WalkKit
import Derived.ProofKit
import Derived.OpenShut
import Derived.ShutString
import Derived.ChangeOld
import Derived.Below
import Derived.Test.YtojdpegkbndklaaKe
import Derived.Test.YtojdpegkbndklaaIm
import Derived.Test.YtojdpegkbndklaaPk
namespace Go.Proofs.Ytojdpegkbndklaa.lGuestsEnd
open Go Go.RowKit Go.ChangeShapes Go.WideShapes Go.ChangeAt Go.Deep
open Go.ChangeMaps (open_string shut_string)
set_option linter.unusedVariables false
attribute [local go_sem ↓] Go.wp_at_zero Go.wp_at_succ

theorem KBox.put {g gr cr mb cm : Nat} {m : Mach} {ao : Option Addr} {co : Nat} {w : World} (h : KBox g gr cr mb cm m ao co w) (i : Nat) (u : Value) (m' : Mach) (hb : (#[.slice (some ⟨gr, 0, none⟩) 8 cr, .int .i64 m.pc, .int .i64 m.back, .bool m.ints, .bool m.wait, .int .i64 m.table, .int .i64 m.count, .int .i64 m.fin, .slice (some ⟨mb, 0, none⟩) 256 cm, .slice ao m.out.length co, .int .i64 m.ready, .int .i64 m.want] : Array Value).setIfInBounds i u = #[.slice (some ⟨gr, 0, none⟩) 8 cr, .int .i64 m'.pc, .int .i64 m'.back, .bool m'.ints, .bool m'.wait, .int .i64 m'.table, .int .i64 m'.count, .int .i64 m'.fin, .slice (some ⟨mb, 0, none⟩) 256 cm, .slice ao m.out.length co, .int .i64 m'.ready, .int .i64 m'.want]) (hr : m'.regs = m.regs) (hm : m'.mem = m.mem) (ho : m'.out = m.out) : KBox g gr cr mb cm m' ao co (w.setCell ⟨g, i, none⟩ u) := by
  have hg : w.grownBy (w.setCell ⟨g, i, none⟩ u) (some g) := grown_set' w g i u
  have n1 : gr ≠ g := fun e => by subst e; exact own_ne_block h.regs h.box (by decide) rfl
  have n2 : mb ≠ g := fun e => by subst e; exact own_ne_block h.mem h.box (by decide) rfl
  refine ⟨?_, ?_, ?_, ?_, h.rm, by rw [ho]; exact h.ro, by rw [ho]; exact h.mo⟩
  · rw [ho, ← hb]; exact set_block h.box u
  · rw [hr]; exact h.regs.kept hg (Or.inr (by simp [Value.ownBlock]; exact n1))
  · rw [hm]; exact h.mem.kept hg (Or.inr (by simp [Value.ownBlock]; exact n2))
  · rw [ho]; exact h.out.kept hg (Or.inr (own_ne_block h.out h.box (by decide)).symm)
theorem end_step {m : Mach} (h : m.fin ≠ 0) (irq : Bool) (b : List Int) (v : Int) : stepM m irq b v = (m, -1) := by
  have e1 : irqM m irq = m := by unfold irqM; rw [if_neg (fun k => h k.1)]
  have e2 : blockM m b = m := by
    unfold blockM
    by_cases hb : b.length = 0
    · rw [if_pos hb]
    · rw [if_neg hb]; unfold comesM; rw [if_pos (Or.inr h)]
  have e3 : enterM m = m := by unfold enterM; rw [if_neg (fun k => h k.2.2)]
  unfold stepM
  rw [e1, e2, e3]
  unfold execM
  rw [if_pos h]
theorem imageM_ok {zs : List Int} (hl : zs.length ≤ 256) (hw : ∀ z ∈ zs, WordZ z) : MOk (imageM zs) := by
  refine ⟨rfl, image_len _ hl, Nat.zero_le _, rfl, ?_, rfl, ?_, ?_, ?_, ?_, ?_, ?_, ?_⟩
  · refine of_words (fun z hz => ?_)
    have hz' : z ∈ zs ++ List.replicate (256 - zs.length) (0 : Int) := hz
    rcases List.mem_append.1 hz' with hz | hz
    · exact hw z hz
    · rw [List.eq_of_mem_replicate hz]; unfold WordZ; omega
  all_goals (show _ ∧ _; simp [imageM])
def eM (m : Mach) (e : Int) : Mach := { m with fin := e, want := 3 }
theorem eM_ok {m : Mach} (h : MOk m) {e : Int} (h0 : 0 ≤ e) (h4 : e ≤ 4) : MOk (eM m e) := ⟨h.regs, h.mem, h.out, h.wr, h.wm, h.wo, h.pc, h.back, h.table, h.count, ⟨h0, h4⟩, h.ready, by show (-1 : Int) ≤ 3 ∧ (3 : Int) < 16; omega⟩

set_option maxHeartbeats 4000000 in
set_option maxRecDepth 100000 in
theorem walk (W : World) (v : Value) (xs : List Rw) (hx : RawsR W.heap.size W v xs) (n : Int) (hn : I64 n) : Calls Try.prog 9 #[v, .int .i64 n] W fun e W' => e = .returned (.bool true) ∧ Below W.heap.size W W' := by
  have HPA := Lib.hid (fun w => picked_any n 4 w hn.1 hn.2 (by omega) (by omega))
  have ra := pick_rng n 4 (by omega)
  generalize pickZ n 4 = pa at *
  have x1 : IntKind.i64.wrap (1 + pa) = 1 + pa := IntWalk.i64_in _ (by omega)
  have HIM := Lib.hid (image_any v xs W hx)
  have e0 : 0 ≤ 1 + pa := by omega
  have e4 : 1 + pa ≤ 4 := by omega
  have en : 1 + pa ≠ 0 := by omega
  clear hn hx
  go_enter Try.func9, Try.ntmps9
  go_upto_region 2 with (first
    | (go_at_call 20; refine HIM.out.mono ?_; rintro e w1 ⟨a1, c1, n1, zs, rfl, hn1, hwo, hb1⟩; have e := hwo.len; subst e; have HOK : Hid (MOk (imageM zs)) := (Lib.hid (imageM_ok (by omega) hwo.word)); have HNW := Lib.hid (new_good (.slice a1 zs.length c1) zs w1 (ints_of_owns hwo.own (by omega) (fun z hz => (hwo.word z hz).i64)) (by omega) (of_words hwo.word)); have HB1 := Lib.hid hb1; clear hwo hb1)
    | (go_at_call 19; refine HNW.out.mono ?_; rintro e w2 ⟨ar, cr, am, cm, ao, co, he, hown, hb2⟩; rw [Mach.agg, HOK.out.regs, HOK.out.mem] at he; subst he; have HB2 := Lib.hid (HB1.out.trans (hb2.mono HB1.out.size)); have HOWN := Lib.hid hown; clear hown hb2))
  obtain ⟨gr, mb, rfl, rfl, hb0⟩ := KBox.start HOK.out HOWN.out (Or.inr (Nat.le_refl _)) ((OutF.refl _ w2).alloc _) (alloc_at rfl)
  have HB0 := Lib.hid hb0
  have HGB : Hid (W.heap.size ≤ w2.heap.size) := Lib.hid HB2.out.size
  have HB4' := Lib.hid (fun O => HB2.out.alloc HB2.out.size O)
  have hwt : (imageM zs).wait = false := rfl
  have HCT : Hid ((imageM zs).count < 1099511627776) := Lib.hid (by decide : (0 : Int) < 1099511627776)
  generalize hmm : imageM zs = m at *
  generalize hW4 : w2.alloc _ = w4 at *
  have HB4 : Hid (Below W.heap.size W w4) := Lib.hid (by rw [← hW4]; exact HB4'.out _)
  clear HB4' HB2 HOWN HNW HIM hb0
  generalize hgb : w2.heap.size = gb at *
  clear hW4 hgb hmm
  have HWT := Lib.hid hwt
  clear hwt
  have lgb := HB0.out.blt
  have p0 : w4.cell? ⟨gb, 0, none⟩ = some (.slice (some ⟨gr, 0, none⟩) 8 cr) := cell_block HB0.out.box 0
  have p1 : w4.cell? ⟨gb, 1, none⟩ = some (.int .i64 m.pc) := cell_block HB0.out.box 1
  have p2 : w4.cell? ⟨gb, 2, none⟩ = some (.int .i64 m.back) := cell_block HB0.out.box 2
  have p3 : w4.cell? ⟨gb, 3, none⟩ = some (.bool m.ints) := cell_block HB0.out.box 3
  have p4 : w4.cell? ⟨gb, 4, none⟩ = some (.bool m.wait) := cell_block HB0.out.box 4
  have p5 : w4.cell? ⟨gb, 5, none⟩ = some (.int .i64 m.table) := cell_block HB0.out.box 5
  have p6 : w4.cell? ⟨gb, 6, none⟩ = some (.int .i64 m.count) := cell_block HB0.out.box 6
  have p7 : w4.cell? ⟨gb, 7, none⟩ = some (.int .i64 m.fin) := cell_block HB0.out.box 7
  have p8 : w4.cell? ⟨gb, 8, none⟩ = some (.slice (some ⟨mb, 0, none⟩) 256 cm) := cell_block HB0.out.box 8
  have p9 : w4.cell? ⟨gb, 9, none⟩ = some (.slice ao m.out.length co) := cell_block HB0.out.box 9
  have p10 : w4.cell? ⟨gb, 10, none⟩ = some (.int .i64 m.ready) := cell_block HB0.out.box 10
  have p11 : w4.cell? ⟨gb, 11, none⟩ = some (.int .i64 m.want) := cell_block HB0.out.box 11
  have f7 := free_block HB0.out.box 7
  have f11 := free_block HB0.out.box 11
  have mk16 : ∀ w : World, (Instr.makeSlice 22 (.int .i64 16) (.int .i64 16)).run Try.prog w = .ok (.slice (some ⟨w.heap.size, 0, none⟩) 16 16) (w.alloc (.cells (zeroInts 16) 3)) := fun w => mk_ints 16 (by omega) (by omega) w
  go_upto_region 5 with (go_at_call 16; (with_reducible refine (HPA.out _).mono ?_); rintro e w' ⟨rfl, rfl⟩)
  have HE := Lib.hid (eM_ok HOK.out e0 e4)
  have HKE := Lib.hid (KBox.kept (lGuestsEnd.KBox.put (lGuestsEnd.KBox.put HB0.out 7 (.int .i64 (1 + pa)) { m with fin := 1 + pa } rfl rfl rfl rfl) 11 (.int .i64 3) (eM m (1 + pa)) rfl rfl rfl rfl) (below_alloc _ (.cells (zeroInts 16) 3)))
  have HWE := Lib.hid (((HB4.out.setCell (p := ⟨gb, 7, none⟩) HGB.out (.int .i64 (1 + pa))).setCell (p := ⟨gb, 11, none⟩) HGB.out (.int .i64 3)).alloc (by simp; exact HB4.out.size) (.cells (zeroInts 16) 3))
  have HIZ : Hid (Ints _ _ (.slice (some ⟨w4.heap.size, 0, none⟩) 16 16) (List.replicate 16 0)) := Lib.hid (ints_of_owns (w := ((w4.setCell ⟨gb, 7, none⟩ (.int .i64 (1 + pa))).setCell ⟨gb, 11, none⟩ (.int .i64 3)).alloc (.cells (zeroInts 16) 3)) (own_block (base := 0) (n := 16) (zs := List.replicate 16 0) (by rw [zeroInts_eq]; exact alloc_at (by simp)) (Nat.zero_le _) rfl (by omega)) (by decide) (fun z hz => by rw [List.eq_of_mem_replicate hz]; unfold I64; omega))
  have HS := Lib.hid (fun w u (hm : MachR w.heap.size w u (eM m (1 + pa))) vb (hb : Ints w.heap.size w vb (List.replicate 16 0)) => (by
    have h := step_good u vb (eM m (1 + pa)) true (List.replicate 16 0) 5 w hm hb (by unfold WordZ; omega) HE.out (Or.inr rfl) (fun z hz => by rw [List.eq_of_mem_replicate hz]; unfold WordZ; omega) HCT.out
    rw [end_step en] at h
    exact h : Calls Try.prog 11 #[u, .bool true, vb, .int .i64 5] w (GoodPost (eM m (1 + pa), -1) w)))
  have HMR := Lib.hid (HKE.out.machR HE.out)
  go_upto_region 6 with (go_at_call 11; refine (HS.out _ _ ?_ _ ?_).mono ?_; exact HMR.out; exact HIZ.out; rintro e w6 ⟨ar6, cr6, am6, cm6, ao6, co6, he, hown, hb6⟩; dsimp only at he hown; rw [HE.out.regs, HE.out.mem] at he; subst he; have HK6 := Lib.hid (HKE.out.kept hb6); have HW6 := Lib.hid (HWE.out.trans (hb6.mono HWE.out.size)); have HI6 := Lib.hid (hown.readsOk HE.out).2.1; clear hown hb6)
  have r1 : w6.cell? ⟨gb, 1, none⟩ = some (.int .i64 m.pc) := cell_block HK6.out.box 1
  have r6 : w6.cell? ⟨gb, 6, none⟩ = some (.int .i64 m.count) := cell_block HK6.out.box 6
  have r8 : w6.cell? ⟨gb, 8, none⟩ = some (.slice (some ⟨mb, 0, none⟩) 256 cm) := cell_block HK6.out.box 8
  have l6 := HK6.out.blt
  have h1 : (eM m (1 + pa)).pc = m.pc := rfl
  have h6 : (eM m (1 + pa)).count = m.count := rfl
  have h4 : (eM m (1 + pa)).wait = false := HWT.out
  have h11 : (eM m (1 + pa)).want = 3 := rfl
  have HEQ := Lib.hid (fun w' (hb : Below w6.heap.size w6 w') => (by
    have k1 := HI6.out
    rw [HE.out.mem] at k1
    have k2 := ints_of_owns (w := w6) (zs := (eM m (1 + pa)).mem) (by rw [HE.out.mem]; exact HK6.out.mem) (by rw [HE.out.mem]; decide) (fun z hz => (words_of HE.out.wm z hz).i64)
    exact kequalI_any _ _ (eM m (1 + pa)).mem w' (k1.to hb.size (same_below hb)) (k2.to hb.size (same_below hb)) : Calls Try.prog 18 #[.slice am6 256 cm6, .slice (some ⟨mb, 0, none⟩) 256 cm] w' fun e w'' => e = .returned (.bool true) ∧ ∃ n, w'' = w'.drewN n))
  have HWF := Lib.hid (fun O => HW6.out.alloc HW6.out.size O)
  clear p0 p1 p2 p3 p4 p5 p6 p7 p8 p9 p10 p11
  go_wp2_with (go_at_call 18; (with_reducible refine (HEQ.out _ ?_).mono ?_); exact below_alloc _ _; rintro e w' ⟨rfl, nq, rfl⟩)
  all_goals (
    go_ret
    exact ⟨rfl, below_drewN (HWF.out _) _⟩)
set_option maxRecDepth 100000 in
theorem lifted (os : Os) (started : os.Started) (H : Type) (enc : TypeId × Value → H) :
    ReturnsInHanded {} Try.checked os 9 .any (Rows.guestsEndSpec.pre6 enc Try.prog Try.f9 Rows.guestsEndRow.domain false) (Rows.guestsEndSpec.post enc Try.prog Try.f9 false true false false) := by
  refine returnsInHanded_of_change_sized (C := Try.checked) Facts.own started (by kernel_rfl) Try.func9
    (ChangeSpec.witness6 (enc := enc) (C := Try.checked) false ⟨#[], #[.slice none 0 0, .int .i64 0], []⟩ 8 (by kernel_rfl) (by kernel_rfl) (by kernel_rfl) (by kernel_rfl)) ?_
  intro W base args ds gs before hval0 hW hcnd hsz0 _
  have hsz : (DataW.weightsEach Try.prog (Try.f9.params.toList ++ Rows.guestsEndSpec.plain.varTypes Try.prog) (ds ++ gs)).all (· ≤ reachBytes) = true := hsz0
  have hval : ∀ (j : Nat) t v, Try.f9.params[j]? = some t → args[j]? = some v → Value.okWide Try.prog W .any base t v := hval0
  have hW' := hW
  obtain ⟨p, q, hA0, hV, rfl, hfz, hnd⟩ := hW
  have hA : DataW.TrodAll enc Try.prog W 0 (fun _ => true) true Try.f9.params.toList args.toList ds p := hA0
  rw [Try.params9] at hA hval hsz
  obtain ⟨v0, vs0, d0, ds0, p0, q0, hargs, rfl, rfl, h0, r0⟩ := trodAll_cons hA
  obtain ⟨v1, vs1, d1, ds1, p1, q1, rfl, rfl, rfl, h1, r1⟩ := trodAll_cons r0
  obtain ⟨rfl, rfl, rfl⟩ := trodAll_nil r1
  obtain rfl : args = #[v0, v1] := by cases args; simp_all
  obtain ⟨rfl, rfl⟩ := trodVars_none hV
  have k0 := h0
  have lt0 : ∀ x ∈ p0, x.block < W.heap.size := by obtain ⟨m, hm⟩ := k0; exact DataW.trod_lt m _ _ _ hm
  obtain ⟨x0_0, w0⟩ := open_rawsR (hval 0 42 v0 rfl rfl) h0 (fits_at hsz (j := 0) rfl rfl)
  have k1 := h1
  have lt1 : ∀ x ∈ p1, x.block < W.heap.size := by obtain ⟨m, hm⟩ := k1; exact DataW.trod_lt m _ _ _ hm
  obtain ⟨a1, rfl, rfl, rfl, w1⟩ := open_int Try.underlying3 (hval 1 3 v1 rfl rfl) h1
  clear hA0 hval0
  refine (walk W v0 x0_0 w0 a1 (Go.bounds_i64 w1)).mono fun e W' ⟨he, bel⟩ => ?_
  subst he
  exact ⟨_, rfl, _, _, _, [], _, [], hW', trodAll_mk1 (shut_bool Try.underlying4 _), (trodAll_cons_mk (Below.trod Facts.laidOut (by kernel_rfl) (of_decide_eq_true (by kernel_rfl)) k0 bel lt0) (trodAll_cons_mk (Below.trod Facts.laidOut (by kernel_rfl) (of_decide_eq_true (by kernel_rfl)) k1 bel lt1) trodAll_mk0)), rfl, bel.frame _, fun h => by cases h⟩

theorem closed : joinedFacts Try.prog 9 Try.f9 Rows.guestsEndSpec Rows.guestsEndRow = true := by
  unfold joinedFacts
  rw [Facts.enters, Facts.lifts, Facts.made]
  kernel_rfl

theorem over : Rows.guestsEndRow.holds Try.pinned (OpenSpec.ofChange Rows.guestsEndSpec) :=
  OpenClaim.holds_of_wide 9 Try.f9 rfl rfl rfl rfl rfl rfl rfl ⟨rfl, rfl, rfl, rfl, rfl⟩ rfl rfl rfl rfl rfl (by kernel_rfl) Try.func9 closed
    (of_decide_eq_true (by kernel_rfl)) (by unfold Func.isWrapper; first | (rw [if_pos (by decide +kernel)]; kernel_rfl) | (rw [if_neg (by decide +kernel)]; exact ⟨rfl, rfl⟩))
    (fun os started H enc _ => lifted os started H enc)

theorem proved : Rows.GuestsEndSaid := over
#print axioms proved
end Go.Proofs.Ytojdpegkbndklaa.lGuestsEnd
