/- The law hourglasslaw.CpuNew returns true at every image. No condition. -/
import Derived.Test.YtneeimfffoomgaaRows
import Derived.Test.YtneeimfffoomgaaOpen
import Derived.Test.YtneeimfffoomgaaFacts
import Derived.WalkKit
import Derived.ProofKit
import Derived.OpenShut
import Derived.ShutString
import Derived.ChangeOld
import Derived.Below
import Derived.Test.YtneeimfffoomgaaNg
import Derived.Test.YtneeimfffoomgaaAp
import Derived.Test.YtneeimfffoomgaaOp2
namespace Go.Proofs.Ytneeimfffoomgaa.lCpuNew
open Go Go.RowKit Go.ChangeShapes Go.WideShapes Go.ChangeAt
open Go.ChangeMaps (open_string shut_string)
set_option linter.unusedVariables false

def MI64 (m : Mach) : Prop := (∀ z ∈ m.regs, I64 z) ∧ (∀ z ∈ m.mem, I64 z) ∧ (∀ z ∈ m.out, I64 z) ∧ m.regs.length ≤ 256 ∧ m.mem.length ≤ 256 ∧ m.out.length ≤ 256
theorem zeroM_i64 : MI64 zeroM := ⟨fun z hz => (by cases hz), fun z hz => (by cases hz), fun z hz => (by cases hz), by decide, by decide, by decide⟩
theorem imageM_i64 (img : List Int) (hl : img.length ≤ 256) (h : ∀ z ∈ img, I64 z) : MI64 (imageM img) := by
  refine ⟨fun z hz => ?_, fun z hz => ?_, fun z hz => (by cases hz), by simp [imageM], by simp [imageM]; omega, by simp [imageM]⟩
  · have hz' : z ∈ List.replicate 8 (0 : Int) := hz
    rw [List.eq_of_mem_replicate hz']; unfold I64; omega
  · have hz' : z ∈ img ++ List.replicate (256 - img.length) (0 : Int) := hz
    rcases List.mem_append.1 hz' with hz | hz
    · exact h z hz
    · rw [List.eq_of_mem_replicate hz]; unfold I64; omega
theorem newM_i64 (img : List Int) (h : ∀ z ∈ img, I64 z) : MI64 (newM img) := by
  unfold newM
  split
  · exact zeroM_i64
  · split
    · exact zeroM_i64
    · exact imageM_i64 img (by omega) h

theorem new_all (v : Value) (img : List Int) (w : World) (hv : Ints w.heap.size w v img) : Calls Try.prog 14 #[v] w (NewPost w (newM img) (newC img)) := by
  by_cases h1 : 256 < img.length
  · have e : newM img = zeroM := by unfold newM; rw [if_pos h1]
    rw [e]; exact new_bad v img w hv (Or.inl h1)
  · cases h2 : img.any oddB with
    | true =>
      have e : newM img = zeroM := by unfold newM; rw [if_neg h1, if_pos h2]
      rw [e]; exact new_bad v img w hv (Or.inr h2)
    | false =>
      have e : newM img = imageM img := by unfold newM; rw [if_neg h1, if_neg (by rw [h2]; decide)]
      have e' : newC img = 0 := by unfold newC; rw [if_neg h1, if_neg (by rw [h2]; decide)]
      rw [e, e']; exact new_good v img w hv (by omega) h2
theorem guest_all (v : Value) (img : List Int) (w : World) (hv : Ints w.heap.size w v img) : Calls Try.prog 15 #[v] w (NewPost w (newM img) (newC img)) := by
  by_cases h1 : 256 < img.length
  · have e : newM img = zeroM := by unfold newM; rw [if_pos h1]
    rw [e]; exact guest_bad v img w hv (Or.inl h1)
  · cases h2 : img.any oddB with
    | true =>
      have e : newM img = zeroM := by unfold newM; rw [if_neg h1, if_pos h2]
      rw [e]; exact guest_bad v img w hv (Or.inr h2)
    | false =>
      have e : newM img = imageM img := by unfold newM; rw [if_neg h1, if_neg (by rw [h2]; decide)]
      have e' : newC img = 0 := by unfold newC; rw [if_neg h1, if_neg (by rw [h2]; decide)]
      rw [e, e']; exact guest_good v img w hv (by omega) h2

set_option maxHeartbeats 4000000 in
set_option maxRecDepth 100000 in
theorem walk (W : World) (v : Value) (img : List Int) (hv : Ints W.heap.size W v img) : Calls Try.prog 4 #[v] W fun e W' => e = .returned (.bool true) ∧ Below W.heap.size W W' := by
  have HV := Lib.hid hv
  have hin := Lib.hid (newM_i64 img hv.i64)
  have hlen := hv.len
  have HI := Lib.hid hv.i64
  clear hv
  go_enter Try.func4, Try.ntmps4
  go_wp2_with (at_builtin; go_loud (refine wpList_append_all W rfl (.const (.slice none 0 0)) (.tmp 8) 24 rfl W.heap.size 3 (.int .i64 0) 8 Try.underlying24 info_int rfl (.slice none 0 0) 0 [] rfl (World.ownsRow_nil _ _ _ _) v 17592186043904 W.heap.size (img.map (Value.int .i64)) rfl HV.out.vals (ints_one img) (by simp; unfold maxLen; omega) (by simp; omega) (Nat.le_refl _) ?_); intro a0 c0 w0 hown0 hgrow0 hat0)
  rw [List.nil_append, List.length_map, Nat.zero_add] at hown0
  have hb0 : Below W.heap.size W w0 := (Below.refl _ _).grown hgrow0 (Nat.le_refl _) (fun k hk => by simp [Value.ownBlock] at hk)
  have hi0 : Ints w0.heap.size w0 (.slice a0 img.length c0) img := ints_of_owns hown0 (by omega) HI.out
  have HB0 := Lib.hid hb0
  have HI0 := Lib.hid hi0
  clear hown0 hgrow0 hat0 hb0 hi0
  go_wp2_with fail
  refine (new_all _ img _ HI0.out).mono ?_
  rintro e w1 ⟨ar, cr, am, cm, ao, co, he, hown, hb1⟩
  obtain ⟨i1, i2, i3, l1, l2, l3⟩ := hin.out
  have hrd := hown.reads i1 i2 i3 (by omega) (by omega) (by omega)
  have HM := Lib.hid hrd
  have HB1 := Lib.hid hb1
  have HI3 := Lib.hid (show MI64 (newM img) from hin.out)
  clear hown hrd hb1 i1 i2 i3 l1 l2 l3 hin
  have HG := Lib.hid (fun w h => guest_all v img w h)
  generalize hmm : newM img = m at *
  generalize hcc : newC img = c at *
  clear hmm hcc
  rw [Mach.agg] at he
  subst he
  have hbox := alloc_at (w := w1) (o := .cells #[.slice ar m.regs.length cr, .int .i64 m.pc, .int .i64 m.back, .bool m.ints, .bool m.wait, .int .i64 m.table, .int .i64 m.count, .int .i64 m.fin, .slice am m.mem.length cm, .slice ao m.out.length co, .int .i64 m.ready, .int .i64 m.want] 27 (0, 0)) rfl
  go_wp2_with fail
  refine (HG.out _ (HV.out.to (by have := HB0.out.size; have := HB1.out.size; simp; omega) ((same_below HB0.out).trans (((same_below HB1.out).mono HB0.out.size).trans ((same_alloc _ _).mono (by have := HB0.out.size; have := HB1.out.size; omega)))))).mono ?_
  rintro e w2 ⟨br, dr, bm, dm, bo, d0, he, hown, hb2⟩
  have hrd := hown.reads HI3.out.1 HI3.out.2.1 HI3.out.2.2.1 (by have := HI3.out.2.2.2.1; omega) (by have := HI3.out.2.2.2.2.1; omega) (by have := HI3.out.2.2.2.2.2; omega)
  rw [Mach.agg] at he hrd
  have HM2 := Lib.hid hrd
  subst he
  have hx := block_below hb2 hbox (by simp)
  have q0 : w2.cell? ⟨w1.heap.size, 0, none⟩ = some (.slice ar m.regs.length cr) := cell_block hx 0
  have q1 : w2.cell? ⟨w1.heap.size, 1, none⟩ = some (.int .i64 m.pc) := cell_block hx 1
  have q2 : w2.cell? ⟨w1.heap.size, 2, none⟩ = some (.int .i64 m.back) := cell_block hx 2
  have q3 : w2.cell? ⟨w1.heap.size, 3, none⟩ = some (.bool m.ints) := cell_block hx 3
  have q4 : w2.cell? ⟨w1.heap.size, 4, none⟩ = some (.bool m.wait) := cell_block hx 4
  have q5 : w2.cell? ⟨w1.heap.size, 5, none⟩ = some (.int .i64 m.table) := cell_block hx 5
  have q6 : w2.cell? ⟨w1.heap.size, 6, none⟩ = some (.int .i64 m.count) := cell_block hx 6
  have q7 : w2.cell? ⟨w1.heap.size, 7, none⟩ = some (.int .i64 m.fin) := cell_block hx 7
  have q8 : w2.cell? ⟨w1.heap.size, 8, none⟩ = some (.slice am m.mem.length cm) := cell_block hx 8
  have q9 : w2.cell? ⟨w1.heap.size, 9, none⟩ = some (.slice ao m.out.length co) := cell_block hx 9
  have q10 : w2.cell? ⟨w1.heap.size, 10, none⟩ = some (.int .i64 m.ready) := cell_block hx 10
  have q11 : w2.cell? ⟨w1.heap.size, 11, none⟩ = some (.int .i64 m.want) := cell_block hx 11
  have lt2 : w1.heap.size < w2.heap.size := by have := hb2.size; simp at this; omega
  have HX := Lib.hid hx
  have HB2 := Lib.hid hb2
  clear hown hrd hx hb2 hbox
  go_wp2_with fail
  refine (sameMachine_yes _ _ m _ ?_ ?_).mono ?_
  · have h := HM.out
    rw [Mach.agg] at h
    exact h.to (by simp; omega) ((same_alloc w1 (.cells #[.slice ar m.regs.length cr, .int .i64 m.pc, .int .i64 m.back, .bool m.ints, .bool m.wait, .int .i64 m.table, .int .i64 m.count, .int .i64 m.fin, .slice am m.mem.length cm, .slice ao m.out.length co, .int .i64 m.ready, .int .i64 m.want] 27)).trans (((same_below HB2.out).mono (by simp)).trans ((same_alloc _ _).mono (by omega))))
  · exact HM2.out.to (by simp) (same_alloc _ _)
  rintro e w3 ⟨rfl, hb3⟩
  have hB := HB0.out.trans ((HB1.out.mono HB0.out.size).trans (((below_alloc w1 (.cells #[.slice ar m.regs.length cr, .int .i64 m.pc, .int .i64 m.back, .bool m.ints, .bool m.wait, .int .i64 m.table, .int .i64 m.count, .int .i64 m.fin, .slice am m.mem.length cm, .slice ao m.out.length co, .int .i64 m.ready, .int .i64 m.want] 27)).mono (by have := HB0.out.size; have := HB1.out.size; omega)).trans ((HB2.out.mono (by have := HB0.out.size; have := HB1.out.size; simp; omega)).trans (((below_alloc w2 _).mono (by have := HB0.out.size; have := HB1.out.size; omega)).trans (hb3.mono (by have := HB0.out.size; have := HB1.out.size; simp; omega))))))
  go_wp2
  go_ret
  exact ⟨ret_bool (by simp), hB⟩

set_option maxRecDepth 100000 in
theorem lifted (os : Os) (started : os.Started) (H : Type) (enc : TypeId × Value → H) :
    ReturnsInHanded {} Try.checked os 4 .any (Rows.cpuNewSpec.pre6 enc Try.prog Try.f4 Rows.cpuNewRow.domain false) (Rows.cpuNewSpec.post enc Try.prog Try.f4 false true false false) := by
  refine returnsInHanded_of_change_sized (C := Try.checked) Facts.own started (by kernel_rfl) Try.func4
    (ChangeSpec.witness6 (enc := enc) (C := Try.checked) false ⟨#[], #[.slice none 0 0], []⟩ 8 (by kernel_rfl) (by kernel_rfl) (by kernel_rfl) (by kernel_rfl)) ?_
  intro W base args ds gs before hval0 hW hcnd hsz0 _
  have hsz : (DataW.weightsEach Try.prog (Try.f4.params.toList ++ Rows.cpuNewSpec.plain.varTypes Try.prog) (ds ++ gs)).all (· ≤ reachBytes) = true := hsz0
  have hval : ∀ (j : Nat) t v, Try.f4.params[j]? = some t → args[j]? = some v → Value.okWide Try.prog W .any base t v := hval0
  have hW' := hW
  obtain ⟨p, q, hA0, hV, rfl, hfz, hnd⟩ := hW
  have hA : DataW.TrodAll enc Try.prog W 0 (fun _ => true) true Try.f4.params.toList args.toList ds p := hA0
  rw [Try.params4] at hA hval hsz
  obtain ⟨v0, vs0, d0, ds0, p0, q0, hargs, rfl, rfl, h0, r0⟩ := trodAll_cons hA
  obtain ⟨rfl, rfl, rfl⟩ := trodAll_nil r0
  obtain rfl : args = #[v0] := by cases args; simp_all
  obtain ⟨rfl, rfl⟩ := trodVars_none hV
  have k0 := h0
  have lt0 : ∀ x ∈ p0, x.block < W.heap.size := by obtain ⟨m, hm⟩ := k0; exact DataW.trod_lt m _ _ _ hm
  obtain ⟨x0_0, w0⟩ := open_intsA (hval 0 24 v0 rfl rfl) h0 (fits_at hsz (j := 0) rfl rfl)
  clear hA0 hval0
  refine (walk W v0 x0_0 w0).mono fun e W' ⟨he, bel⟩ => ?_
  subst he
  exact ⟨_, rfl, _, _, _, [], _, [], hW', trodAll_mk1 (shut_bool Try.underlying4 _), (trodAll_cons_mk (Below.trod Facts.laidOut (by kernel_rfl) (of_decide_eq_true (by kernel_rfl)) k0 bel lt0) trodAll_mk0), rfl, bel.frame _, fun h => by cases h⟩

theorem closed : joinedFacts Try.prog 4 Try.f4 Rows.cpuNewSpec Rows.cpuNewRow = true := by
  unfold joinedFacts
  rw [Facts.enters, Facts.lifts, Facts.made]
  kernel_rfl

theorem over : Rows.cpuNewRow.holds Try.pinned (OpenSpec.ofChange Rows.cpuNewSpec) :=
  OpenClaim.holds_of_wide 4 Try.f4 rfl rfl rfl rfl rfl rfl rfl ⟨rfl, rfl, rfl, rfl, rfl⟩ rfl rfl rfl rfl rfl (by kernel_rfl) Try.func4 closed
    (of_decide_eq_true (by kernel_rfl)) (by unfold Func.isWrapper; first | (rw [if_pos (by decide +kernel)]; kernel_rfl) | (rw [if_neg (by decide +kernel)]; exact ⟨rfl, rfl⟩))
    (fun os started H enc _ => lifted os started H enc)

theorem proved : Rows.CpuNewSaid := over
#print axioms proved
end Go.Proofs.Ytneeimfffoomgaa.lCpuNew
