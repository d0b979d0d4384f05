/- The law hourglasskeep.EventsSpoilt returns true at all raw things, every place and every byte, the table laid as the program's text lays it. No further condition. -/
import Derived.Test.YtnhccnjdpdhhaaaDoorRows
import Derived.Test.YtnhccnjdpdhhaaaDoorOpen
import Derived.Test.YtnhccnjdpdhhaaaDoorFacts
import Derived.WalkKit
import Derived.ProofKit
import Derived.OpenShut
import Derived.ShutString
import Derived.ChangeOld
import Derived.Below
import Derived.Test.YtnhccnjdpdhhaaaDoorDf
import Derived.Test.YtnhccnjdpdhhaaaDoorEs
import Derived.Test.YtnhccnjdpdhhaaaDoorDl
import Derived.Test.YtnhccnjdpdhhaaaDoorTie
import Derived.Test.YtnhccnjdpdhhaaaDoorCards
import Derived.SevenTiedAt
namespace Go.Proofs.YtnhccnjdpdhhaaaDoor.lEventsSpoilt
open Go Go.RowKit Go.ChangeShapes Go.WideShapes Go.ChangeAt
open Go.ChangeMaps (open_string shut_string)
set_option linter.unusedVariables false

theorem bv_set (E : List UInt8) (i : Nat) (x : UInt8) : (bv E).set i (.int .u8 (x.toNat : Int)) = bv (E.set i x) := by
  unfold bv
  rw [List.map_set]

theorem spoilt_enc {L : List Ev} (hok : EvOk L) (hl : L.length ≤ 30) {i : Nat} {x : UInt8} (hi : i < (encE L).length) (hx : x ≠ (encE L)[i]) {c : Int} {l : List Ev} (h : DecR ((encE L).set i x) c l) : c = 10 := by
  obtain ⟨hp1, hp2⟩ := payE_len hok hl
  unfold encE at hi hx h
  exact spoilt_sum hp1 (by omega) hi hx h
theorem enc_len {L : List Ev} (hok : EvOk L) (hl : L.length ≤ 30) : 5 ≤ (encE L).length ∧ (encE L).length ≤ 10004 := by
  obtain ⟨hp1, hp2⟩ := payE_len hok hl
  unfold encE
  rw [List.length_append, show (sumB (payE L)).length = 4 from rfl]
  omega

set_option maxHeartbeats 4000000 in
theorem walk (W : World) (ht : Tab W) (v : Value) (xs : List Rw) (hv : RawsR W.heap.size W v xs) (at_ : Int) (hat : I64 at_) (by_ : Int) (hby : 0 ≤ by_ ∧ by_ ≤ 255) : Calls Tryd.prog 6 #[v, .int .i64 at_, .int .u8 by_] W fun e W' => e = .returned (.bool true) ∧ Below W.heap.size W W' := by
  have HV := Lib.hid hv
  have HT := Lib.hid ht
  unfold I64 at hat
  obtain ⟨ha1, ha2⟩ := hat
  obtain ⟨hb1', hb2'⟩ := hby
  clear hv ht
  go_enter Tryd.func6, Tryd.ntmps6
  go_wp2_with fail
  refine (tells_any W HT.out).mono ?_
  rintro e w1 ⟨rfl, hb1⟩
  have HB1 := Lib.hid hb1
  clear hb1
  go_wp2_with fail
  refine (events_any _ xs w1 (HV.out.to HB1.out.size (same_below HB1.out))).mono ?_
  rintro e w2 ⟨ps, a, c, rfl, hos, hb2, hl30, hok⟩
  have HB2 := Lib.hid (HB1.out.trans (hb2.mono HB1.out.size))
  have hevs := hos.evs (by omega)
  obtain ⟨L, hL⟩ : ∃ L : List Ev, L = ps.map (·.1) := ⟨_, rfl⟩
  rw [← hL] at hevs hok
  have hlm : L.length ≤ 30 := by rw [hL, List.length_map]; exact hl30
  have HEN := Lib.hid (encode_good _ L w2 hevs (HT.out.to HB2.out) (Or.inr (Or.inr ⟨by omega, hok, rfl⟩)))
  have HSP := Lib.hid (fun (i : Nat) (x : UInt8) (hi : i < (encE L).length) (hx : x ≠ (encE L)[i]) (c : Int) (l : List Ev) (h : DecR ((encE L).set i x) c l) => spoilt_enc hok hlm hi hx h)
  obtain ⟨hel1, hel2⟩ := enc_len hok hlm
  clear hos hb2 hl30 hok hlm hevs hL
  generalize encE L = E at *
  go_wp2_with fail
  refine HEN.out.mono ?_
  rintro e w3 ⟨a3, c3, rfl, ho3, hb3⟩
  have HB3 := Lib.hid (HB2.out.trans (hb3.mono HB2.out.size))
  obtain ⟨g, hg, hgb⟩ : ∃ g, a3 = some ⟨g, 0, none⟩ ∧ w2.heap.size ≤ g := by
    rcases ho3.2 with ⟨_, h0⟩ | ⟨g, cap, cur, hh, hb, _⟩
    · omega
    · injection hh with h1 h2 h3; exact ⟨g, h1, hb⟩
  subst hg
  by_cases h0 : by_ = 0
  · subst h0
    clear ho3 hb3
    go_wp2
    go_ret
    exact ⟨ret_bool (by simp), HB3.out⟩
  · have hbb : (by_ == 0) = false := by rw [beq_eq_false_iff_ne]; exact h0
    have HO3 := Lib.hid ho3
    have HBB3 := Lib.hid hb3
    clear ho3 hb3
    go_wp2_with fail
    refine (picked_in at_ E.length _ ha1 ha2 (by omega) (by omega)).mono ?_
    rintro e w4 ⟨z, hz1, hz2, rfl, rfl⟩
    obtain ⟨i, rfl⟩ : ∃ i : Nat, z = i := ⟨z.toNat, by omega⟩
    have hi : i < E.length := by omega
    have q0 : w3.cell? ⟨g, i, none⟩ = some (.int .u8 (E[i].toNat : Int)) := by
      rw [HO3.out.cellAt i (by omega)]
      simp [bv, hi]
    have f0 := HO3.out.frozenAt i
    have hne := u8_lt E[i]
    obtain ⟨x, hx⟩ : ∃ x : UInt8, x = UInt8.ofNat ((E[i].toNat + by_.toNat) % 256) := ⟨_, rfl⟩
    have hxn : (x.toNat : Int) = ((E[i].toNat : Int) + by_) % 256 := by rw [hx, u8_nat (Nat.mod_lt _ (by decide))]; omega
    have HNE := Lib.hid (show x ≠ E[i] by
      intro e
      rw [e] at hxn
      omega)
    have HST := Lib.hid (HO3.out.stored i (.int .u8 (x.toNat : Int)))
    rw [bv_set, hxn] at HST
    have HDC := Lib.hid (fun (W4 : World) (h1 : Below W.heap.size W W4) (h2 : W4.ownsRow w2.heap.size 5 1 (.slice (some ⟨g, 0, none⟩) E.length c3) E.length (bv (E.set i x))) => evdecode_any (.slice (some ⟨g, 0, none⟩) E.length c3) (E.set i x) W4 (by have := bytes_of_own (bs := E.set i x) (a := some ⟨g, 0, none⟩) (c := c3) (base := w2.heap.size) (w := W4) (by rw [List.length_set]; exact h2) (by rw [List.length_set]; omega); rw [List.length_set] at this; exact this) (HT.out.to h1))
    have hw8 : IntKind.u8.wrap ((E[i].toNat : Int) + by_) = ((E[i].toNat : Int) + by_) % 256 := IntKind.wrap_u8 _
    have HB4 := Lib.hid (below_grown_ge HB3.out HST.out.2 (HB3.out.size) (by have := HB2.out.size; omega))
    clear hx hxn
    generalize E[i].toNat = y at *
    have hgl : g < w3.heap.size := by
      rcases HO3.out.2 with ⟨hh, _⟩ | ⟨g', cap, cur, hh, hb, hgg, _⟩
      · cases hh
      · injection hh with h1 h2 h3; injection h1 with h1; injection h1 with h1; rw [h1]; exact (Array.getElem?_eq_some_iff.1 hgg).1
    go_wp2_with fail
    refine (HDC.out _ HB4.out HST.out.1).mono ?_
    rintro e w5 ⟨cc, l, vo, hdec, rfl, hev, hb5⟩
    obtain rfl := HSP.out i x hi HNE.out cc l hdec
    have HB5 := Lib.hid (HB4.out.trans (hb5.mono HB4.out.size))
    clear hdec hev hb5
    go_wp2
    go_ret
    exact ⟨ret_bool (by simp), HB5.out⟩

set_option maxRecDepth 100000 in
theorem lifted (os : Os) (started : os.Started) (H : Type) (enc : TypeId × Value → H) :
    ReturnsInHanded {} Tryd.checked os 6 .any (fun w args => (Rows.eventsSpoiltSpec.pre enc Tryd.prog Tryd.f6 [] false w args ∧ laidMetH Tryd.prog laidW w) ∧ sizedMet enc Tryd.prog Tryd.f6 (OpenSpec.ofChange Rows.eventsSpoiltSpec) false w args) (Rows.eventsSpoiltSpec.post enc Tryd.prog Tryd.f6 false true false false) := by
  refine returnsInHanded_of_change_and (C := Tryd.checked) (X := fun w _ => laidMetH Tryd.prog laidW w) (fun _ _ _ hh h => h.of_heap hh) Facts.own started (by kernel_rfl) Tryd.func6
    (ChangeSpec.witness_shaped (enc := enc) (C := Tryd.checked) (os := os) (X := fun w _ => laidMetH Tryd.prog laidW w) false (World.doorLaid Tryd.prog 400 os) #[.slice none 0 0, .int .i64 0, .int .u8 0] 8 rfl (World.shaped_of_RefB (by kernel_rfl) (by kernel_rfl)) (by kernel_rfl) (by kernel_rfl) (by kernel_rfl) (door_met os _)) ?_
  intro W base args ds gs before hval0 hW hcnd hsz0 hL _
  have hsz : (DataW.weightsEach Tryd.prog (Tryd.f6.params.toList ++ Rows.eventsSpoiltSpec.plain.varTypes Tryd.prog) (ds ++ gs)).all (· ≤ reachBytes) = true := hsz0
  have hval : ∀ (j : Nat) t v, Tryd.f6.params[j]? = some t → args[j]? = some v → Value.okWide Tryd.prog W .any base t v := hval0
  have hW' := hW
  obtain ⟨p, q, hA0, hV, rfl, hfz, hnd⟩ := hW
  have hA : DataW.TrodAll enc Tryd.prog W 0 (fun _ => true) true Tryd.f6.params.toList args.toList ds p := hA0
  rw [Tryd.params6] at hA hval hsz
  obtain ⟨v0, vs0, d0, ds0, p0, q0, hargs, rfl, rfl, h0, r0⟩ := trodAll_cons hA
  obtain ⟨v1, vs1, d1, ds1, p1, q1, rfl, rfl, rfl, h1, r1⟩ := trodAll_cons r0
  obtain ⟨v2, vs2, d2, ds2, p2, q2, rfl, rfl, rfl, h2, r2⟩ := trodAll_cons r1
  obtain ⟨rfl, rfl, rfl⟩ := trodAll_nil r2
  obtain rfl : args = #[v0, v1, v2] := by cases args; simp_all
  obtain ⟨rfl, rfl⟩ := trodVars_none hV
  have k0 := h0
  have lt0 : ∀ x ∈ p0, x.block < W.heap.size := by obtain ⟨m, hm⟩ := k0; exact DataW.trod_lt m _ _ _ hm
  obtain ⟨x0_0, w0⟩ := open_rawsR (hval 0 37 v0 rfl rfl) h0 (fits_at hsz (j := 0) rfl rfl)
  have k1 := h1
  have lt1 : ∀ x ∈ p1, x.block < W.heap.size := by obtain ⟨m, hm⟩ := k1; exact DataW.trod_lt m _ _ _ hm
  obtain ⟨a1, rfl, rfl, rfl, w1⟩ := open_int Tryd.underlying3 (hval 1 3 v1 rfl rfl) h1
  have k2 := h2
  have lt2 : ∀ x ∈ p2, x.block < W.heap.size := by obtain ⟨m, hm⟩ := k2; exact DataW.trod_lt m _ _ _ hm
  obtain ⟨a2, rfl, rfl, rfl, w2⟩ := open_int Tryd.underlying5 (hval 2 5 v2 rfl rfl) h2
  clear hA0 hval0
  refine (walk W (tab_of_laid hL) v0 x0_0 w0 a1 (Go.bounds_i64 w1) a2 (Go.bounds_u8 w2)).mono fun e W' ⟨he, bel⟩ => ?_
  subst he
  exact ⟨_, rfl, _, _, _, [], _, [], hW', trodAll_mk1 (shut_bool Tryd.underlying4 _), (trodAll_cons_mk (Below.trod Facts.laidOut (by kernel_rfl) (of_decide_eq_true (by kernel_rfl)) k0 bel lt0) (trodAll_cons_mk (Below.trod Facts.laidOut (by kernel_rfl) (of_decide_eq_true (by kernel_rfl)) k1 bel lt1) (trodAll_cons_mk (Below.trod Facts.laidOut (by kernel_rfl) (of_decide_eq_true (by kernel_rfl)) k2 bel lt2) trodAll_mk0))), rfl, bel.frame _, fun h => by cases h⟩

theorem closed : joinedFacts Tryd.prog 6 Tryd.f6 Rows.eventsSpoiltSpec Rows.eventsSpoiltRow = true := by
  unfold joinedFacts
  rw [Facts.enters, Facts.lifts, Facts.made]
  kernel_rfl

theorem over : Rows.eventsSpoiltRow.holds Tryd.pinned (OpenSpec.ofChange Rows.eventsSpoiltSpec) :=
  OpenClaim.holds_of_wide 6 Tryd.f6 rfl rfl rfl rfl rfl rfl rfl ⟨rfl, rfl, rfl, rfl, rfl⟩ rfl rfl rfl rfl rfl (by kernel_rfl) Tryd.func6 closed
    (of_decide_eq_true (by kernel_rfl)) (by unfold Func.isWrapper; first | (rw [if_pos (by decide +kernel)]; kernel_rfl) | (rw [if_neg (by decide +kernel)]; exact ⟨rfl, rfl⟩))
    (fun os started H enc _ => lifted os started H enc)

theorem proved : Rows.EventsSpoiltCardSaid :=
  Claim7.holds_tied_plain_at .later [] [.data] true (true, "908581019a00493f5b8fb8b754f2f712311d8cb4141c17144ef0db3673841b7f") false over (fun _ h => by cases h) (by kernel_rfl) (fun _ h => by cases h) eventsSpoilt_row_tie rfl ⟨rfl, rfl⟩ (by kernel_rfl) rfl
    (fun f fn hf hfn => by
      obtain rfl : f = 6 := Option.some.inj ((show Tryd.prog.funcNamed "hourglass/hourglasskeep.EventsSpoilt" = some 6 by kernel_rfl).symm.trans hf) |>.symm
      obtain rfl : fn = Tryd.f6 := (Option.some.inj (Tryd.func6.symm.trans hfn)).symm
      exact ⟨by kernel_rfl, fun j t ht => by
        rw [Tryd.params6] at ht
        have hm : t ∈ [37, 3, 5] := by simpa using Array.mem_of_getElem? ht
        have hall : ([37, 3, 5].all fun u => !Tryd.prog.wantsStandIn u) = true := by kernel_rfl
        exact (show Tryd.prog.wantsStandIn t = false by simpa using List.all_eq_true.1 hall t hm)⟩)
    (by kernel_rfl)
#print axioms proved
end Go.Proofs.YtnhccnjdpdhhaaaDoor.lEventsSpoilt
