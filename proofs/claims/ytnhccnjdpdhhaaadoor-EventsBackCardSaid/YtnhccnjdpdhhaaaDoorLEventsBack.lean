/- The law hourglasskeep.EventsBack returns true at all raw things and every number, the table laid as the program's text lays it. No further condition. -/
import Derived.Test.YtnhccnjdpdhhaaaDoorRows
import Derived.Test.YtnhccnjdpdhhaaaDoorOpen
import Derived.Test.YtnhccnjdpdhhaaaDoorFacts
import Derived.WalkKit
import Derived.ProofKit
import Derived.OpenShut
import Derived.ShutString
import Derived.ChangeOld
import Derived.Below
import Derived.Test.YtnhccnjdpdhhaaaDoorDf
import Derived.Test.YtnhccnjdpdhhaaaDoorEs
import Derived.Test.YtnhccnjdpdhhaaaDoorEu
import Derived.Test.YtnhccnjdpdhhaaaDoorDl
import Derived.Test.YtnhccnjdpdhhaaaDoorTie
import Derived.Test.YtnhccnjdpdhhaaaDoorCards
import Derived.SevenTiedAt
namespace Go.Proofs.YtnhccnjdpdhhaaaDoor.lEventsBack
open Go Go.RowKit Go.ChangeShapes Go.WideShapes Go.ChangeAt
open Go.ChangeMaps (open_string shut_string)
set_option linter.unusedVariables false

theorem enc_len {L : List Ev} (hok : EvOk L) (hl : L.length ≤ 30) : 5 ≤ (encE L).length ∧ (encE L).length ≤ 10004 := by
  obtain ⟨hp1, hp2⟩ := payE_len hok hl
  unfold encE
  rw [List.length_append, show (sumB (payE L)).length = 4 from rfl]
  omega

set_option maxHeartbeats 4000000 in
theorem walk (W : World) (ht : Tab W) (v : Value) (xs : List Rw) (hv : RawsR W.heap.size W v xs) (cut : Int) (hcu : I64 cut) : Calls Tryd.prog 8 #[v, .int .i64 cut] W fun e W' => e = .returned (.bool true) ∧ Below W.heap.size W W' := by
  have HV := Lib.hid hv
  have HT := Lib.hid ht
  unfold I64 at hcu
  obtain ⟨ha1, ha2⟩ := hcu
  clear hv ht
  go_enter Tryd.func8, Tryd.ntmps8
  go_wp2_with fail
  refine (tells_any W HT.out).mono ?_
  rintro e w1 ⟨rfl, hb1⟩
  have HB1 := Lib.hid hb1
  clear hb1
  go_wp2_with fail
  refine (events_any _ xs w1 (HV.out.to HB1.out.size (same_below HB1.out))).mono ?_
  rintro e w2 ⟨ps, a, c, rfl, hos, hb2, hl30, hok⟩
  have HB2 := Lib.hid (HB1.out.trans (hb2.mono HB1.out.size))
  have hevs := hos.evs (by omega)
  obtain ⟨L, hL⟩ : ∃ L : List Ev, L = ps.map (·.1) := ⟨_, rfl⟩
  rw [← hL] at hevs hok
  have hlm : L.length ≤ 30 := by rw [hL, List.length_map]; exact hl30
  have hres : EvRes L 0 := Or.inr (Or.inr ⟨by omega, hok, rfl⟩)
  have HEN := Lib.hid (encode_good _ L w2 hevs (HT.out.to HB2.out) hres)
  obtain ⟨hel1, hel2⟩ := enc_len hok hlm
  have HDE := Lib.hid (dec_enc hres hel1 (by omega))
  have HCU := Lib.hid (fun (k : Nat) (hk : k < (encE L).length) (c : Int) (m : List Ev) (hd : DecR ((encE L).take k) c m) => dec_cut hres hk hd)
  have HEV := Lib.hid hevs
  clear hos hb2 hl30 hok hlm hevs hL hres
  generalize encE L = E at *
  go_wp2_with fail
  refine HEN.out.mono ?_
  rintro e w3 ⟨a3, c3, rfl, ho3, hb3⟩
  have HB3 := Lib.hid (HB2.out.trans (hb3.mono HB2.out.size))
  have HBY := Lib.hid (bytes_of_own ho3 (by omega))
  have HEV3 := Lib.hid (HEV.out.to hb3.size (same_below hb3))
  have HD1 := Lib.hid (evdecode_any _ E w3 HBY.out (HT.out.to HB3.out))
  clear ho3 hb3
  go_wp2_with fail
  refine HD1.out.mono ?_
  rintro e w4 ⟨cc, m, vo, hdec, rfl, hev4, hb4⟩
  obtain ⟨rfl, rfl⟩ := hdec.det HDE.out
  have HB4 := Lib.hid (HB3.out.trans (hb4.mono HB3.out.size))
  have HEV4 := Lib.hid (HEV3.out.to hb4.size (same_below hb4))
  have HVO4 := Lib.hid hev4
  have HBY4 := Lib.hid (HBY.out.to hb4.size (same_below hb4))
  clear hdec hev4 hb4
  go_wp2_with fail
  refine (picked_in cut E.length _ ha1 ha2 (by omega) (by omega)).mono ?_
  rintro e w5 ⟨z, hz1, hz2, rfl, rfl⟩
  obtain ⟨i, rfl⟩ : ∃ i : Nat, z = i := ⟨z.toNat, by omega⟩
  have hi : i < E.length := by omega
  have hcap : E.length ≤ c3 := by
    obtain ⟨_, _, hh, _, h2, _⟩ := HBY4.out
    injection hh with h3 h4 h5
    rw [h5]; exact h2
  have hbt := bytes_take HBY4.out (k := i) (by omega)
  have HD2 := Lib.hid (evdecode_any _ (E.take i) w4 hbt (HT.out.to HB4.out))
  have hic : i ≤ c3 := by omega
  clear hbt
  go_wp2_with fail
  refine HD2.out.mono ?_
  rintro e w6 ⟨cc, m2, vo2, hdec, rfl, hev6, hb6⟩
  have hne := HCU.out i hi cc m2 hdec
  have hm2 := dec_err hdec hne
  subst hm2
  obtain ⟨ao, co, rfl, _⟩ := hev6
  have hcb : (cc != 0) = true := by rw [bne_iff_ne]; exact hne
  have HB6 := Lib.hid (HB4.out.trans (hb6.mono HB4.out.size))
  have HES := Lib.hid (evsSame_any _ vo m w6 (HEV4.out.to hb6.size (same_below hb6)) (HVO4.out.to hb6.size (same_below hb6)))
  clear hdec hb6 hne
  go_wp2_with fail
  refine HES.out.mono ?_
  rintro e w7 ⟨rfl, hb7⟩
  have HB7 := Lib.hid (HB6.out.trans (hb7.mono HB6.out.size))
  clear hb7
  go_wp2
  go_ret
  exact ⟨ret_bool (by simp), HB7.out⟩

set_option maxRecDepth 100000 in
theorem lifted (os : Os) (started : os.Started) (H : Type) (enc : TypeId × Value → H) :
    ReturnsInHanded {} Tryd.checked os 8 .any (fun w args => (Rows.eventsBackSpec.pre enc Tryd.prog Tryd.f8 [] false w args ∧ laidMetH Tryd.prog laidW w) ∧ sizedMet enc Tryd.prog Tryd.f8 (OpenSpec.ofChange Rows.eventsBackSpec) false w args) (Rows.eventsBackSpec.post enc Tryd.prog Tryd.f8 false true false false) := by
  refine returnsInHanded_of_change_and (C := Tryd.checked) (X := fun w _ => laidMetH Tryd.prog laidW w) (fun _ _ _ hh h => h.of_heap hh) Facts.own started (by kernel_rfl) Tryd.func8
    (ChangeSpec.witness_shaped (enc := enc) (C := Tryd.checked) (os := os) (X := fun w _ => laidMetH Tryd.prog laidW w) false (World.doorLaid Tryd.prog 400 os) #[.slice none 0 0, .int .i64 0] 8 rfl (World.shaped_of_RefB (by kernel_rfl) (by kernel_rfl)) (by kernel_rfl) (by kernel_rfl) (by kernel_rfl) (door_met os _)) ?_
  intro W base args ds gs before hval0 hW hcnd hsz0 hL _
  have hsz : (DataW.weightsEach Tryd.prog (Tryd.f8.params.toList ++ Rows.eventsBackSpec.plain.varTypes Tryd.prog) (ds ++ gs)).all (· ≤ reachBytes) = true := hsz0
  have hval : ∀ (j : Nat) t v, Tryd.f8.params[j]? = some t → args[j]? = some v → Value.okWide Tryd.prog W .any base t v := hval0
  have hW' := hW
  obtain ⟨p, q, hA0, hV, rfl, hfz, hnd⟩ := hW
  have hA : DataW.TrodAll enc Tryd.prog W 0 (fun _ => true) true Tryd.f8.params.toList args.toList ds p := hA0
  rw [Tryd.params8] at hA hval hsz
  obtain ⟨v0, vs0, d0, ds0, p0, q0, hargs, rfl, rfl, h0, r0⟩ := trodAll_cons hA
  obtain ⟨v1, vs1, d1, ds1, p1, q1, rfl, rfl, rfl, h1, r1⟩ := trodAll_cons r0
  obtain ⟨rfl, rfl, rfl⟩ := trodAll_nil r1
  obtain rfl : args = #[v0, v1] := by cases args; simp_all
  obtain ⟨rfl, rfl⟩ := trodVars_none hV
  have k0 := h0
  have lt0 : ∀ x ∈ p0, x.block < W.heap.size := by obtain ⟨m, hm⟩ := k0; exact DataW.trod_lt m _ _ _ hm
  obtain ⟨x0_0, w0⟩ := open_rawsR (hval 0 37 v0 rfl rfl) h0 (fits_at hsz (j := 0) rfl rfl)
  have k1 := h1
  have lt1 : ∀ x ∈ p1, x.block < W.heap.size := by obtain ⟨m, hm⟩ := k1; exact DataW.trod_lt m _ _ _ hm
  obtain ⟨a1, rfl, rfl, rfl, w1⟩ := open_int Tryd.underlying3 (hval 1 3 v1 rfl rfl) h1
  clear hA0 hval0
  refine (walk W (tab_of_laid hL) v0 x0_0 w0 a1 (Go.bounds_i64 w1)).mono fun e W' ⟨he, bel⟩ => ?_
  subst he
  exact ⟨_, rfl, _, _, _, [], _, [], hW', trodAll_mk1 (shut_bool Tryd.underlying4 _), (trodAll_cons_mk (Below.trod Facts.laidOut (by kernel_rfl) (of_decide_eq_true (by kernel_rfl)) k0 bel lt0) (trodAll_cons_mk (Below.trod Facts.laidOut (by kernel_rfl) (of_decide_eq_true (by kernel_rfl)) k1 bel lt1) trodAll_mk0)), rfl, bel.frame _, fun h => by cases h⟩

theorem closed : joinedFacts Tryd.prog 8 Tryd.f8 Rows.eventsBackSpec Rows.eventsBackRow = true := by
  unfold joinedFacts
  rw [Facts.enters, Facts.lifts, Facts.made]
  kernel_rfl

theorem over : Rows.eventsBackRow.holds Tryd.pinned (OpenSpec.ofChange Rows.eventsBackSpec) :=
  OpenClaim.holds_of_wide 8 Tryd.f8 rfl rfl rfl rfl rfl rfl rfl ⟨rfl, rfl, rfl, rfl, rfl⟩ rfl rfl rfl rfl rfl (by kernel_rfl) Tryd.func8 closed
    (of_decide_eq_true (by kernel_rfl)) (by unfold Func.isWrapper; first | (rw [if_pos (by decide +kernel)]; kernel_rfl) | (rw [if_neg (by decide +kernel)]; exact ⟨rfl, rfl⟩))
    (fun os started H enc _ => lifted os started H enc)

theorem proved : Rows.EventsBackCardSaid :=
  Claim7.holds_tied_plain_at .later [] [.data] true (true, "908581019a00493f5b8fb8b754f2f712311d8cb4141c17144ef0db3673841b7f") false over (fun _ h => by cases h) (by kernel_rfl) (fun _ h => by cases h) eventsBack_row_tie rfl ⟨rfl, rfl⟩ (by kernel_rfl) rfl
    (fun f fn hf hfn => by
      obtain rfl : f = 8 := Option.some.inj ((show Tryd.prog.funcNamed "hourglass/hourglasskeep.EventsBack" = some 8 by kernel_rfl).symm.trans hf) |>.symm
      obtain rfl : fn = Tryd.f8 := (Option.some.inj (Tryd.func8.symm.trans hfn)).symm
      exact ⟨by kernel_rfl, fun j t ht => by
        rw [Tryd.params8] at ht
        have hm : t ∈ [37, 3] := by simpa using Array.mem_of_getElem? ht
        have hall : ([37, 3].all fun u => !Tryd.prog.wantsStandIn u) = true := by kernel_rfl
        exact (show Tryd.prog.wantsStandIn t = false by simpa using List.all_eq_true.1 hall t hm)⟩)
    (by kernel_rfl)
#print axioms proved
end Go.Proofs.YtnhccnjdpdhhaaaDoor.lEventsBack
