/- The law hourglasskeep.EventsOnce returns true at every slice of bytes, the table laid as the program's text lays it. No further condition. -/
import Derived.Test.YtnhccnjdpdhhaaaDoorRows
import Derived.Test.YtnhccnjdpdhhaaaDoorOpen
import Derived.Test.YtnhccnjdpdhhaaaDoorFacts
import Derived.WalkKit
import Derived.ProofKit
import Derived.OpenShut
import Derived.ShutString
import Derived.ChangeOld
import Derived.Below
import Derived.Test.YtnhccnjdpdhhaaaDoorDf
import Derived.Test.YtnhccnjdpdhhaaaDoorEq
import Derived.Test.YtnhccnjdpdhhaaaDoorCb
import Derived.Test.YtnhccnjdpdhhaaaDoorDl
import Derived.Test.YtnhccnjdpdhhaaaDoorTie
import Derived.Test.YtnhccnjdpdhhaaaDoorCards
import Derived.SevenTiedAt
namespace Go.Proofs.YtnhccnjdpdhhaaaDoor.lEventsOnce
open Go Go.RowKit Go.ChangeShapes Go.WideShapes Go.ChangeAt
open Go.ChangeMaps (open_string shut_string)
set_option linter.unusedVariables false

set_option maxHeartbeats 4000000 in
theorem walk (W : World) (ht : Tab W) (v : Value) (b : List UInt8) (hv : BytesR W.heap.size W v b) : Calls Tryd.prog 7 #[v] W fun e W' => e = .returned (.bool true) ∧ Below W.heap.size W W' := by
  obtain ⟨av, cv, rfl, hbl, _⟩ := id hv
  have HV := Lib.hid hv
  have HT := Lib.hid ht
  have HD := Lib.hid (evdecode_any _ b W hv ht)
  clear hv ht
  go_enter Tryd.func7, Tryd.ntmps7
  go_wp2_with fail
  refine HD.out.mono ?_
  rintro e w1 ⟨c, l, vo, hdec, rfl, hev, hb1⟩
  have HB1 := Lib.hid hb1
  by_cases h0 : c = 0
  · subst h0
    obtain ⟨hbe, hres⟩ := dec_canon hdec
    obtain ⟨hok, h1000⟩ := hres.ok
    have hpl := payE_le hok h1000
    have hel : (encE l).length ≤ 400010 := by unfold encE; rw [List.length_append, show (sumB (payE l)).length = 4 from rfl]; omega
    have HE := Lib.hid (encode_good vo l w1 hev (HT.out.to hb1) hres)
    subst hbe
    have HX0 := Lib.hid (fun (W2 : World) (h2 : Below w1.heap.size w1 W2) => conv_bytes (w := W2) (B := W.heap.size) (HV.out.to (Nat.le_refl _) ((same_below hb1).trans ((same_below h2).mono hb1.size))))
    clear hdec hok hpl hres hb1 hev hbl
    generalize encE l = E at *
    go_wp2_with fail
    refine HE.out.mono ?_
    rintro e w2 ⟨a2, c2, rfl, ho2, hb2⟩
    have hx1 := HX0.out w2 hb2
    have hx2 := conv_bytes (bytes_of_own ho2 (by omega))
    have HB2 := Lib.hid hb2
    clear ho2 hb2
    go_wp2
    go_ret
    exact ⟨ret_bool (by simp), HB1.out.trans (HB2.out.mono HB1.out.size)⟩
  · have hl := dec_err hdec h0
    subst hl
    obtain ⟨ao, co, rfl, _⟩ := hev
    have hcb : (c != 0) = true := by rw [bne_iff_ne]; exact h0
    clear hdec h0 hb1
    go_wp2
    go_ret
    exact ⟨ret_bool (by simp), HB1.out⟩

set_option maxRecDepth 100000 in
theorem lifted (os : Os) (started : os.Started) (H : Type) (enc : TypeId × Value → H) :
    ReturnsInHanded {} Tryd.checked os 7 .any (fun w args => (Rows.eventsOnceSpec.pre enc Tryd.prog Tryd.f7 [] false w args ∧ laidMetH Tryd.prog laidW w) ∧ sizedMet enc Tryd.prog Tryd.f7 (OpenSpec.ofChange Rows.eventsOnceSpec) false w args) (Rows.eventsOnceSpec.post enc Tryd.prog Tryd.f7 false true false false) := by
  refine returnsInHanded_of_change_and (C := Tryd.checked) (X := fun w _ => laidMetH Tryd.prog laidW w) (fun _ _ _ hh h => h.of_heap hh) Facts.own started (by kernel_rfl) Tryd.func7
    (ChangeSpec.witness_shaped (enc := enc) (C := Tryd.checked) (os := os) (X := fun w _ => laidMetH Tryd.prog laidW w) false (World.doorLaid Tryd.prog 400 os) #[.slice none 0 0] 8 rfl (World.shaped_of_RefB (by kernel_rfl) (by kernel_rfl)) (by kernel_rfl) (by kernel_rfl) (by kernel_rfl) (door_met os _)) ?_
  intro W base args ds gs before hval0 hW hcnd hsz0 hL _
  have hsz : (DataW.weightsEach Tryd.prog (Tryd.f7.params.toList ++ Rows.eventsOnceSpec.plain.varTypes Tryd.prog) (ds ++ gs)).all (· ≤ reachBytes) = true := hsz0
  have hval : ∀ (j : Nat) t v, Tryd.f7.params[j]? = some t → args[j]? = some v → Value.okWide Tryd.prog W .any base t v := hval0
  have hW' := hW
  obtain ⟨p, q, hA0, hV, rfl, hfz, hnd⟩ := hW
  have hA : DataW.TrodAll enc Tryd.prog W 0 (fun _ => true) true Tryd.f7.params.toList args.toList ds p := hA0
  rw [Tryd.params7] at hA hval hsz
  obtain ⟨v0, vs0, d0, ds0, p0, q0, hargs, rfl, rfl, h0, r0⟩ := trodAll_cons hA
  obtain ⟨rfl, rfl, rfl⟩ := trodAll_nil r0
  obtain rfl : args = #[v0] := by cases args; simp_all
  obtain ⟨rfl, rfl⟩ := trodVars_none hV
  have k0 := h0
  have lt0 : ∀ x ∈ p0, x.block < W.heap.size := by obtain ⟨m, hm⟩ := k0; exact DataW.trod_lt m _ _ _ hm
  obtain ⟨x0_0, w0⟩ := open_bytesA (hval 0 23 v0 rfl rfl) h0 (fits_at hsz (j := 0) rfl rfl)
  clear hA0 hval0
  refine (walk W (tab_of_laid hL) v0 x0_0 w0).mono fun e W' ⟨he, bel⟩ => ?_
  subst he
  exact ⟨_, rfl, _, _, _, [], _, [], hW', trodAll_mk1 (shut_bool Tryd.underlying4 _), (trodAll_cons_mk (Below.trod Facts.laidOut (by kernel_rfl) (of_decide_eq_true (by kernel_rfl)) k0 bel lt0) trodAll_mk0), rfl, bel.frame _, fun h => by cases h⟩

theorem closed : joinedFacts Tryd.prog 7 Tryd.f7 Rows.eventsOnceSpec Rows.eventsOnceRow = true := by
  unfold joinedFacts
  rw [Facts.enters, Facts.lifts, Facts.made]
  kernel_rfl

theorem over : Rows.eventsOnceRow.holds Tryd.pinned (OpenSpec.ofChange Rows.eventsOnceSpec) :=
  OpenClaim.holds_of_wide 7 Tryd.f7 rfl rfl rfl rfl rfl rfl rfl ⟨rfl, rfl, rfl, rfl, rfl⟩ rfl rfl rfl rfl rfl (by kernel_rfl) Tryd.func7 closed
    (of_decide_eq_true (by kernel_rfl)) (by unfold Func.isWrapper; first | (rw [if_pos (by decide +kernel)]; kernel_rfl) | (rw [if_neg (by decide +kernel)]; exact ⟨rfl, rfl⟩))
    (fun os started H enc _ => lifted os started H enc)

theorem proved : Rows.EventsOnceCardSaid :=
  Claim7.holds_tied_plain_at .later [] [.data] true (true, "908581019a00493f5b8fb8b754f2f712311d8cb4141c17144ef0db3673841b7f") false over (fun _ h => by cases h) (by kernel_rfl) (fun _ h => by cases h) eventsOnce_row_tie rfl ⟨rfl, rfl⟩ (by kernel_rfl) rfl
    (fun f fn hf hfn => by
      obtain rfl : f = 7 := Option.some.inj ((show Tryd.prog.funcNamed "hourglass/hourglasskeep.EventsOnce" = some 7 by kernel_rfl).symm.trans hf) |>.symm
      obtain rfl : fn = Tryd.f7 := (Option.some.inj (Tryd.func7.symm.trans hfn)).symm
      exact ⟨by kernel_rfl, fun j t ht => by
        rw [Tryd.params7] at ht
        have hm : t ∈ [23] := by simpa using Array.mem_of_getElem? ht
        have hall : ([23].all fun u => !Tryd.prog.wantsStandIn u) = true := by kernel_rfl
        exact (show Tryd.prog.wantsStandIn t = false by simpa using List.all_eq_true.1 hall t hm)⟩)
    (by kernel_rfl)
#print axioms proved
end Go.Proofs.YtnhccnjdpdhhaaaDoor.lEventsOnce
