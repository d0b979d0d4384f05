/- The law hourglasslaw.EvlogDecodes returns true at every slice of bytes, the table laid as the program's text lays it. No further condition. -/
import Derived.Test.YtiekilpddmdhnaaDoorRows
import Derived.Test.YtiekilpddmdhnaaDoorOpen
import Derived.Test.YtiekilpddmdhnaaDoorFacts
import Derived.WalkKit
import Derived.ProofKit
import Derived.OpenShut
import Derived.ShutString
import Derived.ChangeOld
import Derived.Below
import Derived.Test.YtiekilpddmdhnaaDoorTe
import Derived.Test.YtiekilpddmdhnaaDoorSe
import Derived.Test.YtiekilpddmdhnaaDoorAp
import Derived.Test.YtiekilpddmdhnaaDoorDl
import Derived.Test.YtiekilpddmdhnaaDoorTie
import Derived.Test.YtiekilpddmdhnaaDoorCards
import Derived.SevenTiedAt
namespace Go.Proofs.YtiekilpddmdhnaaDoor.lEvlogDecodes
open Go Go.RowKit Go.ChangeShapes Go.WideShapes Go.ChangeAt
open Go.ChangeMaps (open_string shut_string)
set_option linter.unusedVariables false

theorem bytes_vals {B : Nat} {w : World} {v : Value} {bs : List UInt8} (h : BytesR B w v bs) : SlV 140737488351232 B w v (bv bs) := by
  obtain ⟨a, cap, rfl, hl, hl2, hc⟩ := h
  refine ⟨a, cap, by rw [bv_len], by rw [bv_len]; exact hl, by rw [bv_len]; exact hl2, fun i hi => ?_⟩
  rw [bv_len] at hi
  obtain ⟨b, off, vi, h1, h2, h3, h4⟩ := hc i hi
  refine ⟨b, off, vi, h1, h2, h3, ?_⟩
  unfold ByteV at h4
  rw [h4]
  simp [bv]
theorem bytes_of_own2 {w : World} {base c : Nat} {a : Option Addr} {bs : List UInt8} (h : w.ownsRow base 5 1 (.slice a bs.length c) bs.length (bv bs)) (hl : bs.length ≤ 140737488351232) : BytesR w.heap.size w (.slice a bs.length c) bs :=
  sl1_of_owns h hl (fun i hi hv => by unfold ByteV; simp [bv])

set_option maxHeartbeats 4000000 in
set_option maxRecDepth 100000 in
theorem walk (W : World) (ht : Tab W) (v : Value) (b : List UInt8) (hv : BytesR W.heap.size W v b) : Calls Tryd.prog 3 #[v] W fun e W' => e = .returned (.bool true) ∧ Below W.heap.size W W' := by
  have HV := Lib.hid hv
  have HT := Lib.hid ht
  have hlen : b.length ≤ 140737488351232 := by obtain ⟨_, _, _, h, _⟩ := hv; exact h
  clear hv ht
  go_enter Tryd.func3, Tryd.ntmps3
  go_wp2_with (at_builtin; go_loud (refine wpList_append_all W rfl (.const (.slice none 0 0)) (.tmp 8) 22 rfl W.heap.size 5 (.int .u8 0) 1 Tryd.underlying22 info_u8 rfl (.slice none 0 0) 0 [] rfl (World.ownsRow_nil _ _ _ _) v 140737488351232 W.heap.size (bv b) rfl (bytes_vals HV.out) (bv_one b) (by rw [bv_len]; unfold maxLen; omega) (by rw [bv_len]; omega) (Nat.le_refl _) ?_); intro a0 c0 w0 hown0 hgrow0 hat0)
  rw [List.nil_append, bv_len, Nat.zero_add] at hown0
  have hb0 : Below W.heap.size W w0 := (Below.refl _ _).grown hgrow0 (Nat.le_refl _) (fun k hk => by simp [Value.ownBlock] at hk)
  have hi0 : BytesR w0.heap.size w0 (.slice a0 b.length c0) b := bytes_of_own2 hown0 hlen
  have HB0 := Lib.hid hb0
  have HD := Lib.hid (evdecode_any _ b w0 hi0 (HT.out.to hb0))
  clear hown0 hgrow0 hat0 hb0 hi0
  rw [bv_len]
  go_wp2_with fail
  refine HD.out.mono ?_
  rintro e w1 ⟨c, l, vo, hdec, rfl, hev, hb1⟩
  have HB1 := Lib.hid (HB0.out.trans (hb1.mono HB0.out.size))
  have HDEC := Lib.hid hdec
  have HEV := Lib.hid hev
  have HE := Lib.hid (eventsOf_any v b w1 (HV.out.to HB1.out.size (same_below HB1.out)))
  clear hdec hev hb1 HD
  go_wp2_with fail
  refine HE.out.mono ?_
  rintro e w2 ⟨c2, l2, vo2, hdec2, rfl, hev2, hb2⟩
  obtain ⟨rfl, rfl⟩ := HDEC.out.det hdec2
  have HB2 := Lib.hid (HB1.out.trans (hb2.mono HB1.out.size))
  have HS := Lib.hid (sameEvs_any vo vo2 l w2 (HEV.out.to hb2.size (same_below hb2)) hev2)
  clear hdec2 hev2 hb2 HE HEV
  go_wp2_with fail
  refine HS.out.mono ?_
  rintro e w3 ⟨rfl, n, rfl⟩
  go_wp2
  go_ret
  exact ⟨ret_bool (by simp), below_drewN HB2.out n⟩

set_option maxRecDepth 100000 in
theorem lifted (os : Os) (started : os.Started) (H : Type) (enc : TypeId × Value → H) :
    ReturnsInHanded {} Tryd.checked os 3 .any (fun w args => (Rows.evlogDecodesSpec.pre enc Tryd.prog Tryd.f3 [] false w args ∧ laidMetH Tryd.prog laidW w) ∧ sizedMet enc Tryd.prog Tryd.f3 (OpenSpec.ofChange Rows.evlogDecodesSpec) false w args) (Rows.evlogDecodesSpec.post enc Tryd.prog Tryd.f3 false true false false) := by
  refine returnsInHanded_of_change_and (C := Tryd.checked) (X := fun w _ => laidMetH Tryd.prog laidW w) (fun _ _ _ hh h => h.of_heap hh) Facts.own started (by kernel_rfl) Tryd.func3
    (ChangeSpec.witness_shaped (enc := enc) (C := Tryd.checked) (os := os) (X := fun w _ => laidMetH Tryd.prog laidW w) false (World.doorLaid Tryd.prog 400 os) #[.slice none 0 0] 8 rfl (World.shaped_of_RefB (by kernel_rfl) (by kernel_rfl)) (by kernel_rfl) (by kernel_rfl) (by kernel_rfl) (door_met os _)) ?_
  intro W base args ds gs before hval0 hW hcnd hsz0 hL _
  have hsz : (DataW.weightsEach Tryd.prog (Tryd.f3.params.toList ++ Rows.evlogDecodesSpec.plain.varTypes Tryd.prog) (ds ++ gs)).all (· ≤ reachBytes) = true := hsz0
  have hval : ∀ (j : Nat) t v, Tryd.f3.params[j]? = some t → args[j]? = some v → Value.okWide Tryd.prog W .any base t v := hval0
  have hW' := hW
  obtain ⟨p, q, hA0, hV, rfl, hfz, hnd⟩ := hW
  have hA : DataW.TrodAll enc Tryd.prog W 0 (fun _ => true) true Tryd.f3.params.toList args.toList ds p := hA0
  rw [Tryd.params3] at hA hval hsz
  obtain ⟨v0, vs0, d0, ds0, p0, q0, hargs, rfl, rfl, h0, r0⟩ := trodAll_cons hA
  obtain ⟨rfl, rfl, rfl⟩ := trodAll_nil r0
  obtain rfl : args = #[v0] := by cases args; simp_all
  obtain ⟨rfl, rfl⟩ := trodVars_none hV
  have k0 := h0
  have lt0 : ∀ x ∈ p0, x.block < W.heap.size := by obtain ⟨m, hm⟩ := k0; exact DataW.trod_lt m _ _ _ hm
  obtain ⟨x0_0, w0⟩ := open_bytesA (hval 0 22 v0 rfl rfl) h0 (fits_at hsz (j := 0) rfl rfl)
  clear hA0 hval0
  refine (walk W (tab_of_laid hL) v0 x0_0 w0).mono fun e W' ⟨he, bel⟩ => ?_
  subst he
  exact ⟨_, rfl, _, _, _, [], _, [], hW', trodAll_mk1 (shut_bool Tryd.underlying4 _), (trodAll_cons_mk (Below.trod Facts.laidOut (by kernel_rfl) (of_decide_eq_true (by kernel_rfl)) k0 bel lt0) trodAll_mk0), rfl, bel.frame _, fun h => by cases h⟩

theorem closed : joinedFacts Tryd.prog 3 Tryd.f3 Rows.evlogDecodesSpec Rows.evlogDecodesRow = true := by
  unfold joinedFacts
  rw [Facts.enters, Facts.lifts, Facts.made]
  kernel_rfl

theorem over : Rows.evlogDecodesRow.holds Tryd.pinned (OpenSpec.ofChange Rows.evlogDecodesSpec) :=
  OpenClaim.holds_of_wide 3 Tryd.f3 rfl rfl rfl rfl rfl rfl rfl ⟨rfl, rfl, rfl, rfl, rfl⟩ rfl rfl rfl rfl rfl (by kernel_rfl) Tryd.func3 closed
    (of_decide_eq_true (by kernel_rfl)) (by unfold Func.isWrapper; first | (rw [if_pos (by decide +kernel)]; kernel_rfl) | (rw [if_neg (by decide +kernel)]; exact ⟨rfl, rfl⟩))
    (fun os started H enc _ => lifted os started H enc)

theorem proved : Rows.EvlogDecodesCardSaid :=
  Claim7.holds_tied_plain_at .later [] [.data] true (true, "e55afe1ce27be1a43eb16e8afa0a21f2f0f12e9e635a624c298bd28e3b5f27cc") false over (fun _ h => by cases h) (by kernel_rfl) (fun _ h => by cases h) evlogDecodes_row_tie rfl ⟨rfl, rfl⟩ (by kernel_rfl) rfl
    (fun f fn hf hfn => by
      obtain rfl : f = 3 := Option.some.inj ((show Tryd.prog.funcNamed "hourglass/hourglasslaw.EvlogDecodes" = some 3 by kernel_rfl).symm.trans hf) |>.symm
      obtain rfl : fn = Tryd.f3 := (Option.some.inj (Tryd.func3.symm.trans hfn)).symm
      exact ⟨by kernel_rfl, fun j t ht => by
        rw [Tryd.params3] at ht
        have hm : t ∈ [22] := by simpa using Array.mem_of_getElem? ht
        have hall : ([22].all fun u => !Tryd.prog.wantsStandIn u) = true := by kernel_rfl
        exact (show Tryd.prog.wantsStandIn t = false by simpa using List.all_eq_true.1 hall t hm)⟩)
    (by kernel_rfl)
#print axioms proved
end Go.Proofs.YtiekilpddmdhnaaDoor.lEvlogDecodes
