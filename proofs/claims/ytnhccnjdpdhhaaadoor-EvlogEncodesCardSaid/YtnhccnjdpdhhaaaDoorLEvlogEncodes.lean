/- The law hourglasslaw.EvlogEncodes returns true at every list of events, the table laid as the program's text lays it. No further condition. -/
import Derived.Test.YtnhccnjdpdhhaaaDoorRows
import Derived.Test.YtnhccnjdpdhhaaaDoorOpen
import Derived.Test.YtnhccnjdpdhhaaaDoorFacts
import Derived.WalkKit
import Derived.ProofKit
import Derived.OpenShut
import Derived.ShutString
import Derived.ChangeOld
import Derived.Below
import Derived.Test.YtnhccnjdpdhhaaaDoorEb
import Derived.Test.YtnhccnjdpdhhaaaDoorDl
import Derived.Test.YtnhccnjdpdhhaaaDoorTie
import Derived.Test.YtnhccnjdpdhhaaaDoorCards
import Derived.SevenTiedAt
import Derived.Laws.BytesArg
import Derived.Laws.IdiomStrings
namespace Go.Proofs.YtnhccnjdpdhhaaaDoor.lEvlogEncodes
open Go Go.RowKit Go.ChangeShapes Go.WideShapes Go.ChangeAt
open Go.ChangeMaps (open_string shut_string)
set_option linter.unusedVariables false

set_option maxHeartbeats 4000000 in
theorem walk_bad (W : World) (ht : Tab W) (v : Value) (l : List Ev) (hv : EvsR W.heap.size W v l) (c : Int) (hc : EvRes l c) (h0 : c ≠ 0) : Calls Tryd.prog 3 #[v] W fun e W' => e = .returned (.bool true) ∧ Below W.heap.size W W' := by
  have HV := Lib.hid hv
  have HA := Lib.hid (encode_bad v l W hv ht c hc h0)
  have HC := Lib.hid hc
  clear hv ht hc
  go_enter Tryd.func3, Tryd.ntmps3
  go_wp2_with fail
  refine HA.out.mono ?_
  rintro e w1 ⟨rfl, hb1⟩
  go_wp2_with fail
  refine (bytes_bad _ l _ (HV.out.to hb1.size (same_below hb1)) c HC.out h0).mono ?_
  rintro e w2 ⟨rfl, hb2⟩
  have hx1 := run_convert_bytes_nil (P := Tryd.prog) w2 23 5 Tryd.underlying23 Tryd.underlying5 0 0 9 Tryd.underlying9
  go_wp2
  go_ret
  exact ⟨ret_bool (by simp), hb1.trans (hb2.mono hb1.size)⟩

theorem conv_bytes {w : World} {a : Option Addr} {c : Nat} {bs : List UInt8} (h : BytesR w.heap.size w (.slice a bs.length c) bs) : (convert 23 9 (.slice a bs.length c)).run Tryd.prog w = .ok (.string ⟨bs.toArray⟩) w := by
  obtain ⟨a', cap, hv, _, _, hc⟩ := h
  injection hv with h1 h2 h3
  subst h1
  cases a with
  | none =>
    have h0 : bs.length = 0 := by
      rcases Nat.eq_zero_or_pos bs.length with h | h
      · exact h
      · obtain ⟨_, _, _, hh, _⟩ := hc 0 h; cases hh
    have e0 : bs = [] := List.eq_nil_of_length_eq_zero h0
    subst e0
    exact run_convert_bytes_nil w 23 5 Tryd.underlying23 Tryd.underlying5 _ _ _ Tryd.underlying9
  | some ad =>
    refine run_convert_bytes_back w 23 9 5 ad c bs Tryd.underlying23 Tryd.underlying5 Tryd.underlying9 (fun j hj => ?_)
    obtain ⟨b, off, vi, ha, _, hcell, hvi⟩ := hc j hj
    injection ha with ha
    subst ha
    rw [add_plain, hcell, hvi]

set_option maxHeartbeats 4000000 in
theorem walk_good (W : World) (ht : Tab W) (v : Value) (l : List Ev) (hv : EvsR W.heap.size W v l) (hc : EvRes l 0) : Calls Tryd.prog 3 #[v] W fun e W' => e = .returned (.bool true) ∧ Below W.heap.size W W' := by
  have HV := Lib.hid hv
  have HA := Lib.hid (encode_good v l W hv ht hc)
  have HC := Lib.hid hc
  obtain ⟨hok, h1000⟩ := hc.ok
  have hpl := payE_le hok h1000
  have hel : (encE l).length ≤ 400010 := by unfold encE; rw [List.length_append, show (sumB (payE l)).length = 4 from rfl]; omega
  clear hv ht hc hok hpl
  go_enter Tryd.func3, Tryd.ntmps3
  go_wp2_with fail
  refine HA.out.mono ?_
  rintro e w1 ⟨a1, c1, rfl, ho1, hb1⟩
  have HO1 := Lib.hid ho1
  clear ho1
  go_wp2_with fail
  refine (bytes_good _ l _ (HV.out.to hb1.size (same_below hb1)) HC.out).mono ?_
  rintro e w2 ⟨a2, c2, rfl, ho2, hb2⟩
  have HO2 := Lib.hid ho2
  clear ho2
  generalize encE l = E at *
  have hx1 := conv_bytes (bytes_of_own (own_below HO1.out hb2 (Nat.le_refl _)) (by omega))
  have hx2 := conv_bytes (bytes_of_own HO2.out (by omega))
  go_wp2
  go_ret
  exact ⟨ret_bool (by simp), hb1.trans (hb2.mono hb1.size)⟩

theorem ev_res (l : List Ev) : ∃ c, EvRes l c := by
  by_cases h : 1000 < l.length
  · exact ⟨1, Or.inl ⟨h, rfl⟩⟩
  · have key : ∀ n, n ≤ l.length → (∀ j, j < n → fAt l j = 0) ∨ ∃ k, k < n ∧ (∀ j, j < k → fAt l j = 0) ∧ fAt l k ≠ 0 := by
      intro n
      induction n with
      | zero => intro _; exact Or.inl fun j hj => absurd hj (Nat.not_lt_zero _)
      | succ n ih =>
        intro hn
        rcases ih (by omega) with h1 | ⟨k, h1, h2, h3⟩
        · by_cases h2 : fAt l n = 0
          · refine Or.inl fun j hj => ?_
            by_cases e : j = n
            · rw [e]; exact h2
            · exact h1 j (by omega)
          · exact Or.inr ⟨n, by omega, h1, h2⟩
        · exact Or.inr ⟨k, by omega, h2, h3⟩
    rcases key l.length (Nat.le_refl _) with h1 | ⟨k, h1, h2, h3⟩
    · exact ⟨0, Or.inr (Or.inr ⟨by omega, h1, rfl⟩)⟩
    · exact ⟨fAt l k, Or.inr (Or.inl ⟨by omega, k, h1, h2, rfl, h3⟩)⟩

theorem walk (W : World) (ht : Tab W) (v : Value) (l : List Ev) (hv : EvsR W.heap.size W v l) : Calls Tryd.prog 3 #[v] W fun e W' => e = .returned (.bool true) ∧ Below W.heap.size W W' := by
  obtain ⟨c, hc⟩ := ev_res l
  by_cases h0 : c = 0
  · subst h0; exact walk_good W ht v l hv hc
  · exact walk_bad W ht v l hv c hc h0

set_option maxRecDepth 100000 in
theorem lifted (os : Os) (started : os.Started) (H : Type) (enc : TypeId × Value → H) :
    ReturnsInHanded {} Tryd.checked os 3 .any (fun w args => (Rows.evlogEncodesSpec.pre enc Tryd.prog Tryd.f3 [] false w args ∧ laidMetH Tryd.prog laidW w) ∧ sizedMet enc Tryd.prog Tryd.f3 (OpenSpec.ofChange Rows.evlogEncodesSpec) false w args) (Rows.evlogEncodesSpec.post enc Tryd.prog Tryd.f3 false true false false) := by
  refine returnsInHanded_of_change_and (C := Tryd.checked) (X := fun w _ => laidMetH Tryd.prog laidW w) (fun _ _ _ hh h => h.of_heap hh) Facts.own started (by kernel_rfl) Tryd.func3
    (ChangeSpec.witness_shaped (enc := enc) (C := Tryd.checked) (os := os) (X := fun w _ => laidMetH Tryd.prog laidW w) false (World.doorLaid Tryd.prog 400 os) #[.slice none 0 0] 8 rfl (World.shaped_of_RefB (by kernel_rfl) (by kernel_rfl)) (by kernel_rfl) (by kernel_rfl) (by kernel_rfl) (door_met os _)) ?_
  intro W base args ds gs before hval0 hW hcnd hsz0 hL _
  have hsz : (DataW.weightsEach Tryd.prog (Tryd.f3.params.toList ++ Rows.evlogEncodesSpec.plain.varTypes Tryd.prog) (ds ++ gs)).all (· ≤ reachBytes) = true := hsz0
  have hval : ∀ (j : Nat) t v, Tryd.f3.params[j]? = some t → args[j]? = some v → Value.okWide Tryd.prog W .any base t v := hval0
  have hW' := hW
  obtain ⟨p, q, hA0, hV, rfl, hfz, hnd⟩ := hW
  have hA : DataW.TrodAll enc Tryd.prog W 0 (fun _ => true) true Tryd.f3.params.toList args.toList ds p := hA0
  rw [Tryd.params3] at hA hval hsz
  obtain ⟨v0, vs0, d0, ds0, p0, q0, hargs, rfl, rfl, h0, r0⟩ := trodAll_cons hA
  obtain ⟨rfl, rfl, rfl⟩ := trodAll_nil r0
  obtain rfl : args = #[v0] := by cases args; simp_all
  obtain ⟨rfl, rfl⟩ := trodVars_none hV
  have k0 := h0
  have lt0 : ∀ x ∈ p0, x.block < W.heap.size := by obtain ⟨m, hm⟩ := k0; exact DataW.trod_lt m _ _ _ hm
  obtain ⟨x0_0, w0⟩ := open_evsA (hval 0 22 v0 rfl rfl) h0 (fits_at hsz (j := 0) rfl rfl)
  clear hA0 hval0
  refine (walk W (tab_of_laid hL) v0 x0_0 w0).mono fun e W' ⟨he, bel⟩ => ?_
  subst he
  exact ⟨_, rfl, _, _, _, [], _, [], hW', trodAll_mk1 (shut_bool Tryd.underlying4 _), (trodAll_cons_mk (Below.trod Facts.laidOut (by kernel_rfl) (of_decide_eq_true (by kernel_rfl)) k0 bel lt0) trodAll_mk0), rfl, bel.frame _, fun h => by cases h⟩

theorem closed : joinedFacts Tryd.prog 3 Tryd.f3 Rows.evlogEncodesSpec Rows.evlogEncodesRow = true := by
  unfold joinedFacts
  rw [Facts.enters, Facts.lifts, Facts.made]
  kernel_rfl

theorem over : Rows.evlogEncodesRow.holds Tryd.pinned (OpenSpec.ofChange Rows.evlogEncodesSpec) :=
  OpenClaim.holds_of_wide 3 Tryd.f3 rfl rfl rfl rfl rfl rfl rfl ⟨rfl, rfl, rfl, rfl, rfl⟩ rfl rfl rfl rfl rfl (by kernel_rfl) Tryd.func3 closed
    (of_decide_eq_true (by kernel_rfl)) (by unfold Func.isWrapper; first | (rw [if_pos (by decide +kernel)]; kernel_rfl) | (rw [if_neg (by decide +kernel)]; exact ⟨rfl, rfl⟩))
    (fun os started H enc _ => lifted os started H enc)

theorem proved : Rows.EvlogEncodesCardSaid :=
  Claim7.holds_tied_plain_at .later [] [.data] true (true, "908581019a00493f5b8fb8b754f2f712311d8cb4141c17144ef0db3673841b7f") false over (fun _ h => by cases h) (by kernel_rfl) (fun _ h => by cases h) evlogEncodes_row_tie rfl ⟨rfl, rfl⟩ (by kernel_rfl) rfl
    (fun f fn hf hfn => by
      obtain rfl : f = 3 := Option.some.inj ((show Tryd.prog.funcNamed "hourglass/hourglasslaw.EvlogEncodes" = some 3 by kernel_rfl).symm.trans hf) |>.symm
      obtain rfl : fn = Tryd.f3 := (Option.some.inj (Tryd.func3.symm.trans hfn)).symm
      exact ⟨by kernel_rfl, fun j t ht => by
        rw [Tryd.params3] at ht
        have hm : t ∈ [22] := by simpa using Array.mem_of_getElem? ht
        have hall : ([22].all fun u => !Tryd.prog.wantsStandIn u) = true := by kernel_rfl
        exact (show Tryd.prog.wantsStandIn t = false by simpa using List.all_eq_true.1 hall t hm)⟩)
    (by kernel_rfl)
#print axioms proved
end Go.Proofs.YtnhccnjdpdhhaaaDoor.lEvlogEncodes
