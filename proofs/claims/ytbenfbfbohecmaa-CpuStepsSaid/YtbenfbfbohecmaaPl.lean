/- The contracts of a core's place, load and store, over any memory. No condition beyond the readings. -/
import Derived.Test.YtbenfbfbohecmaaMo
import Derived.Deep.RegionWith
import Derived.Deep.RegionLaw
namespace Go.Proofs.Ytbenfbfbohecmaa
open Go Go.RowKit Go.ChangeShapes Go.WideShapes Go.Deep
set_option linter.unusedVariables false

set_option maxHeartbeats 4000000 in
set_option maxRecDepth 100000 in
theorem place_any {t fL fS : Nat} {v : Value} {St : World → (Nat → Prop) → List Int → Bool → Prop} (hM : MemI t fL fS v St) (w : World) (F : Nat → Prop) (mem : List Int) (x : Bool) (hst : St w F mem x) (cb : Nat) (table : Int) (hc : w.cell? ⟨cb, 5, none⟩ = some (.int .i64 table)) (ht : -1 ≤ table ∧ table < 16) (at_ : Int) (write : Bool) : Calls Try.prog 37 #[.pointer (some ⟨cb, 0, none⟩), .iface t v, .int .i64 at_, .bool write] w fun e w' => e = .returned (.tuple #[.int .i64 (placeZ table mem at_ write).1, .int .i64 (placeZ table mem at_ write).2]) ∧ ∃ n, w' = w.drewN n := by
  by_cases h1 : at_ < 0 ∨ 256 ≤ at_
  · rw [placeZ_far h1]
    clear hM hst
    go_enter Try.func37, Try.ntmps37
    go_wp2
    all_goals (go_ret2; exact ⟨rfl, 0, rfl⟩)
  · by_cases h2 : table < 0
    · rw [placeZ_flat h1 h2]
      clear hM hst
      have h3 : ¬ at_ < 0 := by omega
      have h4 : ¬ 256 ≤ at_ := by omega
      clear h1
      go_enter Try.func37, Try.ntmps37
      go_wp2
      all_goals (go_ret2; exact ⟨rfl, 0, rfl⟩)
    · have h3 : ¬ at_ < 0 := by omega
      have h4 : ¬ 256 ≤ at_ := by omega
      have hd : at_.tdiv 16 = at_ / 16 := Int.tdiv_eq_ediv_of_nonneg (by omega)
      have w1 : IntKind.i64.wrap (table * 16) = table * 16 := IntWalk.i64_in _ (by omega)
      have w2 : IntKind.i64.wrap (at_ / 16) = at_ / 16 := IntWalk.i64_in _ (by omega)
      have w3 : IntKind.i64.wrap (table * 16 + at_ / 16) = table * 16 + at_ / 16 := IntWalk.i64_in _ (by omega)
      have HL := Lib.hid (fun w' (hw : ∃ n, w' = w.drewN n) => hM.load w' F mem x (table * 16 + at_ / 16) (by obtain ⟨n, rfl⟩ := hw; exact hM.stay _ _ _ _ _ hst (fun g hg => rfl) (Nat.le_refl _)) (by omega) (by omega))
      have nL := hM.nL
      have mL := hM.mL
      have eL := hM.eL
      have HP : Hid (∀ z, z = mem.getD (table * 16 + at_ / 16).toNat 0 → (z < 32 ∨ 63 < z ∨ (write = true ∧ z < 48) → placeZ table mem at_ write = (0, 4)) ∧ (¬ (z < 32 ∨ 63 < z ∨ (write = true ∧ z < 48)) → placeZ table mem at_ write = (z % 16 * 16 + at_ % 16, 0))) := Lib.hid (by
        intro z hz
        subst hz
        exact ⟨fun h => placeZ_bad h1 h2 h, fun h => placeZ_good h1 h2 h⟩)
      clear hM hst h1
      generalize placeZ table mem at_ write = pz at *
      have hk1 : 0 ≤ table * 16 + at_ / 16 := by omega
      have hk2 : table * 16 + at_ / 16 < 256 := by omega
      generalize hk : table * 16 + at_ / 16 = k at *
      generalize mem.getD k.toNat 0 = z at *
      go_enter Try.func37, Try.ntmps37
      go_wp2_with fail
      go_region_with ((with_reducible refine (HL.out _ ?_).mono ?_); exact ⟨1, rfl⟩; rintro e w' ⟨rfl, n, rfl⟩)
      all_goals (
        have HPZ := Lib.hid (HP.out z rfl)
        have hm : at_.tmod 16 = at_ % 16 := Int.tmod_eq_emod_of_nonneg (by omega)
        have v1 : IntKind.i64.wrap (at_ % 16) = at_ % 16 := IntWalk.i64_in _ (by omega)
        have v2 : IntKind.i64.wrap (z % 16) = z % 16 := IntWalk.i64_in _ (by omega)
        have v3 : IntKind.i64.wrap (z % 16 * 16) = z % 16 * 16 := IntWalk.i64_in _ (by omega)
        have v4 : IntKind.i64.wrap (z % 16 * 16 + at_ % 16) = z % 16 * 16 + at_ % 16 := IntWalk.i64_in _ (by omega)
        clear HP HL hc ht hd w1 w2 w3 hk hk1 hk2
        by_cases z1 : z < 32
        · have HE := Lib.hid (HPZ.out.1 (Or.inl z1))
          clear HPZ
          go_wp2_with fail
          go_ret2
          rw [HE.out]
          exact ⟨rfl, _, rfl⟩
        · by_cases z2 : 63 < z
          · have HE := Lib.hid (HPZ.out.1 (Or.inr (Or.inl z2)))
            clear HPZ
            go_wp2_with fail
            go_ret2
            rw [HE.out]
            exact ⟨rfl, _, rfl⟩
          · have zm : z.tmod 16 = z % 16 := Int.tmod_eq_emod_of_nonneg (by omega)
            cases write with
            | true =>
              by_cases z3 : z < 48
              · have HE := Lib.hid (HPZ.out.1 (Or.inr (Or.inr ⟨rfl, z3⟩)))
                clear HPZ
                go_wp2_with fail
                go_ret2
                rw [HE.out]
                exact ⟨rfl, _, rfl⟩
              · have HE := Lib.hid (HPZ.out.2 (by rintro (h | h | ⟨_, h⟩) <;> omega))
                clear HPZ
                go_wp2_with fail
                go_ret2
                rw [HE.out]
                exact ⟨rfl, _, rfl⟩
            | false =>
              have HE := Lib.hid (HPZ.out.2 (by rintro (h | h | ⟨h, _⟩); omega; omega; cases h))
              clear HPZ
              go_wp2_with fail
              go_ret2
              rw [HE.out]
              exact ⟨rfl, _, rfl⟩)

/-- What a memory with the words mem holds at a place that is none: nothing is asked of it. -/
def loadZ (table : Int) (mem : List Int) (at_ : Int) : Int × Int :=
  if (placeZ table mem at_ false).2 = 0 then (mem.getD (placeZ table mem at_ false).1.toNat 0, 0) else (0, (placeZ table mem at_ false).2)

set_option maxHeartbeats 4000000 in
set_option maxRecDepth 100000 in
theorem load_any {t fL fS : Nat} {v : Value} {St : World → (Nat → Prop) → List Int → Bool → Prop} (hM : MemI t fL fS v St) (w : World) (F : Nat → Prop) (mem : List Int) (x : Bool) (hst : St w F mem x) (cb : Nat) (table : Int) (hc : w.cell? ⟨cb, 5, none⟩ = some (.int .i64 table)) (ht : -1 ≤ table ∧ table < 16) (at_ : Int) : Calls Try.prog 31 #[.pointer (some ⟨cb, 0, none⟩), .iface t v, .int .i64 at_] w fun e w' => e = .returned (.tuple #[.int .i64 (loadZ table mem at_).1, .int .i64 (loadZ table mem at_).2]) ∧ ∃ n, w' = w.drewN n := by
  have HPL := Lib.hid (place_any hM w F mem x hst cb table hc ht at_ false)
  have hb := placeZ_bd table mem at_ false
  have HLZ : Hid (loadZ table mem at_ = if (placeZ table mem at_ false).2 = 0 then (mem.getD (placeZ table mem at_ false).1.toNat 0, 0) else (0, (placeZ table mem at_ false).2)) := Lib.hid rfl
  generalize placeZ table mem at_ false = pz at *
  obtain ⟨k, e⟩ := pz
  generalize loadZ table mem at_ = lz at *
  simp only at hb HLZ
  have HL := Lib.hid (fun w' (hw : ∃ n, w' = w.drewN n) => hM.load w' F mem x k (by obtain ⟨n, rfl⟩ := hw; exact hM.stay _ _ _ _ _ hst (fun g hg => rfl) (Nat.le_refl _)) hb.1 hb.2.1)
  have nL := hM.nL
  have mL := hM.mL
  have eL := hM.eL
  have hk1 := hb.1
  have hk2 := hb.2.1
  clear hM hst hb
  generalize mem.getD k.toNat 0 = z at *
  go_enter Try.func31, Try.ntmps31
  go_wp2_with fail
  refine HPL.out.mono ?_
  rintro en w1 ⟨rfl, n, rfl⟩
  by_cases he : e = 0
  · subst he
    have HE : Hid (lz = (z, 0)) := HLZ
    clear HLZ HPL
    go_wp2_with ((with_reducible refine (HL.out _ ?_).mono ?_); exact ⟨_, rfl⟩; rintro en w' ⟨rfl, n2, rfl⟩)
    go_ret2
    rw [HE.out]
    exact ⟨rfl, _, rfl⟩
  · have HE : Hid (lz = (0, e)) := Lib.hid (by rw [HLZ.out, if_neg he])
    have hen : (e != 0) = true := by rw [bne_iff_ne]; exact he
    clear HLZ HPL he
    go_wp2_with fail
    go_ret2
    rw [HE.out]
    exact ⟨rfl, _, rfl⟩
end Go.Proofs.Ytbenfbfbohecmaa
