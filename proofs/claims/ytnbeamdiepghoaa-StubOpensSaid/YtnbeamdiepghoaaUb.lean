/- strings.IndexRune among the two signs, at a rune above ASCII. -/
import Derived.Test.YtnbeamdiepghoaaUa
import Derived.ScopeJumps
import Derived.WalkMore
import Derived.Deep.CutBlock
import Derived.Deep.RegionWith
import Derived.Deep.QuietTactic
namespace Go.Proofs.Ytnbeamdiepghoaa
open Go Go.RowKit Go.ChangeShapes Go.WideShapes Go.ChangeAt Go.Deep
set_option linter.unusedVariables false

theorem ret_through {K1 K2 : Act → World → Prop} {Q : Exit → Act → World → Prop} {a : Act} {w : World} {i j k : Nat} (h : Q .ret a w) : Exit.noGoto (Exit.inBlock i (Exit.then K1 (Exit.inBlock j (Exit.then K2 (Exit.noGoto (Exit.inBlock k Q)))))) Exit.ret a w := h
set_option maxHeartbeats 8000000 in
set_option maxRecDepth 100000 in
theorem idxrune_good (r : Int) (w : World) (h1 : 128 ≤ r) (hv : Lib.validRune r = true) (hne : r ≠ 65533) : Calls Try.prog 32 #[.string marks, .int .i32 r] w fun e w' => e = .returned (.int .i64 (-1)) ∧ Below w.heap.size w w' := by
  have hv2 : Utf8.valid r = true := by unfold Lib.validRune at hv; unfold Utf8.valid; simp at hv ⊢; omega
  obtain ⟨e1, e2, e3⟩ := encode_facts r hv2 h1
  have HVR := Lib.hid (fun w => hv ▸ Try.utf8_ValidRune r w)
  have HIB := Lib.hid (fun c w => Try.strings_IndexByte ⟨#[]⟩ c w)
  have hr2 : r < 2147483648 := by unfold Lib.validRune at hv; simp at hv; omega
  unfold marks
  obtain ⟨e, he⟩ : ∃ e, Utf8.encode r = e := ⟨_, rfl⟩
  rw [he] at e1 e2 e3
  have hlast := e3 (by omega)
  obtain ⟨n, hn⟩ : ∃ n : Nat, e.size = n + 1 := ⟨e.size - 1, by omega⟩
  clear hv hv2
  go_enter Try.func32, Try.ntmps32
  go_wp2_with fail
  refine (HVR.out _).mono ?_
  rintro e0 w' ⟨rfl, rfl⟩
  go_wp2_with fail
  go_step3
  go_wp2_with fail
  go_loopg [9, 10, 11, 12] 1 (fun g s9 s10 s11 s12 wx => s9 = .int .i64 n ∧ wx = w')
  case atStart => exact ⟨by congr 1, rfl⟩
  case round =>
    obtain ⟨rfl, rfl⟩ := hrel
    by_cases h2 : n = 1
    · subst h2
      have h12 : 1 < e.size := by omega
      obtain ⟨b, hb⟩ : ∃ b, e[1]'h12 = b := ⟨_, rfl⟩
      have hb2 : 128 ≤ b.toNat := by
        have e4 : e.size - 1 = 1 := by omega
        simp only [e4] at hlast
        rw [← hb]
        exact hlast
      have hq : ((((⟨#[36, 35]⟩ : ByteArray)[1]'(by decide)).toNat : Int) != (b.toNat : Int)) = true := by
        show ((35 : Int) != (b.toNat : Int)) = true
        rw [bne_iff_ne]
        omega
      have hl1 : (1 : Int) < (e.size : Int) := by omega
      have hix : Lib.indexByte [] b = -1 := rfl
      clear hlast hn e1 e2 e3 he
      go_wp2_with fail
      go_step3
      go_wp2_with fail
      go_quiet (fail)
      go_wp2_with fail
      go_region_with (first | (go_at_call 40; refine (Try.strings_IndexByte _ _ _).mono ?_; rintro e0 w0 ⟨rfl, hw⟩; rw [hw]))
      all_goals go_wp2_with fail
      all_goals refine ret_through ?_
      all_goals go_ret
      all_goals exact ⟨rfl, below_drewN (Below.refl _ _) _⟩
    · go_wp2_with fail
      rw [Exit.noGoto_ret]
      go_ret
      exact ⟨rfl, Below.refl _ _⟩
/-- At every rune above ASCII. -/
theorem idxrune_hi (r : Int) (w : World) (h1 : 128 ≤ r) (hv : Lib.validRune r = true) : Calls Try.prog 32 #[.string marks, .int .i32 r] w fun e w' => e = .returned (.int .i64 (-1)) ∧ Below w.heap.size w w' := by
  by_cases h : r = 65533
  · subst h; exact idxrune_bad w
  · exact idxrune_good r w h1 hv h
end Go.Proofs.Ytnbeamdiepghoaa
