/- Contracts of frames.Read and of the reference's ReadOf. No condition. -/
import Derived.Test.YtneeimfffoomgaaKn
namespace Go.Proofs.Ytneeimfffoomgaa
open Go Go.RowKit Go.ChangeShapes Go.WideShapes Go.Deep
set_option linter.unusedVariables false

/-- The word that is read: of a frame that is known, at a place that is one. -/
theorem word_at {rs : List (List Int)} {zs : List Int} {v : Value} {w : World} {B : Nat} {k : Nat} {at_ : Int} (hf : FramesR B w v rs zs) (hok : FOk rs zs) (hk : Kn zs k) (h0 : 0 ≤ at_) (h1 : at_ < 16) :
    ∃ (ad : Option Addr) (cd : Nat) (vr : Value) (b off b2 off2 cap2 j : Nat), at_ = j ∧ v = .agg #[.slice ad rs.length cd, vr] ∧ ad = some ⟨b, off, none⟩ ∧ b < B ∧ k < rs.length ∧ w.cell? ⟨b, off + k, none⟩ = some (.slice (some ⟨b2, off2, none⟩) 16 cap2) ∧ b2 < B ∧ w.cell? ⟨b2, off2 + j, none⟩ = some (.int .i64 ((rs.getD k []).getD j 0)) := by
  obtain ⟨vd, vr, rfl, ⟨ad, cd, rfl, _, _, hcd⟩, _⟩ := hf
  obtain ⟨j, rfl⟩ : ∃ j : Nat, at_ = j := ⟨at_.toNat, by omega⟩
  have hkz : k < zs.length := by have := hk.2.1; omega
  have hkr : k < rs.length := by rw [hok.1]; exact hkz
  have h16 : (rs.getD k []).length = 16 := (hok.2.2 k hkz).2.2.2 (by have := hk.2.2; simpa using this)
  obtain ⟨b, off, vi, ha, hb, hcell, hvi⟩ := hcd k hkr
  rw [← getD_of hkr []] at hvi
  obtain ⟨a2, c2, rfl, _, _, hrow⟩ := hvi
  obtain ⟨b2, off2, vj, ha2, hb2, hcell2, hvj, _⟩ := hrow j (by omega)
  subst ha2 hvj
  rw [h16] at hcell
  exact ⟨ad, cd, vr, b, off, b2, off2, c2, j, rfl, rfl, ha, hb, hkr, hcell, hb2, by rw [hcell2, getD_of (by omega) 0]⟩

def RdPost (w : World) (x c : Int) (e : Ending) (w' : World) : Prop := e = .returned (.tuple #[.int .i64 x, .int .i64 c]) ∧ Below w.heap.size w w'
/-- What Read answers. -/
inductive RdR (rs : List (List Int)) (zs : List Int) (n at_ : Int) : Int → Int → Prop
  | bad (h : ¬ FOk rs zs) : RdR rs zs n at_ 0 8
  | none (h : FOk rs zs) (k : ¬ Kn zs n) : RdR rs zs n at_ 0 6
  | off (h : FOk rs zs) (k : Kn zs n) (o : at_ < 0 ∨ 16 ≤ at_) : RdR rs zs n at_ 0 2
  | word (h : FOk rs zs) (k : Kn zs n) (o : 0 ≤ at_ ∧ at_ < 16) : RdR rs zs n at_ ((rs.getD n.toNat []).getD at_.toNat 0) 0

set_option maxHeartbeats 2000000 in
theorem read_any (v : Value) (rs : List (List Int)) (zs : List Int) (n at_ x c : Int) (w : World) (hf : FramesR w.heap.size w v rs zs) (h : RdR rs zs n at_ x c) : Calls Try.prog 25 #[v, .int .i64 n, .int .i64 at_] w (RdPost w x c) := by
  have HF := Lib.hid hf
  obtain ⟨a, c1, a', c2, hs⟩ := hf.shape
  subst hs
  clear hf
  cases h with
  | bad hok =>
    have HK := Lib.hid (fun w' (hf : FramesR w'.heap.size w' _ rs zs) => known_bad (.agg #[.slice a rs.length c1, .slice a' zs.length c2]) rs zs n w' hf hok)
    clear hok
    go_enter Try.func25, Try.ntmps25
    go_wp2_with fail
    refine (HK.out _ (HF.out.to (by simp) (same_alloc _ _))).mono ?_
    rintro e w1 ⟨rfl, hb1⟩
    have hB := (below_alloc w _).trans (hb1.mono (by simp))
    have hB2 := fun O => hB.alloc (by have := hB.size; omega) O
    clear hb1
    go_wp2
    go_ret2
    exact ⟨rfl, hB2 _⟩
  | none hok hk =>
    have HK := Lib.hid (fun w' (hf : FramesR w'.heap.size w' _ rs zs) => (known_ok (.agg #[.slice a rs.length c1, .slice a' zs.length c2]) rs zs n w' hf hok).1 hk)
    clear hok hk
    go_enter Try.func25, Try.ntmps25
    go_wp2_with fail
    refine (HK.out _ (HF.out.to (by simp) (same_alloc _ _))).mono ?_
    rintro e w1 ⟨rfl, hb1⟩
    have hB := (below_alloc w _).trans (hb1.mono (by simp))
    have hB2 := fun O => hB.alloc (by have := hB.size; omega) O
    clear hb1
    go_wp2
    go_ret2
    exact ⟨rfl, hB2 _⟩
  | off hok hk ho =>
    have HK := Lib.hid (fun w' (hf : FramesR w'.heap.size w' _ rs zs) => (known_ok (.agg #[.slice a rs.length c1, .slice a' zs.length c2]) rs zs n w' hf hok).2 hk)
    clear hok hk
    rcases ho with ho | ho
    · go_enter Try.func25, Try.ntmps25
      go_wp2_with fail
      refine (HK.out _ (HF.out.to (by simp) (same_alloc _ _))).mono ?_
      rintro e w1 ⟨ad2, cd2, ar2, cr2, vs, rfl, _, hb1⟩
      have hB := (below_alloc w _).trans (hb1.mono (by simp))
      have hB2 := fun O => hB.alloc (by have := hB.size; omega) O
      clear hb1
      go_wp2
      go_ret2
      exact ⟨rfl, hB2 _⟩
    · have ho' : ¬ at_ < 0 := by omega
      go_enter Try.func25, Try.ntmps25
      go_wp2_with fail
      refine (HK.out _ (HF.out.to (by simp) (same_alloc _ _))).mono ?_
      rintro e w1 ⟨ad2, cd2, ar2, cr2, vs, rfl, _, hb1⟩
      have hB := (below_alloc w _).trans (hb1.mono (by simp))
      have hB2 := fun O => hB.alloc (by have := hB.size; omega) O
      clear hb1
      go_wp2
      go_ret2
      exact ⟨rfl, hB2 _⟩
  | word hok hk ho =>
    have HK := Lib.hid (fun w' (hf : FramesR w'.heap.size w' _ rs zs) => (known_ok (.agg #[.slice a rs.length c1, .slice a' zs.length c2]) rs zs n w' hf hok).2 hk)
    obtain ⟨k, rfl⟩ : ∃ k : Nat, n = k := ⟨n.toNat, by have := hk.1; omega⟩
    obtain ⟨ad, cd, vr, b, off, b2, off2, cap2, j, rfl, hv, hab, hbb, hkr, e1, hb2, e2⟩ := word_at HF.out hok hk ho.1 ho.2
    obtain ⟨h0, h1⟩ := ho
    simp only [Value.agg.injEq, Array.mk.injEq, List.cons.injEq, and_true] at hv
    obtain ⟨hv1, hv2⟩ := hv
    simp only [Value.slice.injEq, true_and] at hv1
    obtain ⟨hva, rfl⟩ := hv1
    subst hv2
    rw [hab] at hva
    subst hva
    simp only [Int.toNat_natCast]
    generalize (rs.getD k []).getD j 0 = x at *
    clear hok hk hab
    go_enter Try.func25, Try.ntmps25
    go_wp2_with fail
    refine (HK.out _ (HF.out.to (by simp) (same_alloc _ _))).mono ?_
    rintro e w1 ⟨ad2, cd2, ar2, cr2, vs, rfl, _, hb1⟩
    have s1 := hb1.size
    simp only [World.size_alloc] at s1
    have hB := (below_alloc w _).trans (hb1.mono (by simp))
    have hB2 := fun O => hB.alloc (by have := hB.size; omega) O
    have hx := box_at hb1
    have q0 : w1.cell? ⟨w.heap.size, 0, none⟩ = some (.slice (some ⟨b, off, none⟩) rs.length c1) := cell_block hx 0
    have q1 : w1.cell? ⟨b, off + k, none⟩ = some (.slice (some ⟨b2, off2, none⟩) 16 cap2) := (same_below hB _ _ hbb).trans e1
    have q2 : w1.cell? ⟨b2, off2 + j, none⟩ = some (.int .i64 x) := (same_below hB _ _ hb2).trans e2
    have l1 : w.heap.size < w1.heap.size := by omega
    have l2 : b < w1.heap.size := by omega
    have l3 : b2 < w1.heap.size := by omega
    have HB2 := Lib.hid hB2
    clear hb1 hB hB2 hx
    go_wp2
    go_ret2
    exact ⟨rfl, HB2.out _⟩

theorem rdR_ex (rs : List (List Int)) (zs : List Int) (n at_ : Int) : ∃ x c, RdR rs zs n at_ x c := by
  rcases Classical.em (FOk rs zs) with h | h
  · rcases Classical.em (Kn zs n) with k | k
    · rcases Classical.em (0 ≤ at_ ∧ at_ < 16) with o | o
      · exact ⟨_, _, .word h k o⟩
      · exact ⟨_, _, .off h k (by omega)⟩
    · exact ⟨_, _, .none h k⟩
  · exact ⟨_, _, .bad h⟩
end Go.Proofs.Ytneeimfffoomgaa
