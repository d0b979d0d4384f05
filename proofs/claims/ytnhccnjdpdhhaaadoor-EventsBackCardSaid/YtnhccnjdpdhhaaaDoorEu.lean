/- Equal events are found equal: slices.Equal, slices.EqualFunc, the keep's comparison. No condition beyond the readings. -/
import Derived.Test.YtnhccnjdpdhhaaaDoorEt
import Derived.Test.YtnhccnjdpdhhaaaDoorDf
namespace Go.Proofs.YtnhccnjdpdhhaaaDoor
open Go Go.RowKit Go.ChangeShapes Go.WideShapes Go.Deep
set_option linter.unusedVariables false

set_option maxHeartbeats 2000000 in
theorem equalI_any (v v' : Value) (zs : List Int) (w : World) (h : Ints w.heap.size w v zs) (h' : Ints w.heap.size w v' zs) : Calls Tryd.prog 21 #[v, v'] w fun e w' => e = .returned (.bool true) ∧ ∃ n, w' = w.drewN n := by
  obtain ⟨a, c, rfl, hl, _, hc⟩ := h
  obtain ⟨a', c', rfl, _, _, hc'⟩ := h'
  have Hc := Lib.hid hc
  have Hc' := Lib.hid hc'
  clear hc hc'
  go_enter Tryd.func21, Tryd.ntmps21
  go_wp2_with fail
  go_loopg [13] zs.length (fun gh s13 wr => ∃ k q : Nat, k ≤ zs.length ∧ gh = zs.length - k ∧ s13 = .int .i64 k ∧ wr = w.drewN q)
  case atStart => exact ⟨0, 0, Nat.zero_le _, by omega, rfl, rfl⟩
  case round =>
    obtain ⟨k, q, hk, rfl, rfl, rfl⟩ := hrel
    by_cases hlt : k < zs.length
    · obtain ⟨b, off, vi, ha, hb, hcell, hvi, _⟩ := Hc.out k hlt
      obtain ⟨b', off', vi', ha', hb', hcell', hvi', _⟩ := Hc'.out k hlt
      subst ha ha' hvi hvi'
      have hkk : (k : Int) < (zs.length : Int) := by omega
      have hk0 : (0 : Int) ≤ (k : Int) := by omega
      have hz : (zs[k] != zs[k]) = false := by simp
      generalize zs[k] = z at *
      go_wp2_with fail
      go_quiet (fail)
      go_wp2
      go_roundg (zs.length - (k + 1))
      case measure => omega
      case rel => exact ⟨k + 1, _, by omega, rfl, by go_num, rfl⟩
    · go_wp2
      go_ret
      exact ⟨rfl, q, rfl⟩

set_option maxHeartbeats 2000000 in
theorem evSame_any (x : Ev) (a a' : Option Addr) (c c' : Nat) (W : World) (h : Ints W.heap.size W (.slice a x.data.length c) x.data) (h' : Ints W.heap.size W (.slice a' x.data.length c') x.data) : Calls Tryd.prog 20 #[.agg #[.int .i64 x.at_, .int .i64 x.kind, .slice a x.data.length c], .agg #[.int .i64 x.at_, .int .i64 x.kind, .slice a' x.data.length c']] W fun e w' => e = .returned (.bool true) ∧ Below W.heap.size W w' := by
  obtain ⟨at_, kind, data⟩ := x
  simp only at h h' ⊢
  have HQ := Lib.hid (fun (W2 : World) (hb : Below W.heap.size W W2) => equalI_any _ _ data W2 (h.to hb.size (same_below hb)) (h'.to hb.size (same_below hb)))
  clear h h'
  have hb2 := Lib.hid (below_alloc2 W (.cells #[.int .i64 at_, .int .i64 kind, .slice a data.length c] 44) (.cells #[.int .i64 at_, .int .i64 kind, .slice a' data.length c'] 44))
  have e1 : (at_ == at_) = true := by simp
  have e2 : (kind == kind) = true := by simp
  go_enter Tryd.func20, Tryd.ntmps20
  go_wp2_with fail
  refine (HQ.out _ hb2.out).mono ?_
  rintro e w1 ⟨rfl, n, rfl⟩
  go_wp2
  go_ret
  exact ⟨rfl, below_drewN hb2.out _⟩

set_option maxHeartbeats 2000000 in
theorem evsSame_any (v v' : Value) (l : List Ev) (w : World) (h : EvsR w.heap.size w v l) (h' : EvsR w.heap.size w v' l) : Calls Tryd.prog 19 #[v, v', .func (.func 20) #[] #[]] w fun e w' => e = .returned (.bool true) ∧ Below w.heap.size w w' := by
  obtain ⟨a, c, rfl, hl, _, hc⟩ := h
  obtain ⟨a', c', rfl, _, _, hc'⟩ := h'
  have Hc := Lib.hid hc
  have Hc' := Lib.hid hc'
  have eg := enters_of (P := Tryd.prog) Tryd.func20 (by kernel_rfl) rfl
  clear hc hc'
  go_enter Tryd.func19, Tryd.ntmps19
  go_wp2_with fail
  go_loopg [17] l.length (fun gh s17 wr => ∃ k : Nat, k ≤ l.length ∧ gh = l.length - k ∧ s17 = .int .i64 k ∧ Hid (Below w.heap.size w wr))
  case atStart => exact ⟨0, Nat.zero_le _, by omega, rfl, Lib.hid (Below.refl _ _)⟩
  case round =>
    obtain ⟨k, hk, rfl, rfl, HB⟩ := hrel
    by_cases hlt : k < l.length
    · obtain ⟨b, off, cs, ha, hbb, hcs, hcell, dd, cd, hcs2, i1, i2, hint⟩ := Hc.out k hlt
      obtain ⟨b', off', cs', ha', hbb', hcs', hcell', dd', cd', hcs2', _, _, hint'⟩ := Hc'.out k hlt
      subst ha ha' hcs2 hcs2'
      have hs := HB.out.size
      have r0 : wr.cell? ⟨b, off + k * 3, none⟩ = some (.int .i64 l[k].at_) := (same_below HB.out _ _ hbb).trans (hcell 0 (by simp))
      have r1 : wr.cell? ⟨b, off + k * 3 + 1, none⟩ = some (.int .i64 l[k].kind) := (same_below HB.out _ _ hbb).trans (hcell 1 (by simp))
      have r2 : wr.cell? ⟨b, off + k * 3 + 2, none⟩ = some (.slice dd l[k].data.length cd) := (same_below HB.out _ _ hbb).trans (hcell 2 (by simp))
      have q0 : wr.cell? ⟨b', off' + k * 3, none⟩ = some (.int .i64 l[k].at_) := (same_below HB.out _ _ hbb').trans (hcell' 0 (by simp))
      have q1 : wr.cell? ⟨b', off' + k * 3 + 1, none⟩ = some (.int .i64 l[k].kind) := (same_below HB.out _ _ hbb').trans (hcell' 1 (by simp))
      have q2 : wr.cell? ⟨b', off' + k * 3 + 2, none⟩ = some (.slice dd' l[k].data.length cd') := (same_below HB.out _ _ hbb').trans (hcell' 2 (by simp))
      have HEV := Lib.hid (fun (W2 : World) (hb : Below w.heap.size w W2) => evSame_any l[k] dd dd' cd cd' W2 (hint.to hb.size (same_below hb)) (hint'.to hb.size (same_below hb)))
      have hbl : b < wr.heap.size := by omega
      have hbl' : b' < wr.heap.size := by omega
      clear hcell hcell' hcs hcs' hint hint'
      generalize l[k] = x at *
      obtain ⟨xat, xkd, xda⟩ := x
      simp only at r0 r1 r2 q0 q1 q2 HEV
      have HB2 := Lib.hid ((HB.out.alloc hs (.cells #[.int .i64 xat, .int .i64 xkd, .slice dd xda.length cd] 44)).alloc (by simp; omega) (.cells #[.int .i64 xat, .int .i64 xkd, .slice dd' xda.length cd'] 44))
      go_wp2_with fail
      refine (HEV.out _ HB2.out).mono ?_
      rintro e w3 ⟨rfl, hb3⟩
      have HB3 := Lib.hid (HB2.out.trans (hb3.mono HB2.out.size))
      clear hb3
      go_wp2
      go_roundg (l.length - (k + 1))
      case measure => omega
      case rel => exact ⟨k + 1, by omega, rfl, by go_num, HB3⟩
    · go_wp2
      go_ret
      exact ⟨rfl, HB.out⟩
end Go.Proofs.YtnhccnjdpdhhaaaDoor
