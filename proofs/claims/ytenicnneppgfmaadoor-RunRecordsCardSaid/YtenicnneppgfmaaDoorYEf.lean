/- The contract of the reference's EventsFault. No condition beyond the readings. -/
import Derived.Test.YtenicnneppgfmaaDoorYEc
namespace Go.Proofs.YtenicnneppgfmaaDoor
open Go Go.RowKit Go.ChangeShapes Go.WideShapes Go.Deep
set_option linter.unusedVariables false

theorem emay_or {F : FuncId} {args : Array Value} {zs : List Int} {w : World} (h : Calls Tryd.prog F args w fun e w' => e = .returned (.bool (!zs.any oddB)) ∧ ∃ n, w' = w.drewN n) : Calls Tryd.prog F args w fun e w' => (e = .returned (.bool false) ∧ Hid (zs.any oddB = true) ∧ ∃ n, w' = w.drewN n) ∨ (e = .returned (.bool true) ∧ Hid (zs.any oddB = false) ∧ ∃ n, w' = w.drewN n) := by
  rcases Bool.eq_false_or_eq_true (zs.any oddB) with hq | hq
  · exact h.mono fun e w' ⟨he, hn⟩ => Or.inl ⟨by rw [he, hq]; rfl, Lib.hid hq, hn⟩
  · exact h.mono fun e w' ⟨he, hn⟩ => Or.inr ⟨by rw [he, hq]; rfl, Lib.hid hq, hn⟩
theorem wordsIn_1 (w : World) : Calls Tryd.prog 117 #[.int .i64 1] w fun e w' => e = .returned (.int .i64 0) ∧ w = w' := by
  go_enter Tryd.func117, Tryd.ntmps117
  go_wp2
  go_ret
  exact ⟨rfl, rfl⟩
theorem wordsIn_2 (w : World) : Calls Tryd.prog 117 #[.int .i64 2] w fun e w' => e = .returned (.int .i64 16) ∧ w = w' := by
  go_enter Tryd.func117, Tryd.ntmps117
  go_wp2
  go_ret
  exact ⟨rfl, rfl⟩
theorem wordsIn_3 (w : World) : Calls Tryd.prog 117 #[.int .i64 3] w fun e w' => e = .returned (.int .i64 1) ∧ w = w' := by
  go_enter Tryd.func117, Tryd.ntmps117
  go_wp2
  go_ret
  exact ⟨rfl, rfl⟩

set_option maxHeartbeats 8000000 in
set_option maxRecDepth 100000 in
theorem evfault_any (v : Value) (l : List Ev) (w : World) (hf : EvsR w.heap.size w v l) : Calls Tryd.prog 89 #[v] w (EvPost l w) := by
  obtain ⟨a, cap, rfl, hl, hl2, hc⟩ := hf
  have HC := Lib.hid hc
  clear hc
  by_cases h1000 : 1000 < l.length
  · have h1 : (1000 : Int) < (l.length : Int) := by omega
    go_enter Tryd.func89, Tryd.ntmps89
    go_wp2
    go_ret
    exact ⟨1, Or.inl ⟨h1000, rfl⟩, rfl, Below.refl _ _⟩
  · have h1 : ¬ (1000 : Int) < (l.length : Int) := by omega
    have h1000' : l.length ≤ 1000 := by omega
    go_enter Tryd.func89, Tryd.ntmps89
    go_wp2
    go_loopw [3] (fun i wr => ∃ k : Nat, k ≤ l.length ∧ i = .int .i64 k ∧ Hid (∀ j, j < k → fAt l j = 0) ∧ Below w.heap.size w wr) (fun i _ => l.length - (intOf i).toNat)
    case atStart => exact ⟨0, Nat.zero_le _, rfl, Lib.hid fun j hj => absurd hj (Nat.not_lt_zero _), Below.refl _ _⟩
    case round =>
      obtain ⟨k, hk, rfl, A, hb⟩ := hrel
      by_cases hlt : k < l.length
      · obtain ⟨b, off, cs, ha, hbb, hcs, hcell, ad, cd, hcs2, i1, i2, hint⟩ := HC.out k hlt
        have HX := Lib.hid (fun c (hc : fAt l k = c) (h0 : c ≠ 0) => res_hit h1000' hlt A.out hc h0)
        have HG := Lib.hid (fun (hc : fAt l k = 0) => fz_grow A.out hc)
        subst ha hcs2
        have HI := Lib.hid (hint.to hb.size (same_below hb))
        have HB := Lib.hid hb
        have r0 : wr.cell? ⟨b, off + k * 3, none⟩ = some (.int .i64 l[k].at_) := (same_below hb _ _ hbb).trans (hcell 0 (by simp))
        have r1 : wr.cell? ⟨b, off + k * 3 + 1, none⟩ = some (.int .i64 l[k].kind) := (same_below hb _ _ hbb).trans (hcell 1 (by simp))
        have r2 : wr.cell? ⟨b, off + k * 3 + 2, none⟩ = some (.slice ad l[k].data.length cd) := (same_below hb _ _ hbb).trans (hcell 2 (by simp))
        have hwb := hb.size
        have hxl : l[k]? = some l[k] := List.getElem?_eq_getElem hlt
        have e0 : fAt l k = evF (if k = 0 then none else l[k - 1]?) l[k] := by unfold fAt; rw [hxl]
        rw [e0] at HX HG
        clear hint hcell hb i1 i2 e0 hxl
        generalize l[k] = x at *
        obtain ⟨at_, kd, data⟩ := x
        simp only at r0 r1 r2 HI
        by_cases k1 : kd < 1
        · go_wp2_with (first | (go_at_call 50; refine (in_yes _ _ _ _ ?_).mono ?_; omega; rintro e w' ⟨rfl, rfl⟩) | (go_at_call 50; refine (in_no _ _ _ _ ?_).mono ?_; omega; rintro e w' ⟨rfl, rfl⟩))
          go_ret
          exact ⟨3, HX.out 3 (evF3 (Or.inl k1)) (by decide), rfl, (by repeat (first | exact HB.out | refine below_drewN ?_ _ | refine Below.alloc ?_ hwb _))⟩
        by_cases k3 : 3 < kd
        · go_wp2_with (first | (go_at_call 50; refine (in_yes _ _ _ _ ?_).mono ?_; omega; rintro e w' ⟨rfl, rfl⟩) | (go_at_call 50; refine (in_no _ _ _ _ ?_).mono ?_; omega; rintro e w' ⟨rfl, rfl⟩))
          go_ret
          exact ⟨3, HX.out 3 (evF3 (Or.inr k3)) (by decide), rfl, (by repeat (first | exact HB.out | refine below_drewN ?_ _ | refine Below.alloc ?_ hwb _))⟩
        by_cases a0 : at_ < 0
        · go_wp2_with (first | (go_at_call 50; refine (in_yes _ _ _ _ ?_).mono ?_; omega; rintro e w' ⟨rfl, rfl⟩) | (go_at_call 50; refine (in_no _ _ _ _ ?_).mono ?_; omega; rintro e w' ⟨rfl, rfl⟩))
          go_ret
          exact ⟨2, HX.out 2 (evF2 (by simp; omega) (Or.inl a0)) (by decide), rfl, (by repeat (first | exact HB.out | refine below_drewN ?_ _ | refine Below.alloc ?_ hwb _))⟩
        by_cases a3 : 3000 ≤ at_
        · go_wp2_with (first | (go_at_call 50; refine (in_yes _ _ _ _ ?_).mono ?_; omega; rintro e w' ⟨rfl, rfl⟩) | (go_at_call 50; refine (in_no _ _ _ _ ?_).mono ?_; omega; rintro e w' ⟨rfl, rfl⟩))
          go_ret
          exact ⟨2, HX.out 2 (evF2 (by simp; omega) (Or.inr (Or.inl a3))) (by decide), rfl, (by repeat (first | exact HB.out | refine below_drewN ?_ _ | refine Below.alloc ?_ hwb _))⟩
        have hkd : kd = 1 ∨ kd = 2 ∨ kd = 3 := by omega
        clear k1 k3
        cases k with
        | zero =>
          rw [if_pos rfl] at HX HG
          simp only [Nat.zero_mul, Nat.add_zero] at r0 r1 r2
          rcases hkd with rfl | rfl | rfl
          · skip
            go_wp2_with (first | (go_at_call 50; refine (in_yes _ _ _ _ ?_).mono ?_; omega; rintro e w' ⟨rfl, rfl⟩) | (go_at_call 85; refine (emay_or (wordsMay_any _ data _ ?_)).mono ?_; (exact HI.out.to (by simp) (same_alloc _ _)); rintro e w' (⟨rfl, ho, n1, rfl⟩ | ⟨rfl, ho, n1, rfl⟩)))
            · go_ret
              exact ⟨2, HX.out 2 (evF2 (by simp) (Or.inr (Or.inr ho.out))) (by decide), rfl, (by repeat (first | exact HB.out | refine below_drewN ?_ _ | refine Below.alloc ?_ hwb _))⟩
            have HN := Lib.hid (show ¬ (at_ < 0 ∨ 3000 ≤ at_ ∨ data.any oddB = true) by rw [ho.out]; simp; omega)
            clear ho
            by_cases hlen : (data.length : Int) = 0
            · have bl : ((data.length : Int) != 0) = false := by rw [bne_eq_false_iff_eq]; exact hlen
              have HL := Lib.hid hlen
              clear hlen
              have HGG := Lib.hid (HG.out (evFp (by simp) HN.out HL.out))
              go_quiet ((go_at_call 117; refine (wordsIn_1 _).mono ?_; rintro e w' ⟨rfl, rfl⟩; exact ⟨rfl, _, rfl⟩))
              go_wp2_with fail
              go_quiet (fail)
              go_wp2
              go_roundw
              case rel => exact ⟨1, by omega, by go_num, HGG, (by repeat (first | exact HB.out | refine below_drewN ?_ _ | refine Below.alloc ?_ hwb _))⟩
              case measure => simp [intOf]; omega
            · have bl : ((data.length : Int) != 0) = true := by rw [bne_iff_ne]; exact hlen
              have HL := Lib.hid hlen
              clear hlen
              go_quiet ((go_at_call 117; refine (wordsIn_1 _).mono ?_; rintro e w' ⟨rfl, rfl⟩; exact ⟨rfl, _, rfl⟩))
              go_wp2
              go_ret
              exact ⟨1, HX.out 1 (evF1 (by simp) HN.out HL.out) (by decide), rfl, (by repeat (first | exact HB.out | refine below_drewN ?_ _ | refine Below.alloc ?_ hwb _))⟩
          · skip
            go_wp2_with (first | (go_at_call 50; refine (in_yes _ _ _ _ ?_).mono ?_; omega; rintro e w' ⟨rfl, rfl⟩) | (go_at_call 85; refine (emay_or (wordsMay_any _ data _ ?_)).mono ?_; (exact HI.out.to (by simp) (same_alloc _ _)); rintro e w' (⟨rfl, ho, n1, rfl⟩ | ⟨rfl, ho, n1, rfl⟩)))
            · go_ret
              exact ⟨2, HX.out 2 (evF2 (by simp) (Or.inr (Or.inr ho.out))) (by decide), rfl, (by repeat (first | exact HB.out | refine below_drewN ?_ _ | refine Below.alloc ?_ hwb _))⟩
            have HN := Lib.hid (show ¬ (at_ < 0 ∨ 3000 ≤ at_ ∨ data.any oddB = true) by rw [ho.out]; simp; omega)
            clear ho
            by_cases hlen : (data.length : Int) = 16
            · have bl : ((data.length : Int) != 16) = false := by rw [bne_eq_false_iff_eq]; exact hlen
              have HL := Lib.hid hlen
              clear hlen
              have HGG := Lib.hid (HG.out (evFp (by simp) HN.out HL.out))
              go_quiet ((go_at_call 117; refine (wordsIn_2 _).mono ?_; rintro e w' ⟨rfl, rfl⟩; exact ⟨rfl, _, rfl⟩))
              go_wp2_with fail
              go_quiet (fail)
              go_wp2
              go_roundw
              case rel => exact ⟨1, by omega, by go_num, HGG, (by repeat (first | exact HB.out | refine below_drewN ?_ _ | refine Below.alloc ?_ hwb _))⟩
              case measure => simp [intOf]; omega
            · have bl : ((data.length : Int) != 16) = true := by rw [bne_iff_ne]; exact hlen
              have HL := Lib.hid hlen
              clear hlen
              go_quiet ((go_at_call 117; refine (wordsIn_2 _).mono ?_; rintro e w' ⟨rfl, rfl⟩; exact ⟨rfl, _, rfl⟩))
              go_wp2
              go_ret
              exact ⟨1, HX.out 1 (evF1 (by simp) HN.out HL.out) (by decide), rfl, (by repeat (first | exact HB.out | refine below_drewN ?_ _ | refine Below.alloc ?_ hwb _))⟩
          · skip
            go_wp2_with (first | (go_at_call 50; refine (in_yes _ _ _ _ ?_).mono ?_; omega; rintro e w' ⟨rfl, rfl⟩) | (go_at_call 85; refine (emay_or (wordsMay_any _ data _ ?_)).mono ?_; (exact HI.out.to (by simp) (same_alloc _ _)); rintro e w' (⟨rfl, ho, n1, rfl⟩ | ⟨rfl, ho, n1, rfl⟩)))
            · go_ret
              exact ⟨2, HX.out 2 (evF2 (by simp) (Or.inr (Or.inr ho.out))) (by decide), rfl, (by repeat (first | exact HB.out | refine below_drewN ?_ _ | refine Below.alloc ?_ hwb _))⟩
            have HN := Lib.hid (show ¬ (at_ < 0 ∨ 3000 ≤ at_ ∨ data.any oddB = true) by rw [ho.out]; simp; omega)
            clear ho
            by_cases hlen : (data.length : Int) = 1
            · have bl : ((data.length : Int) != 1) = false := by rw [bne_eq_false_iff_eq]; exact hlen
              have HL := Lib.hid hlen
              clear hlen
              have HGG := Lib.hid (HG.out (evFp (by simp) HN.out HL.out))
              go_quiet ((go_at_call 117; refine (wordsIn_3 _).mono ?_; rintro e w' ⟨rfl, rfl⟩; exact ⟨rfl, _, rfl⟩))
              go_wp2_with fail
              go_quiet (fail)
              go_wp2
              go_roundw
              case rel => exact ⟨1, by omega, by go_num, HGG, (by repeat (first | exact HB.out | refine below_drewN ?_ _ | refine Below.alloc ?_ hwb _))⟩
              case measure => simp [intOf]; omega
            · have bl : ((data.length : Int) != 1) = true := by rw [bne_iff_ne]; exact hlen
              have HL := Lib.hid hlen
              clear hlen
              go_quiet ((go_at_call 117; refine (wordsIn_3 _).mono ?_; rintro e w' ⟨rfl, rfl⟩; exact ⟨rfl, _, rfl⟩))
              go_wp2
              go_ret
              exact ⟨1, HX.out 1 (evF1 (by simp) HN.out HL.out) (by decide), rfl, (by repeat (first | exact HB.out | refine below_drewN ?_ _ | refine Below.alloc ?_ hwb _))⟩
        | succ m =>
          have hm : m < l.length := by omega
          rw [if_neg (by omega), Nat.add_sub_cancel, List.getElem?_eq_getElem hm] at HX HG
          obtain ⟨b', off', cs', ha', hbb', hcs', hcell', ad', cd', hcs2', i1', i2', hint'⟩ := HC.out m hm
          simp only [Option.some.injEq, Addr.mk.injEq, and_true] at ha'
          obtain ⟨rfl, rfl⟩ := ha'
          subst hcs2'
          have p0 : wr.cell? ⟨b, off + m * 3, none⟩ = some (.int .i64 l[m].at_) := (same_below HB.out _ _ hbb').trans (hcell' 0 (by simp))
          have p1 : wr.cell? ⟨b, off + m * 3 + 1, none⟩ = some (.int .i64 l[m].kind) := (same_below HB.out _ _ hbb').trans (hcell' 1 (by simp))
          clear hcell' hint' i1' i2' hcs'
          have hpr := fAt_range hm (A.out m (by omega))
          generalize l[m] = px at *
          obtain ⟨pat, pkd, pda⟩ := px
          simp only at p0 p1 hpr
          obtain ⟨q1, q2, q3, q4⟩ := hpr
          have hg : decide ((0 : Int) < (m : Int) + 1) = true := by rw [decide_eq_true_iff]; omega
          have hm0 : (0 : Int) ≤ (m : Int) := by omega
          have hm1 : (m : Int) < (l.length : Int) := by omega
          have hbw : b < wr.heap.size := by omega
          have hwm : IntKind.i64.wrap (m : Int) = m := IntWalk.i64_in _ (by omega)
          have w1 : IntKind.i64.wrap (4 * pat) = 4 * pat := IntWalk.i64_in _ (by omega)
          have w2 : IntKind.i64.wrap (4 * pat + pkd) = 4 * pat + pkd := IntWalk.i64_in _ (by omega)
          have w3 : IntKind.i64.wrap (4 * at_) = 4 * at_ := IntWalk.i64_in _ (by omega)
          rcases hkd with rfl | rfl | rfl
          · have w4 : IntKind.i64.wrap (4 * at_ + 1) = 4 * at_ + 1 := IntWalk.i64_in _ (by omega)
            go_wp2_with (first | (go_at_call 50; refine (in_yes _ _ _ _ ?_).mono ?_; omega; rintro e w' ⟨rfl, rfl⟩) | (go_at_call 85; refine (emay_or (wordsMay_any _ data _ ?_)).mono ?_; (exact HI.out.to (by simp) (same_alloc _ _)); rintro e w' (⟨rfl, ho, n1, rfl⟩ | ⟨rfl, ho, n1, rfl⟩)))
            · go_ret
              exact ⟨2, HX.out 2 (evF2 (by simp) (Or.inr (Or.inr ho.out))) (by decide), rfl, (by repeat (first | exact HB.out | refine below_drewN ?_ _ | refine Below.alloc ?_ hwb _))⟩
            have HN := Lib.hid (show ¬ (at_ < 0 ∨ 3000 ≤ at_ ∨ data.any oddB = true) by rw [ho.out]; simp; omega)
            clear ho
            by_cases hlen : (data.length : Int) = 0
            · have bl : ((data.length : Int) != 0) = false := by rw [bne_eq_false_iff_eq]; exact hlen
              have HL := Lib.hid hlen
              clear hlen
              have hev := evFp (p := some ⟨pat, pkd, pda⟩) (x := ⟨at_, 1, data⟩) (by simp) HN.out HL.out
              simp only at hev
              rcases (show 4 * at_ + 1 ≤ 4 * pat + pkd ∨ 4 * pat + pkd < 4 * at_ + 1 by omega) with o | o
              · skip
                have HR := Lib.hid (HX.out 9 (hev.trans (if_pos (by omega))) (by decide))
                have g1 : decide (4 * at_ + 1 ≤ 4 * pat + pkd) = true := by rw [decide_eq_true_iff]; exact o
                clear hev o
                go_quiet ((go_at_call 117; refine (wordsIn_1 _).mono ?_; rintro e w' ⟨rfl, rfl⟩; exact ⟨rfl, _, rfl⟩))
                go_wp2_with fail
                go_quiet (fail)
                go_wp2
                go_ret
                exact ⟨9, HR.out, rfl, (by repeat (first | exact HB.out | refine below_drewN ?_ _ | refine Below.alloc ?_ hwb _))⟩
              · skip
                have HR := Lib.hid (HG.out (hev.trans (if_neg (by omega))))
                have g1 : decide (4 * at_ + 1 ≤ 4 * pat + pkd) = false := by rw [decide_eq_false_iff_not]; omega
                clear hev o
                go_quiet ((go_at_call 117; refine (wordsIn_1 _).mono ?_; rintro e w' ⟨rfl, rfl⟩; exact ⟨rfl, _, rfl⟩))
                go_wp2_with fail
                go_quiet (fail)
                go_wp2
                go_roundw
                case rel => exact ⟨m + 1 + 1, by omega, by go_num, HR, (by repeat (first | exact HB.out | refine below_drewN ?_ _ | refine Below.alloc ?_ hwb _))⟩
                case measure => simp [intOf]; omega
            · have bl : ((data.length : Int) != 0) = true := by rw [bne_iff_ne]; exact hlen
              have HL := Lib.hid hlen
              clear hlen
              go_quiet ((go_at_call 117; refine (wordsIn_1 _).mono ?_; rintro e w' ⟨rfl, rfl⟩; exact ⟨rfl, _, rfl⟩))
              go_wp2
              go_ret
              exact ⟨1, HX.out 1 (evF1 (by simp) HN.out HL.out) (by decide), rfl, (by repeat (first | exact HB.out | refine below_drewN ?_ _ | refine Below.alloc ?_ hwb _))⟩
          · have w4 : IntKind.i64.wrap (4 * at_ + 2) = 4 * at_ + 2 := IntWalk.i64_in _ (by omega)
            go_wp2_with (first | (go_at_call 50; refine (in_yes _ _ _ _ ?_).mono ?_; omega; rintro e w' ⟨rfl, rfl⟩) | (go_at_call 85; refine (emay_or (wordsMay_any _ data _ ?_)).mono ?_; (exact HI.out.to (by simp) (same_alloc _ _)); rintro e w' (⟨rfl, ho, n1, rfl⟩ | ⟨rfl, ho, n1, rfl⟩)))
            · go_ret
              exact ⟨2, HX.out 2 (evF2 (by simp) (Or.inr (Or.inr ho.out))) (by decide), rfl, (by repeat (first | exact HB.out | refine below_drewN ?_ _ | refine Below.alloc ?_ hwb _))⟩
            have HN := Lib.hid (show ¬ (at_ < 0 ∨ 3000 ≤ at_ ∨ data.any oddB = true) by rw [ho.out]; simp; omega)
            clear ho
            by_cases hlen : (data.length : Int) = 16
            · have bl : ((data.length : Int) != 16) = false := by rw [bne_eq_false_iff_eq]; exact hlen
              have HL := Lib.hid hlen
              clear hlen
              have hev := evFp (p := some ⟨pat, pkd, pda⟩) (x := ⟨at_, 2, data⟩) (by simp) HN.out HL.out
              simp only at hev
              rcases (show 4 * at_ + 2 ≤ 4 * pat + pkd ∨ 4 * pat + pkd < 4 * at_ + 2 by omega) with o | o
              · skip
                have HR := Lib.hid (HX.out 9 (hev.trans (if_pos (by omega))) (by decide))
                have g1 : decide (4 * at_ + 2 ≤ 4 * pat + pkd) = true := by rw [decide_eq_true_iff]; exact o
                clear hev o
                go_quiet ((go_at_call 117; refine (wordsIn_2 _).mono ?_; rintro e w' ⟨rfl, rfl⟩; exact ⟨rfl, _, rfl⟩))
                go_wp2_with fail
                go_quiet (fail)
                go_wp2
                go_ret
                exact ⟨9, HR.out, rfl, (by repeat (first | exact HB.out | refine below_drewN ?_ _ | refine Below.alloc ?_ hwb _))⟩
              · skip
                have HR := Lib.hid (HG.out (hev.trans (if_neg (by omega))))
                have g1 : decide (4 * at_ + 2 ≤ 4 * pat + pkd) = false := by rw [decide_eq_false_iff_not]; omega
                clear hev o
                go_quiet ((go_at_call 117; refine (wordsIn_2 _).mono ?_; rintro e w' ⟨rfl, rfl⟩; exact ⟨rfl, _, rfl⟩))
                go_wp2_with fail
                go_quiet (fail)
                go_wp2
                go_roundw
                case rel => exact ⟨m + 1 + 1, by omega, by go_num, HR, (by repeat (first | exact HB.out | refine below_drewN ?_ _ | refine Below.alloc ?_ hwb _))⟩
                case measure => simp [intOf]; omega
            · have bl : ((data.length : Int) != 16) = true := by rw [bne_iff_ne]; exact hlen
              have HL := Lib.hid hlen
              clear hlen
              go_quiet ((go_at_call 117; refine (wordsIn_2 _).mono ?_; rintro e w' ⟨rfl, rfl⟩; exact ⟨rfl, _, rfl⟩))
              go_wp2
              go_ret
              exact ⟨1, HX.out 1 (evF1 (by simp) HN.out HL.out) (by decide), rfl, (by repeat (first | exact HB.out | refine below_drewN ?_ _ | refine Below.alloc ?_ hwb _))⟩
          · have w4 : IntKind.i64.wrap (4 * at_ + 3) = 4 * at_ + 3 := IntWalk.i64_in _ (by omega)
            go_wp2_with (first | (go_at_call 50; refine (in_yes _ _ _ _ ?_).mono ?_; omega; rintro e w' ⟨rfl, rfl⟩) | (go_at_call 85; refine (emay_or (wordsMay_any _ data _ ?_)).mono ?_; (exact HI.out.to (by simp) (same_alloc _ _)); rintro e w' (⟨rfl, ho, n1, rfl⟩ | ⟨rfl, ho, n1, rfl⟩)))
            · go_ret
              exact ⟨2, HX.out 2 (evF2 (by simp) (Or.inr (Or.inr ho.out))) (by decide), rfl, (by repeat (first | exact HB.out | refine below_drewN ?_ _ | refine Below.alloc ?_ hwb _))⟩
            have HN := Lib.hid (show ¬ (at_ < 0 ∨ 3000 ≤ at_ ∨ data.any oddB = true) by rw [ho.out]; simp; omega)
            clear ho
            by_cases hlen : (data.length : Int) = 1
            · have bl : ((data.length : Int) != 1) = false := by rw [bne_eq_false_iff_eq]; exact hlen
              have HL := Lib.hid hlen
              clear hlen
              have hev := evFp (p := some ⟨pat, pkd, pda⟩) (x := ⟨at_, 3, data⟩) (by simp) HN.out HL.out
              simp only at hev
              rcases (show 4 * at_ + 3 ≤ 4 * pat + pkd ∨ 4 * pat + pkd < 4 * at_ + 3 by omega) with o | o
              · skip
                have HR := Lib.hid (HX.out 9 (hev.trans (if_pos (by omega))) (by decide))
                have g1 : decide (4 * at_ + 3 ≤ 4 * pat + pkd) = true := by rw [decide_eq_true_iff]; exact o
                clear hev o
                go_quiet ((go_at_call 117; refine (wordsIn_3 _).mono ?_; rintro e w' ⟨rfl, rfl⟩; exact ⟨rfl, _, rfl⟩))
                go_wp2_with fail
                go_quiet (fail)
                go_wp2
                go_ret
                exact ⟨9, HR.out, rfl, (by repeat (first | exact HB.out | refine below_drewN ?_ _ | refine Below.alloc ?_ hwb _))⟩
              · skip
                have HR := Lib.hid (HG.out (hev.trans (if_neg (by omega))))
                have g1 : decide (4 * at_ + 3 ≤ 4 * pat + pkd) = false := by rw [decide_eq_false_iff_not]; omega
                clear hev o
                go_quiet ((go_at_call 117; refine (wordsIn_3 _).mono ?_; rintro e w' ⟨rfl, rfl⟩; exact ⟨rfl, _, rfl⟩))
                go_wp2_with fail
                go_quiet (fail)
                go_wp2
                go_roundw
                case rel => exact ⟨m + 1 + 1, by omega, by go_num, HR, (by repeat (first | exact HB.out | refine below_drewN ?_ _ | refine Below.alloc ?_ hwb _))⟩
                case measure => simp [intOf]; omega
            · have bl : ((data.length : Int) != 1) = true := by rw [bne_iff_ne]; exact hlen
              have HL := Lib.hid hlen
              clear hlen
              go_quiet ((go_at_call 117; refine (wordsIn_3 _).mono ?_; rintro e w' ⟨rfl, rfl⟩; exact ⟨rfl, _, rfl⟩))
              go_wp2
              go_ret
              exact ⟨1, HX.out 1 (evF1 (by simp) HN.out HL.out) (by decide), rfl, (by repeat (first | exact HB.out | refine below_drewN ?_ _ | refine Below.alloc ?_ hwb _))⟩
      · obtain rfl : k = l.length := by omega
        go_wp2
        go_ret
        exact ⟨0, Or.inr (Or.inr ⟨h1000', A.out, rfl⟩), rfl, hb⟩
end Go.Proofs.YtenicnneppgfmaaDoor
