/- hourglassref.PlayedOf, walked against the reckoning. No condition beyond the readings. -/
import Derived.Test.YtpmdlmgmfggioaaYPlb
import Derived.Handy
import Derived.StillTailTactics
import Derived.Deep.RegionWith
import Derived.Deep.RegionLaw
import Derived.Deep.CutBlock
import Derived.Deep.CutRange
import Derived.Deep.RegionHeld3
import Derived.Deep.LoopGhost
namespace Go.Proofs.Ytpmdlmgmfggioaa
open Go Go.RowKit Go.ChangeShapes Go.WideShapes Go.Deep
set_option linter.unusedVariables false
set_option linter.unusedSimpArgs false
attribute [local go_sem ↓] Go.wp_at_zero Go.wp_at_succ

set_option maxHeartbeats 16000000 in
set_option maxRecDepth 100000 in
theorem playedof_any (n : Int) (v1 v2 : Value) (first : List (Int × Int)) (writes : List (Int × Int × Int)) (w : World) (hn : I64 n) (h1 : P2R w.heap.size w v1 first) (h2 : P3R w.heap.size w v2 writes) : Calls Try.prog 6 #[.int .i64 n, v1, v2] w (PlayPost (PlayO n first writes) w) := by
  obtain ⟨af, cf, rfl, lf1, lf2, hcf⟩ := id h1
  obtain ⟨aw, cw, rfl, lw1, lw2, hcw⟩ := id h2
  have HCF := Lib.hid hcf
  have HCW := Lib.hid hcw
  clear hcf hcw h1 h2
  by_cases hr : n < 0 ∨ 200 < n
  · have HE := Lib.hid (show PlayO n first writes = ([], [], 0, 2) from by unfold PlayO; rw [if_pos hr])
    have HIN := Lib.hid (in_no n 0 200 w (by omega))
    clear hr
    go_enter Try.func6, Try.ntmps6
    go_wp2_with fail
    refine HIN.out.mono ?_
    rintro e w5 ⟨rfl, rfl⟩
    go_wp2_with fail
    refine bodyPost_ret (v := .tuple #[.slice none 0 0, .slice none 0 0, .int .i64 0, .int .i64 2]) (by simp [results, Try.results6, go_sem]) rfl (by rw [HE.out]; exact PlayPost.no (Below.refl _ _))
  · have HIN := Lib.hid (in_yes n 0 200 w (by omega))
    obtain ⟨N, rfl⟩ : ∃ N : Nat, n = N := ⟨n.toNat, by omega⟩
    have hN : N ≤ 200 := by omega
    have e0 : PlayO N first writes = (match play1 N first (List.replicate 256 0) (List.replicate 16 false) 0 with
      | .inl e => ([], [], 0, e)
      | .inr (a, h, k) => match play2 N writes { a := a, b := a, sh := h, oa := List.replicate 16 false, ob := List.replicate 16 false, k := k } with
        | .inl e => ([], [], 0, e)
        | .inr s => (s.a, s.b, s.k, 0)) := by unfold PlayO; rw [if_neg hr]; rfl
    generalize PlayO N first writes = o at *
    have HO := Lib.hid e0
    have mk1 := mk_ints 256 (by omega) (by omega)
    have mk2 := mk_bools
    clear e0 hr
    go_enter Try.func6, Try.ntmps6
    go_wp2_with fail
    refine HIN.out.mono ?_
    rintro e w5 ⟨rfl, rfl⟩
    go_upto_region 5 with fail
    obtain ⟨W1, hW1⟩ : ∃ W1, W1 = (w.alloc (.cells (zeroInts 256) 3)).alloc (.cells (Falses 16) 4) := ⟨_, rfl⟩
    rw [← hW1]
    have HB1 := Lib.hid (show Below w.heap.size w W1 from by rw [hW1]; exact below_alloc2 _ _ _)
    obtain ⟨ga, hga⟩ : ∃ g, g = w.heap.size := ⟨_, rfl⟩
    obtain ⟨gh, hgh⟩ : ∃ g, g = w.heap.size + 1 := ⟨_, rfl⟩
    have HA1 := Lib.hid (show IBk ga (List.replicate 256 0) W1 from by unfold IBk; rw [hW1, hga, ← zeroInts_eq]; exact (alloc_lt (by simp)).trans (alloc_at rfl))
    have HH1 := Lib.hid (show BBk gh (List.replicate 16 false) W1 from by unfold BBk; rw [hW1, hgh, ← falses_eq]; exact alloc_at (by simp))
    have hgw : w.heap.size ≤ ga := by omega
    have hhw : w.heap.size ≤ gh := by omega
    rw [← hgh, ← hga]
    clear hW1 hga hgh mk1
    go_wp2_with fail
    go_loopg [12, 13] first.length (fun gh_ s12 s13 wr => ∃ (i k : Nat) (a : List Int) (h : List Bool), i ≤ first.length ∧ first.length - i ≤ gh_ ∧ s12 = .int .i64 k ∧ s13 = .int .i64 i ∧ k ≤ N ∧ Hid (IBk ga a wr) ∧ Hid (BBk gh h wr) ∧ Hid (Below w.heap.size w wr) ∧ Hid (a.length = 256) ∧ Hid (h.length = 16) ∧ Hid (∀ z ∈ a, I64 z) ∧ Hid (play1 N first (List.replicate 256 0) (List.replicate 16 false) 0 = play1 N (first.drop i) a h k))
    case atStart => exact ⟨0, 0, _, _, Nat.zero_le _, by omega, rfl, rfl, Nat.zero_le _, HA1, HH1, HB1, Lib.hid (by simp), Lib.hid (by simp), Lib.hid (fun z hz => by rw [List.eq_of_mem_replicate hz]; unfold I64; omega), Lib.hid rfl⟩
    case round =>
      clear HA1 HH1 HB1
      obtain ⟨i, k, a, h, hi, hgh, rfl, rfl, hk, HA, HH, HB, HLA, HLH, HV, HP⟩ := hrel
      by_cases hlt : i < first.length
      · obtain ⟨b, off, cs, rfl, hbb, hcs, hcell, rfl, x1, x2⟩ := HCF.out i hlt
        have R0 := Lib.hid (fun (w2 : World) (hw : Below w.heap.size w w2) => (same_below hw b _ hbb).trans (hcell 0 (by simp)))
        have r0 : wr.cell? ⟨b, off + i * 2, none⟩ = some (.int .i64 first[i].1) := (same_below HB.out b _ hbb).trans (hcell 0 (by simp))
        have HR1 : Hid (∀ w2 : World, Below w.heap.size w w2 → w2.cell? ⟨b, off + i * 2 + 1, none⟩ = some (.int .i64 first[i].2)) := Lib.hid (fun w2 hw => (same_below hw b _ hbb).trans (hcell 1 (by simp)))
        have r1 := HR1.out wr HB.out
        have HDR := Lib.hid (List.drop_eq_getElem_cons hlt)
        have hk1 : (i : Int) < (first.length : Int) := by omega
        clear hcell hcs R0
        generalize first[i] = x at *
        obtain ⟨at_, v⟩ := x
        simp only at r0 r1 HR1 x1 x2 HDR
        have HBN := Lib.hid hbb
        by_cases hout : at_ < 0 ∨ 255 < at_
        · have HI := Lib.hid (in_no at_ 0 255 wr (by omega))
          have HE := Lib.hid (show o = ([], [], 0, 2) from by rw [HO.out, HP.out, HDR.out, play1_out hout])
          clear hout
          go_wp2_with fail
          refine HI.out.mono ?_
          rintro e w5 ⟨rfl, rfl⟩
          go_wp2_with fail
          refine bodyPost_ret (v := .tuple #[.slice none 0 0, .slice none 0 0, .int .i64 0, .int .i64 2]) (by simp [results, Try.results6, go_sem]) rfl (by rw [HE.out]; exact PlayPost.no HB.out)
        · obtain ⟨p, j, hp, hj, rfl⟩ : ∃ p j : Nat, p < 16 ∧ j < 16 ∧ at_ = ((16 * p + j : Nat) : Int) := ⟨at_.toNat / 16, at_.toNat % 16, by omega, by omega, by omega⟩
          have HI := Lib.hid (in_yes ((16 * p + j : Nat) : Int) 0 255 wr (by omega))
          have HP1 := Lib.hid (fun hh => HP.out.trans (by rw [HDR.out, play1_old (N := N) (v := v) (l := first.drop (i + 1)) (a := a) (k := k) hp hj hh]))
          have HP2 := Lib.hid (fun hh hkn => HP.out.trans (by rw [HDR.out, play1_new (N := N) (v := v) (l := first.drop (i + 1)) (a := a) (k := k) hp hj hh hkn]))
          have HP3 := Lib.hid (fun hh hkn => HP.out.trans (by rw [HDR.out, play1_full (N := N) (v := v) (l := first.drop (i + 1)) (a := a) (k := k) hp hj hh hkn]))
          obtain ⟨m, hm⟩ : ∃ m : Nat, m = 16 * p + j := ⟨_, rfl⟩
          rw [← hm] at HI HP1 HP2 r0
          have hd : (m : Int).tdiv 16 = (p : Int) := by rw [Int.tdiv_eq_ediv_of_nonneg (by omega)]; omega
          have hm0 : (0 : Int) ≤ (m : Int) := by omega
          have hm1 : (m : Int) < 256 := by omega
          have hp1 : (p : Int) < 16 := by omega
          have hp0 : (0 : Int) ≤ (p : Int) := by omega
          have wp_ : IntKind.i64.wrap (p : Int) = (p : Int) := IntWalk.i64_in _ (by omega)
          have hb1 := HH.out.at (k := p) (by rw [HLH.out]; exact hp)
          have hb2 := HH.out.fr p
          have hb3 := HH.out.lt
          have ha1 := HA.out.at (k := m) (by rw [HLA.out]; omega)
          have ha2 := HA.out.fr m
          have ha3 := HA.out.lt
          have hne := HA.out.ne HH.out
          generalize a.getD m 0 = z0 at *
          have HMM := Lib.hid hm
          clear hm hout
          cases hh : h.getD p false with
          | true =>
            have HP5 := Lib.hid (HP1.out hh)
            rw [hh] at hb1
            clear hh
            go_wp2_with fail
            refine HI.out.mono ?_
            rintro e w5 ⟨rfl, rfl⟩
            go_wp2_with fail
            go_roundg (first.length - (i + 1))
            case measure => omega
            case rel => exact ⟨i + 1, k, _, _, by omega, by omega, rfl, by go_num, hk, Lib.hid (HA.out.set m v), Lib.hid (set_block_ne HH.out hne.symm _), Lib.hid (HB.out.setCell hgw _), Lib.hid (by rw [List.length_set]; exact HLA.out), HLH, Lib.hid (i64_setP HV.out x2 m), HP5⟩
          | false =>
            by_cases hkn : k = N
            · have HE := Lib.hid (show o = ([], [], 0, 7) from by rw [HO.out, HP3.out hh hkn])
              rw [hh] at hb1
              clear hh
              subst hkn
              go_wp2_with fail
              refine HI.out.mono ?_
              rintro e w5 ⟨rfl, rfl⟩
              go_wp2_with fail
              refine bodyPost_ret (v := .tuple #[.slice none 0 0, .slice none 0 0, .int .i64 0, .int .i64 7]) (by simp [results, Try.results6, go_sem]) rfl (by rw [HE.out]; exact PlayPost.no HB.out)
            · have HP5 := Lib.hid (HP2.out hh hkn)
              rw [hh] at hb1
              clear hh
              have hkn2 : ¬ (k : Int) = (N : Int) := by omega
              have r2 : (wr.setCell ⟨gh, p, none⟩ (.bool true)).cell? ⟨b, off + i * 2 + 1, none⟩ = some (.int .i64 v) := HR1.out _ (HB.out.setCell hhw _)
              have HHA := Lib.hid (IBk.set (set_block_ne HA.out hne (.bool true) (i := p)) m v)
              go_wp2_with fail
              refine HI.out.mono ?_
              rintro e w5 ⟨rfl, rfl⟩
              go_wp2_with fail
              all_goals first | (exfalso; omega; done) | skip
              go_roundg (first.length - (i + 1))
              case measure => omega
              case rel => exact ⟨i + 1, k + 1, _, _, by omega, by omega, by go_num, by go_num, by omega, HHA, Lib.hid (set_block_ne (HH.out.set p true) hne.symm _), Lib.hid ((HB.out.setCell hhw _).setCell hgw _), Lib.hid (by rw [List.length_set]; exact HLA.out), Lib.hid (by rw [List.length_set]; exact HLH.out), Lib.hid (i64_setP HV.out x2 m), HP5⟩
      · have HPE := Lib.hid (show play1 N first (List.replicate 256 0) (List.replicate 16 false) 0 = .inr (a, h, k) from by rw [HP.out, List.drop_eq_nil_of_le (by omega)]; rfl)
        have HIA := Lib.hid (show Ints wr.heap.size wr (.slice (some ⟨ga, 0, none⟩) 256 256) a from by have := ints_of_block (t := 3) (cap := 256) (zs := a) HA.out (by rw [HLA.out]; omega) (by rw [HLA.out]; omega) (fun i hi => by simp [hi]) HV.out; rwa [HLA.out] at this)
        have HW := Lib.hid (wordsI_any _ _ wr HIA.out)
        obtain rfl : i = first.length := by omega
        clear HP HCF hlt
        go_wp2_with fail
        refine HW.out.mono ?_
        rintro e w5 ⟨xb, cb, rfl, hob, hb5⟩
        rw [HLA.out] at hob ⊢
        obtain ⟨gb, rfl⟩ : ∃ g, xb = some ⟨g, 0, none⟩ := by
          rcases hob.2 with ⟨h1, _⟩ | ⟨g, cap, cur, h1, _⟩
          · cases h1
          · exact ⟨g, by injection h1⟩
        have HOB := Lib.hid hob
        have HA5 := Lib.hid (show IBk ga a w5 from block_below hb5 HA.out HA.out.lt)
        have HH5 := Lib.hid (show BBk gh h w5 from block_below hb5 HH.out HH.out.lt)
        have HB5 := Lib.hid (HB.out.trans (hb5.mono HB.out.size))
        have hgb : ga < gb := Nat.lt_of_lt_of_le HA.out.lt (hob.lt _ rfl).1
        have hgbw : w.heap.size ≤ gb := by omega
        clear hob hb5 HIA HW HA HH HB
        go_upto_region 20 with fail
        obtain ⟨W6, hW6⟩ : ∃ W, W = w5.alloc (.cells (Falses 16) 4) := ⟨_, rfl⟩
        rw [← hW6]
        obtain ⟨gs, hgs⟩ : ∃ g, g = w5.heap.size := ⟨_, rfl⟩
        have HB6 := Lib.hid (show Below w5.heap.size w5 W6 from by rw [hW6]; exact below_alloc _ _)
        have HS6 := Lib.hid (show BBk gs (List.replicate 16 false) W6 from by unfold BBk; rw [hW6, hgs, ← falses_eq]; exact alloc_at rfl)
        have HA6 := Lib.hid (show IBk ga a W6 from block_below HB6.out HA5.out HA5.out.lt)
        have HH6 := Lib.hid (show BBk gh h W6 from block_below HB6.out HH5.out HH5.out.lt)
        have HOB6 := Lib.hid (own_below HOB.out HB6.out (Nat.le_refl _))
        have HBW6 := Lib.hid (HB5.out.trans (HB6.out.mono HB5.out.size))
        have hgsw : w.heap.size ≤ gs := by have := HB5.out.size; omega
        have hhs : gh < gs := by have := HH5.out.lt; omega
        rw [← hgs]
        clear hW6 hgs HB6 HA5 HH5 HOB HB5
        go_cut [17] from 67 to 71 (fun s17 wx => ∃ o1 o2 bx, s17 = .pointer (some ⟨bx, 0, none⟩) ∧ Hid (Below W6.heap.size W6 wx) ∧ Hid (BBk o1 (List.replicate 16 false) wx) ∧ Hid (BBk o2 (List.replicate 16 false) wx) ∧ Hid (XBk bx o1 o2 wx) ∧ Hid (o1 ≠ o2) ∧ Hid (W6.heap.size ≤ o1) ∧ Hid (W6.heap.size ≤ o2))
        case first =>
          clear HO HPE HCW HA6 HH6 HOB6 HBW6 HS6
          go_region
          all_goals go_wp2_with fail
          all_goals go_meet
          · refine ⟨W6.heap.size, W6.heap.size + 1, _, rfl, Lib.hid (below_alloc3 _ _ _ _).drew, Lib.hid ?_, Lib.hid ?_, Lib.hid ?_, Lib.hid (by omega), Lib.hid (by omega), Lib.hid (by omega)⟩
            · unfold BBk
              rw [← falses_eq]
              (repeat (first | exact alloc_at (w := W6) rfl | (refine alloc_at ?_; simp; done) | refine (alloc_lt (by simp <;> omega)).trans ?_))
            · unfold BBk
              rw [← falses_eq]
              (repeat (first | exact alloc_at (w := W6) rfl | (refine alloc_at ?_; simp; done) | refine (alloc_lt (by simp <;> omega)).trans ?_))
            · unfold XBk
              (repeat (first | exact alloc_at (w := W6) rfl | (refine alloc_at ?_; simp; done) | refine (alloc_lt (by simp <;> omega)).trans ?_))
          · refine ⟨W6.heap.size, W6.heap.size + 1 + 1, _, rfl, Lib.hid (below_alloc3 _ _ _ _).drew, Lib.hid ?_, Lib.hid ?_, Lib.hid ?_, Lib.hid (by omega), Lib.hid (by omega), Lib.hid (by omega)⟩
            · unfold BBk
              rw [← falses_eq]
              (repeat (first | exact alloc_at (w := W6) rfl | (refine alloc_at ?_; simp; done) | refine (alloc_lt (by simp <;> omega)).trans ?_))
            · unfold BBk
              rw [← falses_eq]
              (repeat (first | exact alloc_at (w := W6) rfl | (refine alloc_at ?_; simp; done) | refine (alloc_lt (by simp <;> omega)).trans ?_))
            · unfold XBk
              (repeat (first | exact alloc_at (w := W6) rfl | (refine alloc_at ?_; simp; done) | refine (alloc_lt (by simp <;> omega)).trans ?_))
          · refine ⟨W6.heap.size + 1, W6.heap.size, _, rfl, Lib.hid (below_alloc3 _ _ _ _).drew, Lib.hid ?_, Lib.hid ?_, Lib.hid ?_, Lib.hid (by omega), Lib.hid (by omega), Lib.hid (by omega)⟩
            · unfold BBk
              rw [← falses_eq]
              (repeat (first | exact alloc_at (w := W6) rfl | (refine alloc_at ?_; simp; done) | refine (alloc_lt (by simp <;> omega)).trans ?_))
            · unfold BBk
              rw [← falses_eq]
              (repeat (first | exact alloc_at (w := W6) rfl | (refine alloc_at ?_; simp; done) | refine (alloc_lt (by simp <;> omega)).trans ?_))
            · unfold XBk
              (repeat (first | exact alloc_at (w := W6) rfl | (refine alloc_at ?_; simp; done) | refine (alloc_lt (by simp <;> omega)).trans ?_))
          · refine ⟨W6.heap.size + 1 + 1, W6.heap.size, _, rfl, Lib.hid (below_alloc3 _ _ _ _).drew, Lib.hid ?_, Lib.hid ?_, Lib.hid ?_, Lib.hid (by omega), Lib.hid (by omega), Lib.hid (by omega)⟩
            · unfold BBk
              rw [← falses_eq]
              (repeat (first | exact alloc_at (w := W6) rfl | (refine alloc_at ?_; simp; done) | refine (alloc_lt (by simp <;> omega)).trans ?_))
            · unfold BBk
              rw [← falses_eq]
              (repeat (first | exact alloc_at (w := W6) rfl | (refine alloc_at ?_; simp; done) | refine (alloc_lt (by simp <;> omega)).trans ?_))
            · unfold XBk
              (repeat (first | exact alloc_at (w := W6) rfl | (refine alloc_at ?_; simp; done) | refine (alloc_lt (by simp <;> omega)).trans ?_))
          · refine ⟨W6.heap.size + 1, W6.heap.size + 1 + 1, _, rfl, Lib.hid (below_alloc3 _ _ _ _).drew, Lib.hid ?_, Lib.hid ?_, Lib.hid ?_, Lib.hid (by omega), Lib.hid (by omega), Lib.hid (by omega)⟩
            · unfold BBk
              rw [← falses_eq]
              (repeat (first | exact alloc_at (w := W6) rfl | (refine alloc_at ?_; simp; done) | refine (alloc_lt (by simp <;> omega)).trans ?_))
            · unfold BBk
              rw [← falses_eq]
              (repeat (first | exact alloc_at (w := W6) rfl | (refine alloc_at ?_; simp; done) | refine (alloc_lt (by simp <;> omega)).trans ?_))
            · unfold XBk
              (repeat (first | exact alloc_at (w := W6) rfl | (refine alloc_at ?_; simp; done) | refine (alloc_lt (by simp <;> omega)).trans ?_))
          · refine ⟨W6.heap.size + 1 + 1, W6.heap.size + 1, _, rfl, Lib.hid (below_alloc3 _ _ _ _).drew, Lib.hid ?_, Lib.hid ?_, Lib.hid ?_, Lib.hid (by omega), Lib.hid (by omega), Lib.hid (by omega)⟩
            · unfold BBk
              rw [← falses_eq]
              (repeat (first | exact alloc_at (w := W6) rfl | (refine alloc_at ?_; simp; done) | refine (alloc_lt (by simp <;> omega)).trans ?_))
            · unfold BBk
              rw [← falses_eq]
              (repeat (first | exact alloc_at (w := W6) rfl | (refine alloc_at ?_; simp; done) | refine (alloc_lt (by simp <;> omega)).trans ?_))
            · unfold XBk
              (repeat (first | exact alloc_at (w := W6) rfl | (refine alloc_at ?_; simp; done) | refine (alloc_lt (by simp <;> omega)).trans ?_))
        case rest =>
          obtain ⟨o1, o2, bx, rfl, hb7, hp1, hp2, hx7, ho12, ho1, ho2⟩ := hcut
          have HH7 := Lib.hid (HH6.out.below hb7.out HH6.out.lt)
          have hso1 : gs < o1 := Nat.lt_of_lt_of_le HS6.out.lt ho1.out
          have hso2 : gs < o2 := Nat.lt_of_lt_of_le HS6.out.lt ho2.out
          have hno := ho12.out
          have HP7 : Hid (Po2 wr.heap.size ga gb cb gs o1 o2 bx { a := a, b := a, sh := h.take 0 ++ List.replicate (16 - 0) false, oa := List.replicate 16 false, ob := List.replicate 16 false, k := k } _) := Lib.hid ⟨HA6.out.below hb7.out HA6.out.lt, own_below HOB6.out hb7.out (Nat.le_refl _), HS6.out.below hb7.out HS6.out.lt, hp1.out, hp2.out, hx7.out, by omega, by omega, by omega, hno, HLA.out, HLA.out, by simp, by simp, by simp, HV.out, HV.out⟩
          have HB7 := Lib.hid (HBW6.out.trans (hb7.out.mono HBW6.out.size))
          have ho1w : w.heap.size ≤ o1 := by omega
          have ho2w : w.heap.size ≤ o2 := by omega
          have HX7 := hx7
          obtain ⟨s0, hs0⟩ : ∃ s0 : P2S, s0 = { a := a, b := a, sh := h, oa := List.replicate 16 false, ob := List.replicate 16 false, k := k } := ⟨_, rfl⟩
          have HO2 := Lib.hid (show o = (match play2 N writes s0 with
            | .inl e => ([], [], 0, e)
            | .inr s => (s.a, s.b, s.k, 0)) from by rw [HO.out, HPE.out, hs0])
          have HS0 := Lib.hid hs0
          clear hs0 HO HPE hb7 ho1 ho2 ho12 hp1 hp2 hx7 HX7 HA6 HH6 HS6 HOB6 HBW6 mk2 hno
          obtain ⟨lo, hlo⟩ : ∃ lo, lo = wr.heap.size := ⟨_, rfl⟩
          rw [← hlo] at HP7
          have hlow : w.heap.size ≤ gb := by omega
          clear hlo
          go_wp2_with fail
          go_loopg [18] 16 (fun gh_ s18 wr => ∃ q : Nat, q ≤ 16 ∧ gh_ = 16 - q ∧ s18 = .int .i64 q ∧ Hid (Po2 lo ga gb cb gs o1 o2 bx { a := a, b := a, sh := h.take q ++ List.replicate (16 - q) false, oa := List.replicate 16 false, ob := List.replicate 16 false, k := k } wr) ∧ Hid (BBk gh h wr) ∧ Hid (Below w.heap.size w wr))
          case atStart => exact ⟨0, Nat.zero_le _, by omega, rfl, HP7, HH7, HB7⟩
          case round =>
            clear HP7 HH7 HB7
            obtain ⟨q, hq, rfl, rfl, HP, HH, HB⟩ := hrel
            by_cases hlt : q < 16
            · have hq1 : (q : Int) < 16 := by omega
              have hq0 : (0 : Int) ≤ (q : Int) := by omega
              have h1 := HH.out.at (k := q) (by rw [HLH.out]; exact hlt)
              have h2 := HH.out.lt
              have s1 := HP.out.S.at (k := q) (by rw [HP.out.ls]; exact hlt)
              have s2 := HP.out.S.fr q
              have s3 := HP.out.S.lt
              have HST := Lib.hid (take_step false HLH.out hlt)
              have HPS := Lib.hid (HP.out.setS q (h.getD q false))
              dsimp only at s1 HPS
              rw [← HST.out] at HPS
              have HHS := Lib.hid (set_block_ne (i := q) HH.out (Nat.ne_of_lt hhs) (.bool (h.getD q false)))
              generalize h.getD q false = hv at *
              generalize (List.take q h ++ List.replicate (16 - q) false).getD q false = sv at *
              go_wp2_with fail
              go_roundg (16 - (q + 1))
              case measure => omega
              case rel => exact ⟨q + 1, by omega, rfl, by go_num, HPS, HHS, Lib.hid (HB.out.setCell hgsw _)⟩
            · obtain rfl : q = 16 := by omega
              have HP8 : Hid (Po2 lo ga gb cb gs o1 o2 bx s0 _) := Lib.hid (by have := HP.out; rw [List.take_of_length_le (by rw [HLH.out]; exact Nat.le_refl _), Nat.sub_self, List.replicate_zero, List.append_nil, ← HS0.out] at this; exact this)
              have HB8 := HB
              have hks : s0.k ≤ N := by rw [HS0.out]; exact hk
              have hk0 : k = s0.k := by rw [HS0.out]
              rw [hk0]
              clear HP HH HB hlt HS0 HLH hk0
              go_wp2_with fail
              go_loopg [12, 19] writes.length (fun gh_ s12 s19 wr => ∃ (i : Nat) (s : P2S), i ≤ writes.length ∧ writes.length - i ≤ gh_ ∧ s12 = .int .i64 s.k ∧ s19 = .int .i64 i ∧ s.k ≤ N ∧ Hid (Po2 lo ga gb cb gs o1 o2 bx s wr) ∧ Hid (Below w.heap.size w wr) ∧ Hid (play2 N writes s0 = play2 N (writes.drop i) s))
              case atStart => exact ⟨0, s0, Nat.zero_le _, by omega, rfl, rfl, hks, HP8, HB8, Lib.hid rfl⟩
              case round =>
                clear HP8 HB8
                obtain ⟨i, s, hi, hgh, rfl, rfl, hk, HQ, HB, HP⟩ := hrel
                by_cases hlt : i < writes.length
                · obtain ⟨b, off, cs, rfl, hbb, hcs, hcell, rfl, x1, x2, x3⟩ := HCW.out i hlt
                  have HR0 : Hid (∀ w2 : World, Below w.heap.size w w2 → w2.cell? ⟨b, off + i * 3, none⟩ = some (.int .i64 writes[i].1)) := Lib.hid (fun w2 hw => (same_below hw b _ hbb).trans (hcell 0 (by simp)))
                  have r0 := HR0.out wr HB.out
                  have HR1 : Hid (∀ w2 : World, Below w.heap.size w w2 → w2.cell? ⟨b, off + i * 3 + 1, none⟩ = some (.int .i64 writes[i].2.1)) := Lib.hid (fun w2 hw => (same_below hw b _ hbb).trans (hcell 1 (by simp)))
                  have r1 := HR1.out wr HB.out
                  have HR2 : Hid (∀ w2 : World, Below w.heap.size w w2 → w2.cell? ⟨b, off + i * 3 + 2, none⟩ = some (.int .i64 writes[i].2.2)) := Lib.hid (fun w2 hw => (same_below hw b _ hbb).trans (hcell 2 (by simp)))
                  have r2 := HR2.out wr HB.out
                  have HDR := Lib.hid (List.drop_eq_getElem_cons hlt)
                  have hk1 : (i : Int) < (writes.length : Int) := by omega
                  clear hcell hcs
                  generalize writes[i] = x at *
                  obtain ⟨at_, v, z⟩ := x
                  simp only at r0 r1 r2 HR0 HR1 HR2 x1 x2 x3 HDR
                  clear HR0 HR2
                  by_cases hout : at_ < 0 ∨ 255 < at_
                  · have HI := Lib.hid (in_no at_ 0 255 wr (by omega))
                    have HE := Lib.hid (show o = ([], [], 0, 2) from by rw [HO2.out, HP.out, HDR.out, play2_out hout])
                    clear hout
                    go_wp2_with fail
                    refine HI.out.mono ?_
                    rintro e w5 ⟨rfl, rfl⟩
                    go_wp2_with fail
                    refine bodyPost_ret (v := .tuple #[.slice none 0 0, .slice none 0 0, .int .i64 0, .int .i64 2]) (by simp [results, Try.results6, go_sem]) rfl (by rw [HE.out]; exact PlayPost.no HB.out)
                  · obtain ⟨p, j, hp, hj, rfl⟩ : ∃ p j : Nat, p < 16 ∧ j < 16 ∧ at_ = ((16 * p + j : Nat) : Int) := ⟨at_.toNat / 16, at_.toNat % 16, by omega, by omega, by omega⟩
                    have HI := Lib.hid (in_yes ((16 * p + j : Nat) : Int) 0 255 wr (by omega))
                    have HP1 := Lib.hid (fun hw => HP.out.trans (by rw [HDR.out, play2_old (N := N) (v := v) (z := z) (l := writes.drop (i + 1)) (s := s) hp hj hw]))
                    have HP2 := Lib.hid (fun hw hkn => HP.out.trans (by rw [HDR.out, play2_new (N := N) (v := v) (z := z) (l := writes.drop (i + 1)) (s := s) hp hj hw hkn]))
                    have HP3 := Lib.hid (fun hw hkn => HP.out.trans (by rw [HDR.out, play2_full (N := N) (v := v) (z := z) (l := writes.drop (i + 1)) (s := s) hp hj hw hkn]))
                    have q1 := fun who hs => put_same (s := s) (who := who) (p := p) (j := j) (v := v) hj hs
                    have q2 := fun hs => put_own1 (s := s) (p := p) (j := j) (v := v) hj hs
                    have q3 := fun hs => put_own2 (s := s) (p := p) (j := j) (v := v) hj hs
                    have q4 := fun who hs => put_both (s := s) (who := who) (p := p) (j := j) (v := v) hj hs
                    have HQQ := Lib.hid (And.intro q1 (And.intro q2 (And.intro q3 q4)))
                    clear q1 q2 q3 q4
                    obtain ⟨m, hm⟩ : ∃ m : Nat, m = 16 * p + j := ⟨_, rfl⟩
                    rw [← hm] at HI r0
                    simp only [← hm] at HP1 HP2 HQQ
                    have hd : (m : Int).tdiv 16 = (p : Int) := by rw [Int.tdiv_eq_ediv_of_nonneg (by omega)]; omega
                    have hm0 : (0 : Int) ≤ (m : Int) := by omega
                    have hm1 : (m : Int) < 256 := by omega
                    have hp1 : (p : Int) < 16 := by omega
                    have hp0 : (0 : Int) ≤ (p : Int) := by omega
                    have wp_ : IntKind.i64.wrap (p : Int) = (p : Int) := IntWalk.i64_in _ (by omega)
                    have hmm : m < 256 := by omega
                    clear hm hout HP HDR
                    have s1 := HQ.out.S.at (k := p) (by rw [HQ.out.ls]; exact hp)
                    have s2 := HQ.out.S.fr p
                    have s3 := HQ.out.S.lt
                    have t1 := HQ.out.O1.at (k := p) (by rw [HQ.out.l1]; exact hp)
                    have t2 := HQ.out.O1.fr p
                    have t3 := HQ.out.O1.lt
                    have u1 := HQ.out.O2.at (k := p) (by rw [HQ.out.l2]; exact hp)
                    have u2 := HQ.out.O2.fr p
                    have u3 := HQ.out.O2.lt
                    have a1 := HQ.out.A.at (k := m) (by rw [HQ.out.la]; omega)
                    have a2 := HQ.out.A.fr m
                    have a3 := HQ.out.A.lt
                    have b1 := own_cellAt' HQ.out.B HQ.out.lb (k := m) hmm
                    have b2 := HQ.out.B.frozenAt m
                    have b3 := (HQ.out.B.lt _ rfl).2
                    have y0 : wr.cell? ⟨bx, 0, none⟩ = some (.slice (some ⟨o1, 0, none⟩) 16 16) := cell_block HQ.out.X 0
                    have y1 : wr.cell? ⟨bx, 1, none⟩ = some (.slice (some ⟨o2, 0, none⟩) 16 16) := cell_block HQ.out.X 1
                    have y3 : bx < wr.heap.size := (Array.getElem?_eq_some_iff.1 HQ.out.X).1
                    have e1 := HQ.out.n1
                    have e2 := HQ.out.n2
                    have e3 := HQ.out.n3
                    have e4 := HQ.out.X.neB HQ.out.S
                    have e5 := HQ.out.X.neB HQ.out.O1
                    have e6 := HQ.out.X.neB HQ.out.O2
                    have e7 := HQ.out.A.ne HQ.out.S
                    have e8 := HQ.out.A.ne HQ.out.O1
                    have e9 := HQ.out.A.ne HQ.out.O2
                    have f1 := HQ.out.nbB HQ.out.S
                    have f2 := HQ.out.nbB HQ.out.O1
                    have f3 := HQ.out.nbB HQ.out.O2
                    generalize s.a.getD m 0 = za at *
                    generalize s.b.getD m 0 = zb at *
                    by_cases hz : z = 0
                    · subst hz
                      have dz : decide ((0 : Int) ≠ 0) = false := by decide
                      cases hs : s.sh.getD p false with
                      | true =>
                        rw [hs] at s1
                        by_cases hkn : s.k = N
                        · have HE := Lib.hid (show o = ([], [], 0, 7) from by rw [HO2.out, HP3.out (by rw [dz]; exact wants_sh hs) hkn])
                          clear HP1 HP2 HP3 HQQ
                          have hkn1 : (s.k : Int) = (N : Int) := by omega
                          go_wp2_with fail
                          refine HI.out.mono ?_
                          rintro e w5 ⟨rfl, rfl⟩
                          go_wp2_with fail
                          all_goals first | (exfalso; omega; done) | skip
                          refine bodyPost_ret (v := .tuple #[.slice none 0 0, .slice none 0 0, .int .i64 0, .int .i64 7]) (by simp [results, Try.results6, go_sem]) rfl (by rw [HE.out]; exact PlayPost.no HB.out)
                        · have HP5 := Lib.hid (HP2.out (by rw [dz]; exact wants_sh hs) hkn)
                          rw [dz, HQQ.out.2.2.2 false hs] at HP5
                          have hkn2 : ¬ (s.k : Int) = (N : Int) := by omega
                          have HQ5 := Lib.hid ((((((HQ.out.setS p false).setO1 p true).setO2 p true).setO1 p true).setA m x2).cnt (s.k + 1))
                          simp only [List.set_set] at HQ5
                          have r9 := HR1.out _ ((((HB.out.setCell (p := ⟨gs, p, none⟩) hgsw (.bool false)).setCell (p := ⟨o1, p, none⟩) ho1w (.bool true)).setCell (p := ⟨o2, p, none⟩) ho2w (.bool true)).setCell (p := ⟨o1, p, none⟩) ho1w (.bool true))
                          clear HP1 HP2 HP3 HQQ hs
                          go_wp2_with fail
                          refine HI.out.mono ?_
                          rintro e w5 ⟨rfl, rfl⟩
                          go_wp2_with fail
                          all_goals first | (exfalso; omega; done) | skip
                          go_roundg (writes.length - (i + 1))
                          case measure => omega
                          case rel => exact ⟨i + 1, _, by omega, by omega, by go_num, by go_num, by show s.k + 1 ≤ N; omega, Lib.hid HQ5.out, Lib.hid (((((HB.out.setCell hgsw _).setCell ho1w _).setCell ho2w _).setCell ho1w _).setCell hgw _), HP5⟩
                      | false =>
                        rw [hs] at s1
                        cases ho : s.oa.getD p false with
                        | false =>
                          rw [ho] at t1
                          by_cases hkn : s.k = N
                          · have HE := Lib.hid (show o = ([], [], 0, 7) from by rw [HO2.out, HP3.out (by rw [dz]; exact wants_no hs ho) hkn])
                            clear HP1 HP2 HP3 HQQ
                            have hkn1 : (s.k : Int) = (N : Int) := by omega
                            go_wp2_with fail
                            refine HI.out.mono ?_
                            rintro e w5 ⟨rfl, rfl⟩
                            go_wp2_with fail
                            all_goals first | (exfalso; omega; done) | skip
                            refine bodyPost_ret (v := .tuple #[.slice none 0 0, .slice none 0 0, .int .i64 0, .int .i64 7]) (by simp [results, Try.results6, go_sem]) rfl (by rw [HE.out]; exact PlayPost.no HB.out)
                          · have HP5 := Lib.hid (HP2.out (by rw [dz]; exact wants_no hs ho) hkn)
                            rw [dz, HQQ.out.2.1 hs] at HP5
                            have hkn2 : ¬ (s.k : Int) = (N : Int) := by omega
                            have HQ5 := Lib.hid (((HQ.out.setO1 p true).setA m x2).cnt (s.k + 1))
                            have r9 := HR1.out _ (HB.out.setCell (p := ⟨o1, p, none⟩) ho1w (.bool true))
                            clear HP1 HP2 HP3 HQQ hs ho
                            go_wp2_with fail
                            refine HI.out.mono ?_
                            rintro e w5 ⟨rfl, rfl⟩
                            go_wp2_with fail
                            all_goals first | (exfalso; omega; done) | skip
                            go_roundg (writes.length - (i + 1))
                            case measure => omega
                            case rel => exact ⟨i + 1, _, by omega, by omega, by go_num, by go_num, by show s.k + 1 ≤ N; omega, Lib.hid HQ5.out, Lib.hid ((HB.out.setCell ho1w _).setCell hgw _), HP5⟩
                        | true =>
                          have HP5 := Lib.hid (HP1.out (by rw [dz]; exact wants_own hs ho))
                          rw [dz, HQQ.out.1 false hs] at HP5
                          rw [ho] at t1
                          simp only [Bool.false_eq_true, if_false, if_true] at HP5
                          have HQ5 := Lib.hid (HQ.out.setA m x2)
                          clear HP1 HP2 HP3 HQQ hs ho
                          go_wp2_with fail
                          refine HI.out.mono ?_
                          rintro e w5 ⟨rfl, rfl⟩
                          go_wp2_with fail
                          all_goals first | (exfalso; omega; done) | skip
                          go_roundg (writes.length - (i + 1))
                          case measure => omega
                          case rel => exact ⟨i + 1, { s with a := s.a.set m v }, by omega, by omega, rfl, by go_num, hk, Lib.hid HQ5.out, Lib.hid (HB.out.setCell hgw _), HP5⟩
                    · have dz : decide (z ≠ 0) = true := decide_eq_true hz
                      have ez : (z != 0) = true := bne_iff_ne.2 hz
                      cases hs : s.sh.getD p false with
                      | true =>
                        rw [hs] at s1
                        by_cases hkn : s.k = N
                        · have HE := Lib.hid (show o = ([], [], 0, 7) from by rw [HO2.out, HP3.out (by rw [dz]; exact wants_sh hs) hkn])
                          clear HP1 HP2 HP3 HQQ
                          have hkn1 : (s.k : Int) = (N : Int) := by omega
                          go_wp2_with fail
                          refine HI.out.mono ?_
                          rintro e w5 ⟨rfl, rfl⟩
                          go_wp2_with fail
                          all_goals first | (exfalso; omega; done) | skip
                          refine bodyPost_ret (v := .tuple #[.slice none 0 0, .slice none 0 0, .int .i64 0, .int .i64 7]) (by simp [results, Try.results6, go_sem]) rfl (by rw [HE.out]; exact PlayPost.no HB.out)
                        · have HP5 := Lib.hid (HP2.out (by rw [dz]; exact wants_sh hs) hkn)
                          rw [dz, HQQ.out.2.2.2 true hs] at HP5
                          have hkn2 : ¬ (s.k : Int) = (N : Int) := by omega
                          have HQ5 := Lib.hid ((((((HQ.out.setS p false).setO1 p true).setO2 p true).setO2 p true).setB m x2).cnt (s.k + 1))
                          simp only [List.set_set] at HQ5
                          have r9 := HR1.out _ ((((HB.out.setCell (p := ⟨gs, p, none⟩) hgsw (.bool false)).setCell (p := ⟨o1, p, none⟩) ho1w (.bool true)).setCell (p := ⟨o2, p, none⟩) ho2w (.bool true)).setCell (p := ⟨o2, p, none⟩) ho2w (.bool true))
                          clear HP1 HP2 HP3 HQQ hs
                          go_wp2_with fail
                          refine HI.out.mono ?_
                          rintro e w5 ⟨rfl, rfl⟩
                          go_wp2_with fail
                          all_goals first | (exfalso; omega; done) | skip
                          go_roundg (writes.length - (i + 1))
                          case measure => omega
                          case rel => exact ⟨i + 1, _, by omega, by omega, by go_num, by go_num, by show s.k + 1 ≤ N; omega, Lib.hid HQ5.out, Lib.hid (((((HB.out.setCell hgsw _).setCell ho1w _).setCell ho2w _).setCell ho2w _).setCell hlow _), HP5⟩
                      | false =>
                        rw [hs] at s1
                        cases ho : s.ob.getD p false with
                        | false =>
                          rw [ho] at u1
                          by_cases hkn : s.k = N
                          · have HE := Lib.hid (show o = ([], [], 0, 7) from by rw [HO2.out, HP3.out (by rw [dz]; exact wants_no hs ho) hkn])
                            clear HP1 HP2 HP3 HQQ
                            have hkn1 : (s.k : Int) = (N : Int) := by omega
                            go_wp2_with fail
                            refine HI.out.mono ?_
                            rintro e w5 ⟨rfl, rfl⟩
                            go_wp2_with fail
                            all_goals first | (exfalso; omega; done) | skip
                            refine bodyPost_ret (v := .tuple #[.slice none 0 0, .slice none 0 0, .int .i64 0, .int .i64 7]) (by simp [results, Try.results6, go_sem]) rfl (by rw [HE.out]; exact PlayPost.no HB.out)
                          · have HP5 := Lib.hid (HP2.out (by rw [dz]; exact wants_no hs ho) hkn)
                            rw [dz, HQQ.out.2.2.1 hs] at HP5
                            have hkn2 : ¬ (s.k : Int) = (N : Int) := by omega
                            have HQ5 := Lib.hid (((HQ.out.setO2 p true).setB m x2).cnt (s.k + 1))
                            have r9 := HR1.out _ (HB.out.setCell (p := ⟨o2, p, none⟩) ho2w (.bool true))
                            clear HP1 HP2 HP3 HQQ hs ho
                            go_wp2_with fail
                            refine HI.out.mono ?_
                            rintro e w5 ⟨rfl, rfl⟩
                            go_wp2_with fail
                            all_goals first | (exfalso; omega; done) | skip
                            go_roundg (writes.length - (i + 1))
                            case measure => omega
                            case rel => exact ⟨i + 1, _, by omega, by omega, by go_num, by go_num, by show s.k + 1 ≤ N; omega, Lib.hid HQ5.out, Lib.hid ((HB.out.setCell ho2w _).setCell hlow _), HP5⟩
                        | true =>
                          have HP5 := Lib.hid (HP1.out (by rw [dz]; exact wants_own hs ho))
                          rw [dz, HQQ.out.1 true hs] at HP5
                          rw [ho] at u1
                          simp only [Bool.false_eq_true, if_false, if_true] at HP5
                          have HQ5 := Lib.hid (HQ.out.setB m x2)
                          clear HP1 HP2 HP3 HQQ hs ho
                          go_wp2_with fail
                          refine HI.out.mono ?_
                          rintro e w5 ⟨rfl, rfl⟩
                          go_wp2_with fail
                          all_goals first | (exfalso; omega; done) | skip
                          go_roundg (writes.length - (i + 1))
                          case measure => omega
                          case rel => exact ⟨i + 1, { s with b := s.b.set m v }, by omega, by omega, rfl, by go_num, hk, Lib.hid HQ5.out, Lib.hid (HB.out.setCell hlow _), HP5⟩
                · have HE := Lib.hid (show o = (s.a, s.b, (s.k : Int), 0) from by rw [HO2.out, HP.out, List.drop_eq_nil_of_le (by omega)]; rfl)
                  have HIA := Lib.hid (show Ints wr.heap.size wr (.slice (some ⟨ga, 0, none⟩) 256 256) s.a from by have := ints_of_block (t := 3) (cap := 256) (zs := s.a) HQ.out.A (by rw [HQ.out.la]; omega) (by rw [HQ.out.la]; omega) (fun i hi => by simp [hi]) HQ.out.va; rwa [HQ.out.la] at this)
                  have HIB := Lib.hid (show Ints wr.heap.size wr (.slice (some ⟨gb, 0, none⟩) 256 cb) s.b from by have := ints_of_owns (zs := s.b) (by rw [HQ.out.lb]; exact HQ.out.B) (by rw [HQ.out.lb]; omega) HQ.out.vb; exact this)
                  have HFIN := Lib.hid (show PlayPost o w (.returned (.tuple #[.slice (some ⟨ga, 0, none⟩) 256 256, .slice (some ⟨gb, 0, none⟩) 256 cb, .int .i64 (s.k : Int), .int .i64 0])) wr from by rw [HE.out]; exact ⟨_, _, rfl, HIA.out, HIB.out, HB.out⟩)
                  obtain ⟨kz, hkz⟩ : ∃ kz : Int, kz = (s.k : Int) := ⟨_, rfl⟩
                  rw [← hkz] at HFIN ⊢
                  clear hkz hk HQ HB HP HE HIA HIB HO2 HCW
                  have hie : ¬ (i : Int) < (writes.length : Int) := by omega
                  go_wp2_with fail
                  all_goals first | (exfalso; omega; done) | skip
                  refine bodyPost_ret (v := .tuple #[.slice (some ⟨ga, 0, none⟩) 256 256, .slice (some ⟨gb, 0, none⟩) 256 cb, .int .i64 kz, .int .i64 0]) (by simp [results, Try.results6, go_sem]) rfl HFIN.out
end Go.Proofs.Ytpmdlmgmfggioaa
