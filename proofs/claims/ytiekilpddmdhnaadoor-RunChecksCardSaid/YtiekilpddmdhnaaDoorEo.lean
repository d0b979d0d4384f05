/- The contract of evlog.Encode where the events are such that may be. No condition beyond the readings and the table's cells. -/
import Derived.Test.YtiekilpddmdhnaaDoorEn
import Derived.Deep.CutBlock
import Derived.Deep.DeepCutAuto
import Derived.Deep.LoopGhost
namespace Go.Proofs.YtiekilpddmdhnaaDoor
open Go Go.RowKit Go.ChangeShapes Go.WideShapes Go.Deep
set_option linter.unusedVariables false

theorem bytes_of_own {w : World} {base c : Nat} {a : Option Addr} {bs : List UInt8} (h : w.ownsRow base 5 1 (.slice a bs.length c) bs.length (bv bs)) (hl : bs.length ≤ 100000000) : BytesR w.heap.size w (.slice a bs.length c) bs :=
  sl1_of_owns h (by omega) (fun i hi hv => by unfold ByteV; simp [bv])

set_option maxHeartbeats 16000000 in
set_option maxRecDepth 100000 in
theorem encode_good (v : Value) (l : List Ev) (w : World) (hf : EvsR w.heap.size w v l) (ht : Tab w) (hc : EvRes l 0) : Calls Tryd.prog 40 #[v] w fun e w' => ∃ a c, e = .returned (.tuple #[.slice a (encE l).length c, .int .i64 0]) ∧ w'.ownsRow w.heap.size 5 1 (.slice a (encE l).length c) (encE l).length (bv (encE l)) ∧ Below w.heap.size w w' := by
  have HF := Lib.hid hf
  have HT := Lib.hid ht
  have HR := Lib.hid hc
  obtain ⟨hok, h1000⟩ := hc.ok
  have HO := Lib.hid hok
  have hpl := payE_le hok h1000
  obtain ⟨ad, cap, rfl, hl, hl2, hcl⟩ := id hf
  have HC := Lib.hid hcl
  clear hf ht hc hok hcl
  go_enter Tryd.func40, Tryd.ntmps40
  go_wp2_with fail
  refine (evcheck_any _ l _ HF.out HT.out).mono ?_
  rintro e w1 ⟨d, hd, rfl, hb1⟩
  obtain rfl := hd.det HR.out
  clear hd HR
  have HB1 := Lib.hid hb1
  have hlen0 : (sevens l.length).length ≤ 10 := sevens_le10 (by omega)
  have HN := Lib.hid (number_any w.heap.size (.slice none 0 0) [] l.length w1 (World.ownsRow_nil _ _ _ _) hb1.size (by omega) (by simp; omega))
  simp only [List.nil_append] at HN
  clear hb1
  generalize hs0 : sevens l.length = s0 at *
  have HS0 := Lib.hid hs0
  clear hs0
  go_wp2_with fail
  refine HN.out.mono ?_
  rintro e w2 ⟨a2, c2, rfl, hown2, hgrow2, _⟩
  have HO2 := Lib.hid hown2
  have HB2 := Lib.hid (HB1.out.grown hgrow2 HB1.out.size (fun k hk => by simp [Value.ownBlock] at hk))
  clear hown2 hgrow2 HN
  go_wp2
  go_loopw [5, 6, 23] (fun s5 s6 s23 wr => ∃ (k : Nat) (a : Option Addr) (c : Nat), k ≤ l.length ∧ s23 = .int .i64 k ∧ s6 = .int .i64 (lastAt 0 (l.take k)) ∧ s5 = .slice a (s0 ++ evsE 0 (l.take k)).length c ∧ Hid (wr.ownsRow w.heap.size 5 1 (.slice a (s0 ++ evsE 0 (l.take k)).length c) (s0 ++ evsE 0 (l.take k)).length (bv (s0 ++ evsE 0 (l.take k)))) ∧ Hid (Below w.heap.size w wr)) (fun _ _ s23 _ => l.length - (intOf s23).toNat)
  case atStart => exact ⟨0, a2, c2, Nat.zero_le _, rfl, rfl, by simp [evsE], Lib.hid (by simpa [evsE] using HO2.out), HB2⟩
  case round =>
    obtain ⟨k, a, c, hk, rfl, rfl, rfl, OW, HB⟩ := hrel
    by_cases hlt : k < l.length
    · obtain ⟨e1, e2, e3, e4, e5, e6, e7, e8⟩ := ev_at HO.out hlt
      have hle := evE_le HO.out hlt
      have hst := evsE_step hlt
      have hlat := lastAt_take (l := l) (k := k) (by omega)
      have hbl := evsE_le HO.out k (by omega)
      have hdt := dataE_tail e6
      obtain ⟨b, off, cs, ha, hbb, hcs, hcell, dd, cd, hcs2, i1, i2, hint⟩ := HC.out k hlt
      subst ha hcs2
      generalize hBk : s0 ++ evsE 0 (l.take k) = Bk at *
      generalize hat : lastAt 0 (l.take k) = at0 at *
      have r0 : wr.cell? ⟨b, off + k * 3, none⟩ = some (.int .i64 l[k].at_) := (same_below HB.out _ _ hbb).trans (hcell 0 (by simp))
      have r1 : wr.cell? ⟨b, off + k * 3 + 1, none⟩ = some (.int .i64 l[k].kind) := (same_below HB.out _ _ hbb).trans (hcell 1 (by simp))
      have r2 : wr.cell? ⟨b, off + k * 3 + 2, none⟩ = some (.slice dd l[k].data.length cd) := (same_below HB.out _ _ hbb).trans (hcell 2 (by simp))
      have HINT := Lib.hid hint
      clear hcell hint i1 i2
      generalize l[k] = x at *
      obtain ⟨xat, xkd, xda⟩ := x
      simp only at e1 e2 e3 e4 e5 e6 e7 e8 r0 r1 r2 HINT hle hst hlat hdt
      have E6 := Lib.hid e6
      clear e6
      have hN : (((4 * (xat - at0) + xkd).toNat : Nat) : Int) = (xat - at0) * 4 + xkd := by omega
      have hBl : Bk.length ≤ 400000 := by rw [← hBk, List.length_append]; omega
      have hnum := fun (W : World) (ho : W.ownsRow w.heap.size 5 1 (.slice a Bk.length c) Bk.length (bv Bk)) (hw : w.heap.size ≤ W.heap.size) => number_any w.heap.size (.slice a Bk.length c) Bk (4 * (xat - at0) + xkd).toNat W ho hw (by omega) (by rw [List.length_append]; have : (sevens (4 * (xat - at0) + xkd).toNat).length ≤ 10 := sevens_le10 (by omega); omega)
      rw [hN] at hnum
      have HNU := Lib.hid hnum
      have hs1 : (sevens (4 * (xat - at0) + xkd).toNat).length ≤ 10 := sevens_le10 (by omega)
      have hev : evE at0 ⟨xat, xkd, xda⟩ = sevens (4 * (xat - at0) + xkd).toNat ++ tailE xkd 0 xda := by unfold evE; rw [hdt]
      clear hnum hN
      generalize sevens (4 * (xat - at0) + xkd).toNat = s1 at *
      have hwb := HB.out.size
      go_wp2_with fail
      refine (HNU.out _ (OW.out.alloc _) (by simp; omega)).mono ?_
      rintro e w3 hp3
      obtain ⟨a3, c3, rfl, hst3⟩ := BSt.step (g := wr.heap.size) (cells := #[.int .i64 xat, .int .i64 xkd, .slice dd xda.length cd]) ⟨OW.out.alloc _, alloc_at rfl, HB.out.alloc hwb _⟩ hp3
      have q0 : w3.cell? ⟨wr.heap.size, 0, none⟩ = some (.int .i64 xat) := cell_block hst3.x 0
      have lg := hst3.lt
      have HST := Lib.hid hst3
      clear hst3 hp3 HNU r0 r1 r2
      generalize hg : wr.heap.size = g at *
      have hgw : w.heap.size ≤ g := hwb
      clear hg OW HB
      have htot : (Bk ++ (s1 ++ tailE xkd 0 xda)).length ≤ 400000 := by
        rw [List.length_append, ← hev, ← hBk, List.length_append]
        omega
      go_wp2
      have hx16 : xda.length ≤ 16 := by have h := E6.out; unfold evW at h; split at h; omega; split at h <;> omega
      go_loopg [5, 9, 10] xda.length (fun gh s5 s9 s10 wq => ∃ (i : Nat) (last : Int) (B' : List UInt8) (a : Option Addr) (c : Nat), i ≤ xda.length ∧ gh = xda.length - i ∧ s10 = .int .i64 i ∧ s9 = .int .i64 last ∧ Word last ∧ s5 = .slice a B'.length c ∧ Hid (BSt w g #[.int .i64 xat, .int .i64 xkd, .slice dd xda.length cd] a c B' wq) ∧ Hid (B' ++ tailE xkd last (xda.drop i) = Bk ++ (s1 ++ tailE xkd 0 xda)))
      case atStart => exact ⟨0, 0, Bk ++ s1, a3, c3, Nat.zero_le _, by omega, rfl, rfl, by unfold Word; omega, by rw [List.length_append], HST, Lib.hid (by simp)⟩
      case round =>
        obtain ⟨i, last, B', a4, c4, hi, rfl, rfl, rfl, hwl, rfl, HS, HE⟩ := hrel
        have x0 : wr.cell? ⟨g, 2, none⟩ = some (.slice dd xda.length cd) := cell_block HS.out.x 2
        have x1 : wr.cell? ⟨g, 1, none⟩ = some (.int .i64 xkd) := cell_block HS.out.x 1
        have lgq := HS.out.lt
        by_cases hil : i < xda.length
        · obtain ⟨bb, oo, rfl, hbb2, hcells⟩ := ints_cells HINT.out (by omega)
          have hwz : ∀ j (hj : j < xda.length), Word xda[j] := fun j hj => any_word e5 _ (List.getElem_mem hj)
          have HCL := Lib.hid hcells
          clear hcells
          -- INNER
          go_upto_block 4 with fail
          go_cut [11] from 39 to 87 (fun s11 wq => ∃ q : Nat, s11 = .int .i64 q ∧ i < q ∧ q ≤ xda.length ∧ Hid (BSt w g #[.int .i64 xat, .int .i64 xkd, .slice (some ⟨bb, oo, none⟩) xda.length cd] a4 c4 B' wq) ∧ Hid (RunTo xda i q))
          case first =>
            clear E6 HC hle hbl hlat hst hev htot HE
            go_wp2_with fail
            go_loopg [11] (xda.length - i) (fun gh s11 wq => ∃ q : Nat, i ≤ q ∧ q ≤ xda.length ∧ gh = xda.length - q ∧ s11 = .int .i64 q ∧ Hid (BSt w g #[.int .i64 xat, .int .i64 xkd, .slice (some ⟨bb, oo, none⟩) xda.length cd] a4 c4 B' wq) ∧ Hid (∀ j (hj : j < xda.length), i ≤ j → j < q → xda[j] = xda[i]))
            case atStart => exact ⟨i, Nat.le_refl _, by omega, rfl, rfl, HS, Lib.hid fun j hj h1 h2 => by omega⟩
            case round =>
              obtain ⟨q, hq1, hq2, rfl, rfl, HS1, A⟩ := hrel
              have z0 : wr.cell? ⟨g, 2, none⟩ = some (.slice (some ⟨bb, oo, none⟩) xda.length cd) := cell_block HS1.out.x 2
              have hgw1 := HS1.out.lt
              have hxl := hx16
              have hq0 : (0 : Int) ≤ (q : Int) := by omega
              have hi0' : (0 : Int) ≤ (i : Int) := by omega
              have hi1' : (i : Int) < (xda.length : Int) := by omega
              have ci : wr.cell? ⟨bb, oo + i, none⟩ = some (.int .i64 xda[i]) := (same_below HS1.out.b _ _ hbb2).trans (HCL.out i hil)
              by_cases hqq : q < xda.length
              · have hq3 : (q : Int) < (xda.length : Int) := by omega
                have cq : wr.cell? ⟨bb, oo + q, none⟩ = some (.int .i64 xda[q]) := (same_below HS1.out.b _ _ hbb2).trans (HCL.out q hqq)
                by_cases heq : xda[q] = xda[i]
                · have hgq : (xda[q] == xda[i]) = true := by rw [beq_iff_eq]; exact heq
                  have A2 := Lib.hid (run_go A.out hqq heq)
                  clear heq
                  generalize xda[q] = zq at *
                  generalize xda[i] = zi at *
                  go_wp2_with fail
                  go_quiet (fail)
                  go_wp2
                  go_roundg (xda.length - (q + 1))
                  case measure => omega
                  case rel => exact ⟨q + 1, by omega, by omega, rfl, by go_num, Lib.hid (HS1.out.drewN _), A2⟩
                · have hgq : (xda[q] == xda[i]) = false := by rw [beq_eq_false_iff_ne]; exact heq
                  have HR := Lib.hid (run_end hil hq1 A.out hqq heq)
                  have hiq := HR.out.choose_spec.1
                  clear heq
                  generalize xda[q] = zq at *
                  generalize xda[i] = zi at *
                  go_wp2_with fail
                  go_quiet (fail)
                  go_wp2_with fail
                  go_meet
                  exact ⟨q, rfl, hiq, hq2, Lib.hid (HS1.out.drewN _), HR⟩
              · have hq3 : ¬ (q : Int) < (xda.length : Int) := by omega
                have hgq : decide ((q : Int) < (xda.length : Int)) = false := by rw [decide_eq_false_iff_not]; exact hq3
                obtain rfl : q = xda.length := by omega
                have HR := Lib.hid (run_all hil A.out)
                clear ci
                go_wp2_with fail
                go_quiet (fail)
                go_wp2_with fail
                go_meet
                exact ⟨_, rfl, hil, hq2, Lib.hid (HS1.out.drewN _), HR⟩
          case rest =>
            obtain ⟨q, rfl, hiq, hq2, HC2, HR⟩ := hcut
            have v0 : wc.cell? ⟨g, 2, none⟩ = some (.slice (some ⟨bb, oo, none⟩) xda.length cd) := cell_block HC2.out.x 2
            have v1 : wc.cell? ⟨g, 1, none⟩ = some (.int .i64 xkd) := cell_block HC2.out.x 1
            have lgc := HC2.out.lt
            obtain ⟨hkk, htl⟩ := HR.out.tail (last := last) E6.out e1 e2 hil
            have hz := hwz i hil
            have hE2 := HE.out
            rw [htl] at hE2
            have hci := HCL.out i hil
            have v2 : wc.cell? ⟨bb, oo + i, none⟩ = some (.int .i64 xda[i]) := (same_below HC2.out.b _ _ hbb2).trans hci
            have hi0 : (0 : Int) ≤ (i : Int) := by omega
            have hi1 : (i : Int) < (xda.length : Int) := by omega
            generalize xda[i] = zi at *
            have hl2 : (B' ++ ((if xkd = 2 then sevens (q - i) else []) ++ (sevens (zig (zi - last)) ++ tailE xkd zi (xda.drop q)))).length ≤ 400000 := by rw [hE2]; exact htot
            rw [List.length_append, List.length_append, List.length_append] at hl2
            unfold Word at hz hwl
            have HE2 := Lib.hid hE2
            clear hE2 htl E6 HR HC
            rcases hkk with rfl | rfl
            · rw [if_pos rfl] at HE2 hl2
              have hnq : ((q - i : Nat) : Int) = (q : Int) - (i : Int) := by omega
              have hnum := fun (W : World) (ho : W.ownsRow w.heap.size 5 1 (.slice a4 B'.length c4) B'.length (bv B')) (hw : w.heap.size ≤ W.heap.size) => number_any w.heap.size (.slice a4 B'.length c4) B' (q - i) W ho hw (by omega) (by rw [List.length_append]; omega)
              rw [hnq] at hnum
              have HNU := Lib.hid hnum
              have hsig := fun (a : Option Addr) (c : Nat) (W : World) (ho : W.ownsRow w.heap.size 5 1 (.slice a (B' ++ sevens (q - i)).length c) (B' ++ sevens (q - i)).length (bv (B' ++ sevens (q - i)))) (hw : w.heap.size ≤ W.heap.size) => signed_any w.heap.size (.slice a (B' ++ sevens (q - i)).length c) (B' ++ sevens (q - i)) (zi - last) W ho hw (by omega) (by rw [List.length_append, List.length_append]; omega)
              have HSG := Lib.hid hsig
              clear hnum hsig hnq
              generalize hB5 : B' ++ sevens (q - i) = B5 at *
              generalize hB6 : B5 ++ sevens (zig (zi - last)) = B6 at *
              go_wp2_with fail
              refine (HNU.out _ HC2.out.o (HC2.out.b.size)).mono ?_
              rintro e w5 hp5
              obtain ⟨a5, c5, rfl, hst5⟩ := BSt.step HC2.out hp5
              have y0 : w5.cell? ⟨g, 2, none⟩ = some (.slice (some ⟨bb, oo, none⟩) xda.length cd) := cell_block hst5.x 2
              have y1 : w5.cell? ⟨bb, oo + i, none⟩ = some (.int .i64 zi) := (same_below hst5.b _ _ hbb2).trans hci
              have HS5 := Lib.hid hst5
              clear hst5 hp5
              go_wp2_with fail
              refine (HSG.out _ _ _ HS5.out.o (HS5.out.b.size)).mono ?_
              rintro e w6 hp6
              obtain ⟨a6, c6, rfl, hst6⟩ := BSt.step HS5.out hp6
              have u0 : w6.cell? ⟨g, 2, none⟩ = some (.slice (some ⟨bb, oo, none⟩) xda.length cd) := cell_block hst6.x 2
              have u1 : w6.cell? ⟨bb, oo + i, none⟩ = some (.int .i64 zi) := (same_below hst6.b _ _ hbb2).trans hci
              have HS6 := Lib.hid hst6
              clear hst6 hp6
              go_wp2
              go_roundg (xda.length - q)
              case measure => omega
              case rel => exact ⟨q, zi, B6, a6, c6, by omega, rfl, rfl, rfl, hz, rfl, HS6, Lib.hid (by rw [← HE2.out, ← hB6, ← hB5]; simp)⟩
            · rw [if_neg (by omega)] at HE2 hl2
              have hsig := fun (W : World) (ho : W.ownsRow w.heap.size 5 1 (.slice a4 B'.length c4) B'.length (bv B')) (hw : w.heap.size ≤ W.heap.size) => signed_any w.heap.size (.slice a4 B'.length c4) B' (zi - last) W ho hw (by omega) (by rw [List.length_append]; omega)
              have HSG := Lib.hid hsig
              clear hsig
              generalize hB6 : B' ++ sevens (zig (zi - last)) = B6 at *
              go_wp2_with fail
              refine (HSG.out _ HC2.out.o (HC2.out.b.size)).mono ?_
              rintro e w6 hp6
              obtain ⟨a6, c6, rfl, hst6⟩ := BSt.step HC2.out hp6
              have u0 : w6.cell? ⟨g, 2, none⟩ = some (.slice (some ⟨bb, oo, none⟩) xda.length cd) := cell_block hst6.x 2
              have u1 : w6.cell? ⟨bb, oo + i, none⟩ = some (.int .i64 zi) := (same_below hst6.b _ _ hbb2).trans hci
              have HS6 := Lib.hid hst6
              clear hst6 hp6
              go_wp2
              go_roundg (xda.length - q)
              case measure => omega
              case rel => exact ⟨q, zi, B6, a6, c6, by omega, rfl, rfl, rfl, hz, rfl, HS6, Lib.hid (by rw [← HE2.out, ← hB6]; simp)⟩
        · obtain rfl : i = xda.length := by omega
          have hfin : B' = Bk ++ evE at0 ⟨xat, xkd, xda⟩ := by
            have h := HE.out
            rw [List.drop_length] at h
            have h0 : tailE xkd last [] = [] := by unfold tailE; split; rfl; split <;> rfl
            rw [h0, List.append_nil] at h
            rw [hev]; exact h
          subst hfin
          go_wp2
          go_roundw
          case rel => exact ⟨k + 1, a4, c4, by omega, by go_num, by rw [hlat], by rw [hst, ← List.append_assoc, hBk], by rw [hst, ← List.append_assoc, hBk]; exact Lib.hid HS.out.o, Lib.hid HS.out.b⟩
          case measure => simp [intOf]; omega
    · obtain rfl : k = l.length := by omega
      have hp0 : s0 ++ evsE 0 (l.take l.length) = payE l := by rw [List.take_length]; unfold payE; rw [HS0.out]
      have hen : encE l = s0 ++ evsE 0 (l.take l.length) ++ sumB (s0 ++ evsE 0 (l.take l.length)) := by unfold encE; rw [hp0]
      rw [← hp0] at hpl
      generalize s0 ++ evsE 0 (l.take l.length) = Bk at *
      have HEN := Lib.hid hen
      have HSM := Lib.hid (sum_any _ Bk wr (bytes_of_own OW.out (by omega)))
      obtain ⟨hx, hy⟩ := sumS_lt Bk 1 0 (by decide) (by decide)
      change sum1 Bk < 65521 at hx
      change sum2 Bk < 65521 at hy
      have HSB := Lib.hid (show sumB Bk = [UInt8.ofNat (sum2 Bk / 256), UInt8.ofNat (sum2 Bk % 256), UInt8.ofNat (sum1 Bk / 256), UInt8.ofNat (sum1 Bk % 256)] from rfl)
      generalize sum1 Bk = x at *
      generalize sum2 Bk = y at *
      clear hp0 hen
      go_wp2_with fail
      refine HSM.out.mono ?_
      rintro e w4 ⟨rfl, rfl⟩
      obtain ⟨i0, hi0, hz0, hz1, hz2⟩ := info_parts info_u8
      obtain ⟨v1, hv1⟩ : ∃ v : Int, v = ((y : Int) * 65536 + (x : Int)) / 16777216 := ⟨_, rfl⟩
      obtain ⟨v2, hv2⟩ : ∃ v : Int, v = ((y : Int) * 65536 + (x : Int)) / 65536 % 256 := ⟨_, rfl⟩
      obtain ⟨v3, hv3⟩ : ∃ v : Int, v = ((y : Int) * 65536 + (x : Int)) / 256 % 256 := ⟨_, rfl⟩
      obtain ⟨v4, hv4⟩ : ∃ v : Int, v = ((y : Int) * 65536 + (x : Int)) % 256 := ⟨_, rfl⟩
      have c1 : ((UInt8.ofNat (y / 256)).toNat : Int) = v1 := by rw [u8_nat (by omega)]; omega
      have c2 : ((UInt8.ofNat (y % 256)).toNat : Int) = v2 := by rw [u8_nat (by omega)]; omega
      have c3 : ((UInt8.ofNat (x / 256)).toNat : Int) = v3 := by rw [u8_nat (by omega)]; omega
      have c4 : ((UInt8.ofNat (x % 256)).toNat : Int) = v4 := by rw [u8_nat (by omega)]; omega
      have hbv : bv (Bk ++ sumB Bk) = bv Bk ++ [.int .u8 v1, .int .u8 v2, .int .u8 v3, .int .u8 v4] := by rw [HSB.out, bv_app]; simp only [bv, List.map_cons, List.map_nil, c1, c2, c3, c4]
      have hln : (Bk ++ sumB Bk).length = Bk.length + 4 := by rw [HSB.out, List.length_append]; rfl
      have HV := Lib.hid hbv
      have HL := Lib.hid hln
      clear hbv hln c1 c2 c3 c4
      have hwb := HB.out.size
      go_wp2_with (at_builtin; go_loud (refine wpList_append_lies _ rfl (.tmp 91) (.tmp 103) 22 rfl w.heap.size 5 i0 (.int .u8 0) 1 1 Tryd.underlying22 hi0 hz0 hz1 hz2 rfl (by decide) (.slice a Bk.length c) Bk.length _ (by rfl) (OW.out.alloc _) ⟨wr.heap.size, 0, none⟩ 4 4 [.int .u8 v1, .int .u8 v2, .int .u8 v3, .int .u8 v4] (by rfl) rfl (by rw [hv1, hv2, hv3, hv4]; exact World.news_of_block (heap_alloc_new wr _)) (by simp [Value.oneCell']) (by omega) (by unfold maxLen; omega) (by omega) (by simp; omega) _ rfl ?_); intro g4 cp4 w4 hown4 hgrow4 hat4 hlt4)
      have hB2 := below_grown (HB.out.alloc hwb _) (OW.out.alloc _) hgrow4 (by simp; omega) (Nat.le_refl _)
      have HO4 := Lib.hid hown4
      clear hown4 hgrow4 hat4
      go_ret2
      rw [HEN.out]
      refine ⟨some ⟨g4, 0, none⟩, cp4, ?_, ?_, hB2⟩
      · rw [HL.out]; rfl
      · rw [HL.out, HV.out]; exact HO4.out
end Go.Proofs.YtiekilpddmdhnaaDoor
