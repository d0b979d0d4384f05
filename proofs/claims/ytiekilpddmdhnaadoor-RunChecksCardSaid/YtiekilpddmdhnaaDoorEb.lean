/- The contract of the reference's EventBytes. No condition beyond the readings. -/
import Derived.Test.YtiekilpddmdhnaaDoorEo
import Derived.Deep.RegionLaw
import Derived.BigQuiet
namespace Go.Proofs.YtiekilpddmdhnaaDoor
open Go Go.RowKit Go.ChangeShapes Go.WideShapes Go.Deep
set_option linter.unusedVariables false

set_option maxHeartbeats 1000000 in
theorem bytes_bad (v : Value) (l : List Ev) (w : World) (hf : EvsR w.heap.size w v l) (c : Int) (hc : EvRes l c) (h0 : c ≠ 0) : Calls Tryd.prog 46 #[v] w fun e w' => e = .returned (.tuple #[.slice none 0 0, .int .i64 c]) ∧ Below w.heap.size w w' := by
  have HF := Lib.hid hf
  have HR := Lib.hid hc
  have hb : (c != 0) = true := by rw [bne_iff_ne]; exact h0
  clear hf hc
  go_enter Tryd.func46, Tryd.ntmps46
  go_wp2_with fail
  refine (evfault_any _ l _ HF.out).mono ?_
  rintro e w1 ⟨d, hd, rfl, hb1⟩
  obtain rfl := hd.det HR.out
  clear hd HR
  go_wp2
  go_ret2
  exact ⟨rfl, hb1⟩

/-- The bytes that are written so far. -/
structure RSt (w : World) (a : Option Addr) (c : Nat) (bs : List UInt8) (wr : World) : Prop where
  o : wr.ownsRow w.heap.size 5 1 (.slice a bs.length c) bs.length (bv bs)
  b : Below w.heap.size w wr
theorem RSt.drewN {w wr : World} {c : Nat} {a : Option Addr} {bs : List UInt8} (h : RSt w a c bs wr) (n : Nat) : RSt w a c bs (wr.drewN n) := ⟨h.o, below_drewN h.b n⟩
theorem RSt.drew {w wr : World} {c : Nat} {a : Option Addr} {bs : List UInt8} (h : RSt w a c bs wr) : RSt w a c bs wr.drew := h.drewN 1
theorem RSt.call {w wr w1 : World} {c : Nat} {a : Option Addr} {bs r : List UInt8} {e : Ending} (h : RSt w a c bs wr) (hr : r.length ≤ 1000000) (hp : NewB wr r e w1) : ∃ a1 c1, e = .returned (.slice a1 r.length c1) ∧ RSt w a c bs w1 ∧ SlV 100000000 w1.heap.size w1 (.slice a1 r.length c1) (bv r) := by
  obtain ⟨a1, c1, rfl, ho, hb⟩ := hp
  exact ⟨a1, c1, rfl, ⟨own_below h.o hb (Nat.le_refl _), h.b.trans (hb.mono h.b.size)⟩, NewB.slv ho (by omega)⟩
theorem wpList_app {w wr : World} {a : Option Addr} {c : Nat} {bs r bs2 : List UInt8} {ops : Array Oper} {rest : List Oper} {o : Oper} {act : Act} {Q : Exit → Act → World → Prop} (h : RSt w a c bs wr) (hgd : o.guard = none) (s x : Operand) (ho : o.op = .call { callee := .builtin .append, args := #[s, x], argTypes := #[22, 22] }) (hs : act.eval s = .slice a bs.length c) (v : Value) (hx : act.eval x = v) (B : Nat) (hv : SlV 100000000 B wr v (bv r)) (hl : bs2.length ≤ 500000) (h2 : bs ++ r = bs2) (hk : ∀ a' c' w', RSt w a' c' bs2 w' → wpList Tryd.prog ops Q rest (act.put o.dst (.slice a' bs2.length c')) w') : wpList Tryd.prog ops Q (o :: rest) act wr := by
  subst h2
  rw [List.length_append] at hl
  refine wpList_append_all wr hgd s x 22 ho w.heap.size 5 (.int .u8 0) 1 Tryd.underlying22 info_u8 rfl _ bs.length (bv bs) hs h.o v 100000000 B (bv r) hx hv (bv_one r) (by rw [bv_len]; unfold maxLen; omega) (by rw [bv_len]; omega) h.b.size ?_
  intro a' c' w' h1 h3 h4
  rw [bv_len, ← List.length_append, ← bv_app] at h1
  rw [bv_len, ← List.length_append]
  exact hk a' c' w' ⟨h1, below_grown h.b h.o h3 h.b.size (Nat.le_refl _)⟩

theorem step_app {w wr : World} {a : Option Addr} {c : Nat} {bs r bs2 : List UInt8} {ops : Array Oper} {o : Oper} {act : Act} {K : Act → World → Prop} {Q : Exit → Act → World → Prop} {E : Prop} (h : RSt w a c bs wr) (hgd : o.guard = none) (s x : Operand) (ho : o.op = .call { callee := .builtin .append, args := #[s, x], argTypes := #[22, 22] }) (hs : act.eval s = .slice a bs.length c) (v : Value) (hx : act.eval x = v) (B : Nat) (hv : SlV 100000000 B wr v (bv r)) (hl : bs2.length ≤ 500000) (h2 : bs ++ r = bs2) (hk : ∀ a' c' w', RSt w a' c' bs2 w' → K (act.put o.dst (.slice a' bs2.length c')) w') : if Region.wanted o (yielded ops act.tmps) = true then Oper.wp Tryd.prog o act wr K Q else E := by
  subst h2
  rw [List.length_append] at hl
  rw [if_pos (by simp [Region.wanted, hgd])]
  obtain ⟨v', w', hr, h1, h3, h4⟩ := run_append_all (P := Tryd.prog) wr 22 o.type w.heap.size 5 (.int .u8 0) 1 Tryd.underlying22 info_u8 rfl _ bs.length (bv bs) h.o v 100000000 B (bv r) hv (bv_one r) (by rw [bv_len]; unfold maxLen; omega) (by rw [bv_len]; omega) h.b.size
  obtain ⟨a', c', rfl⟩ := own_shape h1
  rw [bv_len, ← List.length_append, ← bv_app] at h1
  rw [bv_len, ← List.length_append] at hr
  unfold Oper.wp
  simp [execOp, ho, resolve, invoke, builtin, hs, hx, hr, Result.andThen]
  have hz := hk a' c' w' ⟨h1, below_grown h.b h.o h3 h.b.size (Nat.le_refl _)⟩
  rw [List.length_append] at hz
  exact hz

/-- Whether the run goes on behind place i. -/
def CutT (d : List Int) (i : Nat) (x : Int) (t : Bool) : Prop := (t = true ∧ (d.drop (i + 1)).head? = some x) ∨ (t = false ∧ (d.drop (i + 1)).head? ≠ some x)
theorem runsE_go {last x : Int} {run : Nat} {l : List Int} (h : l.head? = some x) : runsE last run (x :: l) = runsE last (run + 1) l := by
  cases l with
  | nil => cases h
  | cons y l => injection h with h; subst h; rw [runsE, if_pos rfl]
theorem runsE_stop {last x : Int} {run : Nat} {l : List Int} (h : l.head? ≠ some x) : runsE last run (x :: l) = sevens (run + 1) ++ (sevens (zig (x - last)) ++ runsE x 0 l) := runsE_run last x l h 0 run

attribute [local go_sem ↓] Go.wp_at_zero Go.wp_at_succ
set_option maxHeartbeats 16000000 in
set_option maxRecDepth 100000 in
theorem bytes_good (v : Value) (l : List Ev) (w : World) (hf : EvsR w.heap.size w v l) (hc : EvRes l 0) : Calls Tryd.prog 46 #[v] w fun e w' => ∃ a c, e = .returned (.tuple #[.slice a (encE l).length c, .int .i64 0]) ∧ w'.ownsRow w.heap.size 5 1 (.slice a (encE l).length c) (encE l).length (bv (encE l)) ∧ Below w.heap.size w w' := by
  have HF := Lib.hid hf
  have HR := Lib.hid hc
  obtain ⟨hok, h1000⟩ := hc.ok
  have HO := Lib.hid hok
  have hpl := payE_le hok h1000
  obtain ⟨ad, cap, rfl, hl, hl2, hcl⟩ := id hf
  have HC := Lib.hid hcl
  clear hf hc hok hcl
  go_enter Tryd.func46, Tryd.ntmps46
  go_wp2_with fail
  refine (evfault_any _ l _ HF.out).mono ?_
  rintro e w1 ⟨d, hd, rfl, hb1⟩
  obtain rfl := hd.det HR.out
  clear hd HR
  have HB1 := Lib.hid hb1
  have hlen0 : (sevens l.length).length ≤ 10 := sevens_le10 (by omega)
  have HN := Lib.hid (sevens_any l.length w1 (by omega) (by omega))
  clear hb1
  generalize hs0 : sevens l.length = s0 at *
  have HS0 := Lib.hid hs0
  clear hs0
  go_wp2_with fail
  refine HN.out.mono ?_
  rintro e w2 ⟨a2, c2, rfl, hown2, hb2⟩
  have HST2 := Lib.hid (show RSt w a2 c2 s0 w2 from ⟨by have := hown2; exact own_base this HB1.out.size, HB1.out.trans (hb2.mono HB1.out.size)⟩)
  clear hown2 hb2 HN
  go_wp2
  go_loopg [5, 6, 7] l.length (fun gh s5 s6 s7 wr => ∃ (k : Nat) (a : Option Addr) (c : Nat), k ≤ l.length ∧ gh = l.length - k ∧ s7 = .int .i64 k ∧ s6 = .int .i64 (lastAt 0 (l.take k)) ∧ s5 = .slice a (s0 ++ evsE 0 (l.take k)).length c ∧ Hid (RSt w a c (s0 ++ evsE 0 (l.take k)) wr))
  case atStart => exact ⟨0, a2, c2, Nat.zero_le _, by omega, rfl, rfl, by simp [evsE], Lib.hid (by simpa [evsE] using HST2.out)⟩
  case round =>
    obtain ⟨k, a, c, hk, rfl, rfl, rfl, rfl, HS⟩ := hrel
    by_cases hlt : k < l.length
    · obtain ⟨e1, e2, e3, e4, e5, e6, e7, e8⟩ := ev_at HO.out hlt
      have hle := evE_le HO.out hlt
      have hst := evsE_step hlt
      have hlat := lastAt_take (l := l) (k := k) (by omega)
      have hbl := evsE_le HO.out k (by omega)
      obtain ⟨b, off, cs, ha, hbb, hcs, hcell, dd, cd, hcs2, i1, i2, hint⟩ := HC.out k hlt
      subst ha hcs2
      generalize hBk : s0 ++ evsE 0 (l.take k) = Bk at *
      generalize hat : lastAt 0 (l.take k) = at0 at *
      have r0 : ∀ {W}, Below w.heap.size w W → W.cell? ⟨b, off + k * 3, none⟩ = some (.int .i64 l[k].at_) := fun h => (same_below h _ _ hbb).trans (hcell 0 (by simp))
      have r1 : ∀ {W}, Below w.heap.size w W → W.cell? ⟨b, off + k * 3 + 1, none⟩ = some (.int .i64 l[k].kind) := fun h => (same_below h _ _ hbb).trans (hcell 1 (by simp))
      have r2 : ∀ {W}, Below w.heap.size w W → W.cell? ⟨b, off + k * 3 + 2, none⟩ = some (.slice dd l[k].data.length cd) := fun h => (same_below h _ _ hbb).trans (hcell 2 (by simp))
      have HINT := Lib.hid hint
      clear hcell hint i1 i2
      generalize l[k] = x at *
      obtain ⟨xat, xkd, xda⟩ := x
      simp only at e1 e2 e3 e4 e5 e6 e7 e8 r0 r1 r2 HINT hle hst hlat
      have hx16 : xda.length ≤ 16 := by unfold evW at e6; split at e6; omega; split at e6 <;> omega
      have E6 := Lib.hid e6
      clear e6
      have hN : (((4 * (xat - at0) + xkd).toNat : Nat) : Int) = 4 * (xat - at0) + xkd := by omega
      have hBl : Bk.length ≤ 400000 := by rw [← hBk, List.length_append]; omega
      have hs1 : (sevens (4 * (xat - at0) + xkd).toNat).length ≤ 10 := sevens_le10 (by omega)
      have hnum := fun (W : World) => sevens_any (4 * (xat - at0) + xkd).toNat W (by omega) (by omega)
      rw [hN] at hnum
      have HNU := Lib.hid (show ∀ (W : World) (z : Int), z = 4 * (xat - at0) + xkd → Calls Tryd.prog 70 #[.int .i64 z] W (NewB W (sevens (4 * (xat - at0) + xkd).toNat)) from fun W z hz => by rw [hz]; exact hnum W)
      have hev : evE at0 ⟨xat, xkd, xda⟩ = sevens (4 * (xat - at0) + xkd).toNat ++ dataE ⟨xat, xkd, xda⟩ := rfl
      have HEV := Lib.hid hev
      have HST := Lib.hid hst
      clear hnum hN hev hst
      generalize sevens (4 * (xat - at0) + xkd).toNat = s1 at *
      have q0 := r0 HS.out.b
      have q1 := r1 HS.out.b
      have R0 := Lib.hid (fun W => @r0 W)
      have R1 := Lib.hid (fun W => @r1 W)
      have R2 := Lib.hid (fun W => @r2 W)
      clear r0 r1 r2
      have hbw : b < wr.heap.size := Nat.lt_of_lt_of_le hbb HS.out.b.size
      have hk0 : (0 : Int) ≤ (k : Int) := by omega
      have hk1 : (k : Int) < (l.length : Int) := by omega
      have hB1 : (Bk ++ s1).length ≤ 400010 := by rw [List.length_append]; omega
      generalize hBB : Bk ++ s1 = B1 at *
      have HBB := Lib.hid hBB
      clear hBB
      have HFIN := Lib.hid (show ∀ D, dataE ⟨xat, xkd, xda⟩ = D → s0 ++ evsE 0 (l.take (k + 1)) = B1 ++ D by intro D hD; rw [HST.out, HEV.out, hD, ← List.append_assoc, hBk, ← List.append_assoc, HBB.out])
      have hdl : (dataE ⟨xat, xkd, xda⟩).length ≤ 330 := by rw [HEV.out, List.length_append] at hle; omega
      go_upto_region 9 with fail
      go_cut [5] from 19 to 130 (fun s5 wx => ∃ a c, s5 = .slice a B1.length c ∧ Hid (RSt w a c B1 wx))
      case first =>
        have HSd := Lib.hid HS.out.drew
        have HW := Lib.hid (show IntKind.i64.wrap (xat - at0) = xat - at0 ∧ IntKind.i64.wrap (4 * (xat - at0)) = 4 * (xat - at0) ∧ IntKind.i64.wrap (4 * (xat - at0) + xkd) = 4 * (xat - at0) + xkd from ⟨IntWalk.i64_in _ (by omega), IntWalk.i64_in _ (by omega), IntWalk.i64_in _ (by omega)⟩)
        go_region_law ((first
          | (go_simp; go_at_call 70; refine (HNU.out _ _ ?_).mono ?_; (first | omega | rw [HW.out.1, HW.out.2.1, HW.out.2.2]); rintro e w3 hp3; obtain ⟨a3, c3, rfl, hst3, hsl3⟩ := RSt.call HSd.out (by omega) hp3; have HST3 := Lib.hid hst3; have HSL3 := Lib.hid hsl3; clear hp3 hst3 hsl3)
          | (refine step_app HST3.out rfl (.tmp 25) (.tmp 40) rfl (by rfl) _ (by rfl) _ HSL3.out (by omega) HBB.out ?_; intro a4 c4 w4 hst4; have HST4 := Lib.hid hst4; clear hst4)))
        all_goals (go_wp2_with fail; go_meet; exact ⟨_, _, rfl, HST4⟩)
      case rest =>
        obtain ⟨a1, c1, rfl, HS1⟩ := hcut
        have p0 := R0.out _ HS1.out.b
        have p1 := R1.out _ HS1.out.b
        have p2 := R2.out _ HS1.out.b
        have hbc : b < wc.heap.size := Nat.lt_of_lt_of_le hbb HS1.out.b.size
        clear hle hbw q0 q1 HNU HC HEV HST HBB HS
        rcases (show xkd = 1 ∨ xkd = 2 ∨ xkd = 3 by omega) with rfl | rfl | rfl
        · have hl0 : xda.length = 0 := by have h := E6.out; rw [show evW 1 = 0 from rfl] at h; omega
          have hfin := HFIN.out [] (by simp [dataE])
          rw [List.append_nil] at hfin
          have HF2 := Lib.hid hfin
          clear hfin HFIN hdl E6
          rw [hl0] at p2
          go_wp2_with fail
          go_loopg [5, 8, 9, 10] 1 (fun gh s5 s8 s9 s10 wq => gh = 1 ∧ s5 = .slice a1 B1.length c1 ∧ s8 = .int .i64 0 ∧ s9 = .int .i64 0 ∧ s10 = .int .i64 0 ∧ Hid (RSt w a1 c1 B1 wq))
          case atStart => exact ⟨rfl, rfl, rfl, rfl, rfl, HS1⟩
          case round =>
            obtain ⟨rfl, rfl, rfl, rfl, rfl, HX⟩ := hrel
            have x2 := R2.out _ HX.out.b
            have hbx : b < wr.heap.size := Nat.lt_of_lt_of_le hbb HX.out.b.size
            rw [hl0] at x2
            go_wp2
            go_roundg (l.length - (k + 1))
            case measure => omega
            case rel => exact ⟨k + 1, a1, c1, by omega, rfl, by go_num, by rw [hlat], by rw [HF2.out], by rw [HF2.out]; exact HX⟩
        · have hl0 : xda.length = 16 := by have h := E6.out; rw [show evW 2 = 16 from rfl] at h; omega
          have hfin := HFIN.out (runsE 0 0 xda) (by simp [dataE])
          have HF2 := Lib.hid hfin
          have hdl2 : (B1 ++ runsE 0 0 xda).length ≤ 400400 := by
            have : dataE ⟨xat, 2, xda⟩ = runsE 0 0 xda := by simp [dataE]
            rw [this] at hdl
            rw [List.length_append]; omega
          clear hfin HFIN hdl E6
          rw [hl0] at p2
          obtain ⟨bb, oo, rfl, hbb2, hcells⟩ := ints_cells HINT.out (by omega)
          have hwz : ∀ j (hj : j < xda.length), Word xda[j] := fun j hj => any_word e5 _ (List.getElem_mem hj)
          have HCL := Lib.hid hcells
          clear hcells
          go_wp2_with fail
          go_loopg [5, 8, 9, 10] 16 (fun gh s5 s8 s9 s10 wq => ∃ (i run : Nat) (last : Int) (B' : List UInt8) (a : Option Addr) (c : Nat), i ≤ 16 ∧ run ≤ i ∧ gh = 16 - i ∧ s10 = .int .i64 i ∧ s9 = .int .i64 run ∧ s8 = .int .i64 last ∧ Word last ∧ s5 = .slice a B'.length c ∧ Hid (RSt w a c B' wq) ∧ Hid (B' ++ runsE last run (xda.drop i) = B1 ++ runsE 0 0 xda))
          case atStart => exact ⟨0, 0, 0, B1, a1, c1, by omega, by omega, rfl, rfl, rfl, rfl, by unfold Word; omega, rfl, HS1, Lib.hid rfl⟩
          case round =>
            obtain ⟨i, run, last, B', a4, c4, hi, hri, rfl, rfl, rfl, rfl, hwl, rfl, HX, HE⟩ := hrel
            have x1 := R1.out _ HX.out.b
            have x2 := R2.out _ HX.out.b
            have hbx : b < wr.heap.size := Nat.lt_of_lt_of_le hbb HX.out.b.size
            have hbx2 : bb < wr.heap.size := Nat.lt_of_lt_of_le hbb2 HX.out.b.size
            rw [hl0] at x2
            by_cases hil : i < 16
            · have hii : i < xda.length := by omega
              have hz := hwz i hii
              have hdr := List.drop_eq_getElem_cons hii
              have hE := HE.out
              rw [hdr] at hE
              have HE2 := Lib.hid hE
              clear hE hdr HE
              have hci := HCL.out i hii
              have ci : wr.cell? ⟨bb, oo + i, none⟩ = some (.int .i64 xda[i]) := (same_below HX.out.b _ _ hbb2).trans hci
              have hi0 : (0 : Int) ≤ (i : Int) := by omega
              have hi1 : (i : Int) < 16 := by omega
              have hw1 : IntKind.i64.wrap ((i : Int) + 1) = (i : Int) + 1 := IntWalk.i64_in _ (by omega)
              go_upto_region 19 with fail
              go_cut [105] from 63 to 130 (fun s105 wx => ∃ t : Bool, s105 = .bool t ∧ Hid (RSt w a4 c4 B' wx) ∧ Hid (CutT xda i xda[i] t))
              case first =>
                by_cases hi2 : i + 1 < 16
                · have hi3 : (i : Int) + 1 < 16 := by omega
                  have hi4 : (0 : Int) ≤ (i : Int) + 1 := by omega
                  have hij : i + 1 < xda.length := by omega
                  have hgi : decide ((i : Int) + 1 < 16) = true := by rw [decide_eq_true_iff]; exact hi3
                  have hcj := HCL.out (i + 1) hij
                  have cj : wr.cell? ⟨bb, oo + (i + 1), none⟩ = some (.int .i64 xda[i + 1]) := (same_below HX.out.b _ _ hbb2).trans hcj
                  have hnat : ((i : Int) + 1).toNat = i + 1 := by omega
                  have hhd : (xda.drop (i + 1)).head? = some xda[i + 1] := by rw [List.head?_drop, List.getElem?_eq_getElem hij]
                  by_cases heq : xda[i + 1] = xda[i]
                  · have hgq : (xda[i + 1] == xda[i]) = true := by rw [beq_iff_eq]; exact heq
                    have HT := Lib.hid (show CutT xda i xda[i] true from Or.inl ⟨rfl, by rw [hhd, heq]⟩)
                    clear heq hhd HE2
                    generalize xda[i + 1] = zj at *
                    generalize xda[i] = zi at *
                    go_quiet (fail)
                    go_wp2_with fail
                    go_meet
                    exact ⟨true, rfl, Lib.hid (HX.out.drewN _), HT⟩
                  · have hgq : (xda[i + 1] == xda[i]) = false := by rw [beq_eq_false_iff_ne]; exact heq
                    have HT := Lib.hid (show CutT xda i xda[i] false from Or.inr ⟨rfl, by rw [hhd]; intro e; injection e with e; exact heq e⟩)
                    clear heq hhd HE2
                    generalize xda[i + 1] = zj at *
                    generalize xda[i] = zi at *
                    go_quiet (fail)
                    go_wp2_with fail
                    go_meet
                    exact ⟨false, rfl, Lib.hid (HX.out.drewN _), HT⟩
                · have hgi : decide ((i : Int) + 1 < 16) = false := by rw [decide_eq_false_iff_not]; omega
                  have HT := Lib.hid (show CutT xda i xda[i] false from Or.inr ⟨rfl, by rw [List.drop_eq_nil_of_le (by omega)]; simp⟩)
                  clear HE2
                  generalize xda[i] = zi at *
                  go_quiet (fail)
                  go_wp2_with fail
                  go_meet
                  exact ⟨false, rfl, Lib.hid (HX.out.drewN _), HT⟩
              case rest =>
                obtain ⟨t, rfl, HX2, HT⟩ := hcut
                have z1 := R1.out _ HX2.out.b
                have z2 := R2.out _ HX2.out.b
                rw [hl0] at z2
                have hbz : b < wc.heap.size := Nat.lt_of_lt_of_le hbb HX2.out.b.size
                have hbz2 : bb < wc.heap.size := Nat.lt_of_lt_of_le hbb2 HX2.out.b.size
                rcases HT.out with ⟨rfl, hh⟩ | ⟨rfl, hh⟩
                · have HE3 := Lib.hid (show B' ++ runsE last (run + 1) (xda.drop (i + 1)) = B1 ++ runsE 0 0 xda by rw [← HE2.out, runsE_go hh])
                  clear hh
                  go_wp2
                  go_roundg (16 - (i + 1))
                  case measure => omega
                  case rel => exact ⟨i + 1, run + 1, last, B', a4, c4, by omega, by omega, rfl, by go_num, by go_num, rfl, hwl, rfl, HX2, HE3⟩
                · have hE3 := HE2.out
                  rw [runsE_stop hh] at hE3
                  have hl2 : (B' ++ (sevens (run + 1) ++ (sevens (zig (xda[i] - last)) ++ runsE xda[i] 0 (xda.drop (i + 1))))).length ≤ 400400 := by rw [hE3]; exact hdl2
                  rw [List.length_append, List.length_append, List.length_append] at hl2
                  have HE3 := Lib.hid hE3
                  clear hh hE3 HE2 HT
                  have hn1 : (((run + 1 : Nat) : Nat) : Int) = (run : Int) + 1 := by omega
                  have hsv := fun (W : World) => sevens_any (run + 1) W (by omega) (by omega)
                  rw [hn1] at hsv
                  unfold Word at hz hwl
                  have hzg := fun (W : World) => zigs_any (xda[i] - last) W (by omega) (by omega)
                  have ci2 : ∀ W, Below w.heap.size w W → W.cell? ⟨bb, oo + i, none⟩ = some (.int .i64 xda[i]) := fun W h => (same_below h _ _ hbb2).trans hci
                  have HCI := Lib.hid ci2
                  clear ci ci2 hci
                  generalize xda[i] = zi at *
                  have HSV := Lib.hid hsv
                  have HZG := Lib.hid hzg
                  clear hsv hzg
                  generalize hr1 : sevens (run + 1) = r1 at *
                  generalize hr2 : sevens (zig (zi - last)) = r2 at *
                  have hB5l : (B' ++ r1).length ≤ 400400 := by rw [List.length_append]; omega
                  have hB6l : (B' ++ r1 ++ r2).length ≤ 400400 := by rw [List.length_append, List.length_append]; omega
                  generalize hB5 : B' ++ r1 = B5 at *
                  generalize hB6 : B5 ++ r2 = B6 at *
                  go_wp2_with fail
                  refine (HSV.out _).mono ?_
                  rintro e w5 hp5
                  obtain ⟨a5, c5, rfl, hst5, hsl5⟩ := RSt.call HX2.out (by omega) hp5
                  have HS5 := Lib.hid hst5
                  have HL5 := Lib.hid hsl5
                  clear hst5 hsl5 hp5
                  go_wp2_with (at_builtin; go_loud (refine wpList_app HS5.out rfl (.tmp 106) (.tmp 108) rfl (by rfl) _ (by rfl) _ HL5.out (by omega) hB5 ?_); intro a6 c6 w6 hst6; have y0 := R2.out _ hst6.b; rw [hl0] at y0; have y1 := HCI.out _ hst6.b; have hby : b < w6.heap.size := Nat.lt_of_lt_of_le hbb hst6.b.size; have hby2 : bb < w6.heap.size := Nat.lt_of_lt_of_le hbb2 hst6.b.size; have HS6 := Lib.hid hst6; clear hst6)
                  go_wp2_with fail
                  refine (HZG.out _).mono ?_
                  rintro e w7 hp7
                  obtain ⟨a7, c7, rfl, hst7, hsl7⟩ := RSt.call HS6.out (by omega) hp7
                  have HS7 := Lib.hid hst7
                  have HL7 := Lib.hid hsl7
                  clear hst7 hsl7 hp7
                  go_wp2_with (at_builtin; go_loud (refine wpList_app HS7.out rfl (.tmp 110) (.tmp 121) rfl (by rfl) _ (by rfl) _ HL7.out (by omega) hB6 ?_); intro a8 c8 w8 hst8; have v0 := R2.out _ hst8.b; rw [hl0] at v0; have v1 := HCI.out _ hst8.b; have hbv : b < w8.heap.size := Nat.lt_of_lt_of_le hbb hst8.b.size; have hbv2 : bb < w8.heap.size := Nat.lt_of_lt_of_le hbb2 hst8.b.size; have HS8 := Lib.hid hst8; clear hst8)
                  go_wp2
                  go_roundg (16 - (i + 1))
                  case measure => omega
                  case rel => exact ⟨i + 1, 0, zi, B6, a8, c8, by omega, by omega, rfl, by go_num, rfl, rfl, hz, rfl, HS8, Lib.hid (by rw [← HE3.out, ← hB6, ← hB5]; simp)⟩
            · obtain rfl : i = 16 := by omega
              have hfin : s0 ++ evsE 0 (l.take (k + 1)) = B' := by
                rw [HF2.out, ← HE.out, List.drop_eq_nil_of_le (by omega)]
                simp [runsE]
              have HF3 := Lib.hid hfin
              clear hfin HE HF2
              go_wp2
              go_roundg (l.length - (k + 1))
              case measure => omega
              case rel => exact ⟨k + 1, a4, c4, by omega, rfl, by go_num, by rw [hlat], by rw [HF3.out], by rw [HF3.out]; exact HX⟩
        · have hl0 : xda.length = 1 := by have h := E6.out; rw [show evW 3 = 1 from rfl] at h; omega
          obtain ⟨z, rfl⟩ : ∃ z, xda = [z] := len1 hl0
          have hfin := HFIN.out (sevens (zig z)) (by simp [dataE])
          have HF2 := Lib.hid hfin
          have hz : Word z := any_word e5 _ (by simp)
          have hs2 : (sevens (zig z)).length ≤ 10 := sevens_le10 (by unfold Word at hz; unfold zig; split <;> omega)
          clear hfin HFIN hdl E6
          obtain ⟨bb, oo, rfl, hbb2, hcells⟩ := ints_cells HINT.out (by simp)
          have hci : wc.cell? ⟨bb, oo, none⟩ = some (.int .i64 z) := (same_below HS1.out.b _ _ hbb2).trans (hcells 0 (by simp))
          have hbz2 : bb < wc.heap.size := Nat.lt_of_lt_of_le hbb2 HS1.out.b.size
          have HCL := Lib.hid hcells
          have HI2 := Lib.hid HINT.out
          clear hcells
          simp only [List.length_singleton] at p2 R2
          unfold Word at hz
          have HZG := Lib.hid (fun (W : World) => zigs_any z W (by omega) (by omega))
          generalize hr2 : sevens (zig z) = r2 at *
          have hB6l : (B1 ++ r2).length ≤ 400400 := by rw [List.length_append]; omega
          generalize hB6 : B1 ++ r2 = B6 at *
          go_wp2_with fail
          refine (HZG.out _).mono ?_
          rintro e w7 hp7
          obtain ⟨a7, c7, rfl, hst7, hsl7⟩ := RSt.call HS1.out (by omega) hp7
          have HS7 := Lib.hid hst7
          have HL7 := Lib.hid hsl7
          clear hst7 hsl7 hp7
          go_wp2_with (at_builtin; go_loud (refine wpList_app HS7.out rfl (.tmp 53) (.tmp 61) rfl (by rfl) _ (by rfl) _ HL7.out (by omega) hB6 ?_); intro a8 c8 w8 hst8; have HS8 := Lib.hid hst8; clear hst8)
          go_wp2_with fail
          go_loopg [5, 8, 9, 10] 2 (fun gh s5 s8 s9 s10 wq => ∃ i : Nat, i ≤ 1 ∧ gh = 2 - i ∧ s5 = .slice a8 B6.length c8 ∧ s8 = .int .i64 0 ∧ s9 = .int .i64 0 ∧ s10 = .int .i64 i ∧ Hid (RSt w a8 c8 B6 wq))
          case atStart => exact ⟨0, by omega, rfl, rfl, rfl, rfl, rfl, HS8⟩
          case round =>
            obtain ⟨i, hi, rfl, rfl, rfl, rfl, rfl, HX⟩ := hrel
            have x1 := R1.out _ HX.out.b
            have x2 := R2.out _ HX.out.b
            have hbx : b < wr.heap.size := Nat.lt_of_lt_of_le hbb HX.out.b.size
            go_wp2
            all_goals (
              go_roundg (l.length - (k + 1))
              case measure => omega
              case rel => exact ⟨k + 1, a8, c8, by omega, rfl, by go_num, by rw [hlat], by rw [HF2.out], by rw [HF2.out]; exact HX⟩)
    · obtain rfl : k = l.length := by omega
      have hp0 : s0 ++ evsE 0 (l.take l.length) = payE l := by rw [List.take_length]; unfold payE; rw [HS0.out]
      have hen : encE l = s0 ++ evsE 0 (l.take l.length) ++ sumB (s0 ++ evsE 0 (l.take l.length)) := by unfold encE; rw [hp0]
      rw [← hp0] at hpl
      generalize s0 ++ evsE 0 (l.take l.length) = Bk at *
      have HSM := Lib.hid (sumOf_any _ Bk wr (bytes_of_own HS.out.o (by omega)))
      have hsb : (sumB Bk).length = 4 := rfl
      generalize sumB Bk = sB at *
      have hEl : (encE l).length ≤ 400010 := by rw [hen, List.length_append]; omega
      generalize hE : encE l = E at *
      have HSB := Lib.hid (show sB.length ≤ 1000000 by omega)
      have HEE := Lib.hid hE
      have HEN := Lib.hid hen
      clear hsb hE hen
      clear hp0
      go_wp2_with fail
      refine HSM.out.mono ?_
      rintro e w7 hp7
      obtain ⟨a7, c7, rfl, hst7, hsl7⟩ := RSt.call HS.out HSB.out hp7
      have HS7 := Lib.hid hst7
      have HL7 := Lib.hid hsl7
      clear hst7 hsl7 hp7
      go_wp2_with (at_builtin; go_loud (refine wpList_app HS7.out rfl (.tmp 131) (.tmp 133) rfl (by rfl) _ (by rfl) _ HL7.out (by omega) HEN.out.symm ?_); intro a8 c8 w8 hst8; have HS8 := Lib.hid hst8; clear hst8)
      go_ret2
      rw [HEE.out]
      exact ⟨a8, c8, rfl, HS8.out.o, HS8.out.b⟩
end Go.Proofs.YtiekilpddmdhnaaDoor
