/- The law hourglasskeep.SpacesApart returns true at all lists of raw things. No condition. -/
import Derived.Test.YtpmdlmgmfggioaaRows
import Derived.Test.YtpmdlmgmfggioaaYMem
import Derived.Test.YtpmdlmgmfggioaaYFacts
import Derived.WalkKit
import Derived.ProofKit
import Derived.OpenShut
import Derived.ShutString
import Derived.ChangeOld
import Derived.Below
import Derived.Test.YtpmdlmgmfggioaaYPld
import Derived.Test.YtpmdlmgmfggioaaYPk
import Derived.Test.YtpmdlmgmfggioaaYEu
import Derived.Test.YtpmdlmgmfggioaaYFr1
import Derived.Handy
import Derived.StillTailTactics
import Derived.Deep.LoopGhost
namespace Go.Proofs.Ytpmdlmgmfggioaa.lSpacesApart
open Go Go.RowKit Go.ChangeShapes Go.WideShapes Go.ChangeAt Go.Deep
open Go.ChangeMaps (open_string shut_string)
set_option linter.unusedVariables false
set_option linter.unusedSimpArgs false
attribute [local go_sem ↓] Go.wp_at_zero Go.wp_at_succ

theorem info_p2 : (Try.prog.info? 34).map (fun i => (i.zero, i.size, i.bytes)) = some (some (.agg #[.int .i64 0, .int .i64 0]), 2, 16) := by kernel_rfl
theorem info_p3 : (Try.prog.info? 36).map (fun i => (i.zero, i.size, i.bytes)) = some (some (.agg #[.int .i64 0, .int .i64 0, .int .i64 0]), 3, 24) := by kernel_rfl
def c2 (x : Int × Int) : List Value := [.int .i64 x.1, .int .i64 x.2]
def c3 (x : Int × Int × Int) : List Value := [.int .i64 x.1, .int .i64 x.2.1, .int .i64 x.2.2]
def psL (l : List Rw) (i : Nat) : List (Int × Int) := (l.take i).map (fun r => (pickZ r.a 256, r.c))
def psW (l : List Rw) (i : Nat) : List (Int × Int × Int) := (l.take i).map (fun r => (pickZ r.a 256, r.c, pickZ r.b 2))
theorem psL_succ {l : List Rw} {i : Nat} (h : i < l.length) : psL l (i + 1) = psL l i ++ [(pickZ l[i].a 256, l[i].c)] := by unfold psL; rw [List.take_succ_eq_append_getElem h, List.map_append]; rfl
theorem psW_succ {l : List Rw} {i : Nat} (h : i < l.length) : psW l (i + 1) = psW l i ++ [(pickZ l[i].a 256, l[i].c, pickZ l[i].b 2)] := by unfold psW; rw [List.take_succ_eq_append_getElem h, List.map_append]; rfl
theorem psL_len {l : List Rw} {i : Nat} (h : i ≤ l.length) : (psL l i).length = i := by unfold psL; rw [List.length_map, List.length_take]; omega
theorem psW_len {l : List Rw} {i : Nat} (h : i ≤ l.length) : (psW l i).length = i := by unfold psW; rw [List.length_map, List.length_take]; omega
theorem psL_ok {l : List Rw} {i : Nat} (hc : ∀ r ∈ l, I64 r.c) : ∀ x ∈ psL l i, (0 ≤ x.1 ∧ x.1 ≤ 255) ∧ I64 x.2 := by
  intro x hx
  obtain ⟨r, hr, rfl⟩ := List.mem_map.1 hx
  have := pick_rng r.a 256 (by omega)
  exact ⟨⟨this.1, by show pickZ r.a 256 ≤ 255; omega⟩, hc r (List.mem_of_mem_take hr)⟩
theorem psW_ok {l : List Rw} {i : Nat} (hc : ∀ r ∈ l, I64 r.c) : ∀ x ∈ psW l i, (0 ≤ x.1 ∧ x.1 ≤ 255) ∧ I64 x.2.1 ∧ I64 x.2.2 := by
  intro x hx
  obtain ⟨r, hr, rfl⟩ := List.mem_map.1 hx
  have h1 := pick_rng r.a 256 (by omega)
  have h2 := pick_rng r.b 2 (by omega)
  exact ⟨⟨h1.1, by show pickZ r.a 256 ≤ 255; omega⟩, hc r (List.mem_of_mem_take hr), by show I64 (pickZ r.b 2); unfold I64; omega⟩
theorem i64_small {z : Int} (h : 0 ≤ z ∧ z ≤ 255) : I64 z := by unfold I64; omega
theorem raw_i64 {B : Nat} {w : World} {v : Value} {xs : List Rw} (h : RawsR B w v xs) : ∀ r ∈ xs, I64 r.a ∧ I64 r.b ∧ I64 r.c := by
  intro r hr
  obtain ⟨i, hi, rfl⟩ := List.mem_iff_getElem.1 hr
  obtain ⟨_, _, _, _, _, hc⟩ := h
  obtain ⟨_, _, _, _, _, _, _, hR⟩ := hc i hi
  exact ⟨hR.2.2.1, hR.2.2.2.1, hR.2.2.2.2⟩
theorem ownbase {w : World} {b b' : Nat} {e : TypeId} {n : Nat} {v : Value} {k : Nat} {xs : List Value} (h : w.ownsRow b e n v k xs) (hb : b' ≤ b) : w.ownsRow b' e n v k xs := by
  obtain ⟨h1, h2⟩ := h
  exact ⟨h1, h2.imp id (fun ⟨g, cap, cur, k1, k2, r⟩ => ⟨g, cap, cur, k1, Nat.le_trans hb k2, r⟩)⟩
theorem i64_z256 : ∀ z ∈ List.replicate 256 (0 : Int), I64 z := fun z hz => by rw [List.eq_of_mem_replicate hz]; unfold I64; omega

set_option maxHeartbeats 8000000 in
set_option maxRecDepth 100000 in
theorem walk (W : World) (v1 : Value) (l : List Rw) (hv1 : RawsR W.heap.size W v1 l) (v2 : Value) (m : List Rw) (hv2 : RawsR W.heap.size W v2 m) :
    Calls Try.prog 4 #[v1, v2] W fun e W' => e = .returned (.bool true) ∧ Below W.heap.size W W' := by
  have HL64 := Lib.hid (raw_i64 hv1)
  have HM64 := Lib.hid (raw_i64 hv2)
  obtain ⟨a1, cap1, rfl, hl1, hl2, hc1⟩ := hv1
  obtain ⟨a2, cap2, rfl, hm1, hm2, hc2⟩ := hv2
  have HC1 := Lib.hid hc1
  have HC2 := Lib.hid hc2
  clear hc1 hc2
  have mk := mk_ints 256 (by omega) (by omega) W
  go_enter Try.func4, Try.ntmps4
  go_upto_block 0 with fail
  obtain ⟨W1, hW1⟩ : ∃ W1, W1 = W.alloc (.cells (zeroInts 256) 3) := ⟨_, rfl⟩
  rw [← hW1]
  obtain ⟨lo, hlo⟩ : ∃ lo, lo = W.heap.size := ⟨_, rfl⟩
  have HB1 := Lib.hid (show Below lo W W1 from by rw [hW1, hlo]; exact below_alloc _ _)
  have HX1 := Lib.hid (show W1.ownsRow lo 3 1 (.slice (some ⟨lo, 0, none⟩) 256 256) 256 ((putL (List.replicate 256 0) (psL l 0)).map (Value.int .i64)) from by rw [hW1, hlo]; exact own_block (zs := List.replicate 256 (0 : Int)) (by rw [← zeroInts_eq]; exact alloc_at rfl) (Nat.le_refl _) (by simp) (by omega))
  have HF1 := Lib.hid (show W1.ownsRow lo 34 2 (.slice none 0 0) 0 ((psL l 0).flatMap c2) from World.ownsRow_nil _ _ _ _)
  have HLO := Lib.hid hlo
  rw [← hlo] at HC1 HC2 ⊢
  clear hW1 hlo mk
  go_wp2_with fail
  go_loopg [5, 8] 30 (fun gh s5 s8 wr => ∃ (i : Nat) (a5 : Option Addr) (cp5 : Nat), i ≤ l.length ∧ i ≤ 30 ∧ 30 - i ≤ gh ∧ s5 = .slice a5 i cp5 ∧ s8 = .int .i64 i ∧ Hid (wr.ownsRow lo 34 2 (.slice a5 i cp5) i ((psL l i).flatMap c2)) ∧ Hid (wr.ownsRow lo 3 1 (.slice (some ⟨lo, 0, none⟩) 256 256) 256 ((putL (List.replicate 256 0) (psL l i)).map (Value.int .i64))) ∧ Hid (Below lo W wr))
  case atStart => exact ⟨0, none, 0, Nat.zero_le _, by omega, by omega, rfl, rfl, HF1, HX1, HB1⟩
  case round =>
    clear HF1 HX1 HB1
    obtain ⟨i, a5, cp5, hi, hi30, hgh, rfl, rfl, HF, HX, HB⟩ := hrel
    by_cases hlt : i < l.length ∧ i < 30
    · obtain ⟨hlt, h30⟩ := hlt
      have hk1 : (i : Int) < (l.length : Int) := by omega
      have hk2 : (i : Int) < 30 := by omega
      obtain ⟨b, off, cs, rfl, hbb, hcs, hcell, hR, hx1, hx2, hx3, hx4⟩ := HC1.out i hlt
      have HR1 : Hid (∀ w2 : World, Below lo W w2 → w2.cell? ⟨b, off + i * 4 + 1, none⟩ = some (.int .i64 l[i].a)) := Lib.hid (fun w2 hw => by have := (same_below hw b _ hbb).trans (hcell 1 (by rw [hR]; simp)); simpa [hR] using this)
      have HR3 : Hid (∀ w2 : World, Below lo W w2 → w2.cell? ⟨b, off + i * 4 + 3, none⟩ = some (.int .i64 l[i].c)) := Lib.hid (fun w2 hw => by have := (same_below hw b _ hbb).trans (hcell 3 (by rw [hR]; simp)); simpa [hR] using this)
      have r1 := HR1.out wr HB.out
      have r3 := HR3.out wr HB.out
      have HSU := Lib.hid (psL_succ hlt)
      have hix := hx2
      have hic := hx4
      clear hcell hcs hR hx1 hx2 hx3 hx4
      generalize l[i] = x at *
      obtain ⟨p, hp, hp2⟩ : ∃ p : Nat, pickZ x.a 256 = p ∧ p < 256 := by
        have := pick_rng x.a 256 (by omega)
        exact ⟨(pickZ x.a 256).toNat, by omega, by omega⟩
      have HPK := Lib.hid (fun w => (picked_any x.a 256 w hix.1 hix.2 (by omega) (by omega)).mono (fun e w'' h => (⟨h.1, h.2.symm⟩ : e = .returned (.int .i64 (pickZ x.a 256)) ∧ w'' = w)))
      rw [hp] at HPK HSU
      have hp0 : (0 : Int) ≤ (p : Int) := by omega
      have hp3 : (p : Int) < 256 := by omega
      generalize x.a = xa at *
      generalize x.c = xc at *
      clear hp
      go_upto_region 7 with fail
      have hlow : lo ≤ wr.drew.heap.size := by rw [HLO.out]; exact HB.out.size
      go_cut [5] from 27 to 41 (fun s5 wx => ∃ g6 cp6, s5 = .slice (some ⟨g6, 0, none⟩) (i + 1) cp6 ∧ Hid (wx.ownsRow lo 34 2 (.slice (some ⟨g6, 0, none⟩) (i + 1) cp6) (i + 1) ((psL l i).flatMap c2 ++ c2 ((p : Int), xc))) ∧ Hid (wr.drew.grownBy wx (Value.slice a5 i cp5).ownBlock))
      case first =>
        go_region_law ((first | (go_simp; go_at_call 8; refine (HPK.out _).mono ?_; rintro en wq ⟨rfl, rfl⟩; skip) | (go_loud (refine step_push wr.drew rfl (.tmp 27) (.tmp 40) 22 rfl lo 34 (.agg #[.int .i64 0, .int .i64 0]) 2 16 Try.underlying22 info_p2 rfl (by decide) [.int .i64 (p : Int), .int .i64 xc] rfl (by simp [Value.oneCell']) _ _ _ (by rfl) HF.out (by rfl) rfl (by omega) (by omega) hlow ?_); intro g7 cp7 w7 hown7 hgrow7)))
        all_goals go_wp2_with fail
        all_goals go_meet
        all_goals exact ⟨g7, cp7, rfl, Lib.hid hown7, Lib.hid hgrow7⟩
      case rest =>
        obtain ⟨g6, cp6, rfl, HO5, HG5⟩ := hcut
        have HB5 := Lib.hid (show Below lo W wc from below_grown (w := wr.drew) (below_drewN HB.out 1) HF.out HG5.out hlow (Nat.le_refl _))
        have HX5 := Lib.hid (World.ownsRow.kept (w := wr.drew) HX.out HG5.out (own_ne (w := wr) HX.out HF.out (by decide)))
        have HO6 := Lib.hid (show wc.ownsRow lo 34 2 (.slice (some ⟨g6, 0, none⟩) (i + 1) cp6) (i + 1) ((psL l (i + 1)).flatMap c2) from by rw [HSU.out, List.flatMap_append]; simpa using HO5.out)
        have HXS := Lib.hid (show putL (List.replicate 256 0) (psL l (i + 1)) = (putL (List.replicate 256 0) (psL l i)).set p xc from by rw [HSU.out, putL_snoc]; rfl)
        clear HB HF HX HG5 HO5 r1 r3 HSU
        have r1 := HR1.out wc HB5.out
        have r3 := HR3.out wc HB5.out
        have x1 := own_cellAt' HX5.out (by rw [putL_len, List.length_replicate]) (k := p) hp2
        have x2 := HX5.out.frozenAt p
        have x3 := (HX5.out.lt _ rfl).2
        obtain ⟨zx, hzx⟩ : ∃ z, (putL (List.replicate 256 0) (psL l i)).getD p 0 = z := ⟨_, rfl⟩
        rw [hzx] at x1
        clear hzx
        go_upto_region 8 with fail
        refine wp_region_still_tail 13 (by kernel_rfl) (by kernel_rfl) ?_
        simp only [List.take_succ_cons, List.take_zero, List.drop_succ_cons, List.drop_zero]
        repeat (first | still_step | (refine wpStill_step (fun K hK => ?_); go_simp; refine ⟨_, HPK.out _, hK _ ?_⟩; clear hK K))
        try refine wpStill_nil ?_
        go_wp2_with fail
        go_roundg (30 - (i + 1))
        case measure => omega
        case rel =>
          have q1 : (wc.drew.setCell ⟨lo, p, none⟩ (.int .i64 xc)).ownsRow lo 34 2 (.slice (some ⟨g6, 0, none⟩) (i + 1) cp6) (i + 1) ((psL l (i + 1)).flatMap c2) := own_set (w := wc.drew) HO6.out (by have := own_ne HX5.out HO6.out (by decide); simpa [Value.ownBlock] using this) _
          exact ⟨i + 1, _, _, by omega, by omega, by omega, rfl, by go_num, Lib.hid q1, Lib.hid (by rw [HXS.out, List.map_set]; exact (World.ownsRow.stored (w := wc.drew) HX5.out p (.int .i64 xc)).1), Lib.hid (Below.setCell (w := wc.drew) (below_drewN HB5.out 1) (Nat.le_refl _) _)⟩
    · have hno : ¬ ((i : Int) < (l.length : Int)) ∨ ¬ ((i : Int) < 30) := by omega
      have HP1 := Lib.hid (show P2R wr.heap.size wr (.slice a5 i cp5) (psL l i) from by have := slN_of_owns (m := 8796093021952) (R := P2C) c2 (fun _ => rfl) (xs := psL l i) (by rw [psL_len hi]; exact HF.out) (by omega) (by rw [psL_len hi]; omega) (fun x hx => ⟨rfl, i64_small (psL_ok (fun r hr => (HL64.out r hr).2.2) x hx).1, (psL_ok (fun r hr => (HL64.out r hr).2.2) x hx).2⟩); exact this)
      have HIX := Lib.hid (show Ints wr.heap.size wr (.slice (some ⟨lo, 0, none⟩) 256 256) (putL (List.replicate 256 0) (psL l i)) from by have h := ints_of_owns (w := wr) (v := .slice (some ⟨lo, 0, none⟩) 256 256) (zs := putL (List.replicate 256 0) (psL l i)) (base := lo) (e := 3) (by rw [putL_len, List.length_replicate]; exact HX.out) (by rw [putL_len, List.length_replicate]; omega) (i64_putL i64_z256 (fun x hx => (psL_ok (fun r hr => (HL64.out r hr).2.2) x hx).2)); exact h)
      have HCL := Lib.hid (cloneI_any _ _ wr HIX.out)
      have HOKL := Lib.hid (psL_ok (l := l) (i := i) (fun r hr => (HL64.out r hr).2.2))
      have HLL := Lib.hid (show (putL (List.replicate 256 0) (psL l i)).length = 256 from by rw [putL_len, List.length_replicate])
      have HLP := Lib.hid (psL_len hi)
      generalize psL l i = ps at *
      have h64 := Lib.hid (show ∀ z ∈ putL (List.replicate 256 0) ps, I64 z from i64_putL i64_z256 (fun x hx => (HOKL.out x hx).2))
      have HPO := Lib.hid (fun ws h => playO_yes ps ws (fun x hx => (HOKL.out x hx).1) h)
      generalize putL (List.replicate 256 0) ps = zs at *
      clear HIX HC1 HL64 HP1
      skip
      skip
      go_upto_region 5 with fail
      go_cut [24] from 17 to 24 (fun s24 wx => s24 = .bool false ∧ wx = wr)
      case first =>
        by_cases hq : (i : Int) < (l.length : Int)
        · have hq2 : ¬ (i : Int) < 30 := by omega
          go_wp2_with fail
          go_meet
          exact ⟨rfl, rfl⟩
        · go_wp2_with fail
          go_meet
          exact ⟨rfl, rfl⟩
      case rest =>
      obtain ⟨rfl, hwc⟩ := hcut
      have hwc := hwc.symm
      subst hwc
      skip
      go_wp2_with fail
      refine HCL.out.mono ?_
      rintro e w5 ⟨ya, yc, rfl, hoy, hb5⟩
      rw [HLL.out] at hoy ⊢
      obtain ⟨gy, rfl⟩ : ∃ g, ya = some ⟨g, 0, none⟩ := by
        rcases hoy.2 with ⟨h1, _⟩ | ⟨g, cap, cur, h1, _⟩
        · cases h1
        · exact ⟨g, by injection h1⟩
      have hlw : lo ≤ wr.heap.size := by rw [HLO.out]; exact HB.out.size
      have HY5 := Lib.hid (show w5.ownsRow lo 3 1 (.slice (some ⟨gy, 0, none⟩) 256 yc) 256 ((putB zs (psW m 0)).map (Value.int .i64)) from ownbase hoy hlw)
      have HX5 := Lib.hid (show w5.ownsRow lo 3 1 (.slice (some ⟨lo, 0, none⟩) 256 256) 256 ((putA zs (psW m 0)).map (Value.int .i64)) from own_below HX.out hb5 (Nat.le_refl _))
      have HF5 := Lib.hid (own_below HF.out hb5 (Nat.le_refl _))
      have HB5 := Lib.hid (HB.out.trans (hb5.mono hlw))
      have HGY := Lib.hid (show lo ≤ gy from Nat.le_trans hlw (hoy.lt _ rfl).1)
      have hxy : lo ≠ gy := fun e => by
        have h1 : lo < wr.heap.size := (HX.out.lt _ rfl).2
        have h2 : wr.heap.size ≤ gy := (hoy.lt _ rfl).1
        omega
      clear HF HX HB hoy hb5 HCL hlw hno hi hgh hlt
      have HG0 := Lib.hid (show w5.ownsRow lo 36 3 (.slice none 0 0) 0 ((psW m 0).flatMap c3) from World.ownsRow_nil _ _ _ _)
      go_wp2_with fail
      go_loopg [6, 10] 30 (fun gh s6 s10 wr => ∃ (j : Nat) (a6 : Option Addr) (cp6 : Nat), j ≤ m.length ∧ j ≤ 30 ∧ 30 - j ≤ gh ∧ s6 = .slice a6 j cp6 ∧ s10 = .int .i64 j ∧ Hid (wr.ownsRow lo 36 3 (.slice a6 j cp6) j ((psW m j).flatMap c3)) ∧ Hid (wr.ownsRow lo 3 1 (.slice (some ⟨lo, 0, none⟩) 256 256) 256 ((putA zs (psW m j)).map (Value.int .i64))) ∧ Hid (wr.ownsRow lo 3 1 (.slice (some ⟨gy, 0, none⟩) 256 yc) 256 ((putB zs (psW m j)).map (Value.int .i64))) ∧ Hid (wr.ownsRow lo 34 2 (.slice a5 i cp5) i (ps.flatMap c2)) ∧ Hid (Below lo W wr))
      case atStart => exact ⟨0, none, 0, Nat.zero_le _, by omega, by omega, rfl, rfl, HG0, HX5, HY5, HF5, HB5⟩
      case round =>
        clear HG0 HX5 HY5 HF5 HB5
        obtain ⟨j, a6, cp6, hj, hj30, hgh, rfl, rfl, HG, HX, HY, HF, HB⟩ := hrel
        by_cases hlt : j < m.length ∧ j < 30
        · obtain ⟨hlt, h30⟩ := hlt
          have hk1 : (j : Int) < (m.length : Int) := by omega
          have hk2 : (j : Int) < 30 := by omega
          obtain ⟨b, off, cs, rfl, hbb, hcs, hcell, hR, hx1, hx2, hx3, hx4⟩ := HC2.out j hlt
          have HR1 : Hid (∀ w2 : World, Below lo W w2 → w2.cell? ⟨b, off + j * 4 + 1, none⟩ = some (.int .i64 m[j].a)) := Lib.hid (fun w2 hw => by have := (same_below hw b _ hbb).trans (hcell 1 (by rw [hR]; simp)); simpa [hR] using this)
          have HR2 : Hid (∀ w2 : World, Below lo W w2 → w2.cell? ⟨b, off + j * 4 + 2, none⟩ = some (.int .i64 m[j].b)) := Lib.hid (fun w2 hw => by have := (same_below hw b _ hbb).trans (hcell 2 (by rw [hR]; simp)); simpa [hR] using this)
          have HR3 : Hid (∀ w2 : World, Below lo W w2 → w2.cell? ⟨b, off + j * 4 + 3, none⟩ = some (.int .i64 m[j].c)) := Lib.hid (fun w2 hw => by have := (same_below hw b _ hbb).trans (hcell 3 (by rw [hR]; simp)); simpa [hR] using this)
          have r1 := HR1.out wr HB.out
          have r2 := HR2.out wr HB.out
          have r3 := HR3.out wr HB.out
          have HSU := Lib.hid (psW_succ hlt)
          have hix := hx2
          have hib := hx3
          have hic := hx4
          clear hcell hcs hR hx1 hx2 hx3 hx4
          generalize m[j] = x at *
          obtain ⟨p, hp, hp2⟩ : ∃ p : Nat, pickZ x.a 256 = p ∧ p < 256 := by
            have := pick_rng x.a 256 (by omega)
            exact ⟨(pickZ x.a 256).toNat, by omega, by omega⟩
          have hqr := pick_rng x.b 2 (by omega)
          have HPB := Lib.hid (picked_any x.b 2 wr hib.1 hib.2 (by omega) (by omega))
          have HPK := Lib.hid (fun w => (picked_any x.a 256 w hix.1 hix.2 (by omega) (by omega)).mono (fun e w'' h => (⟨h.1, h.2.symm⟩ : e = .returned (.int .i64 (pickZ x.a 256)) ∧ w'' = w)))
          rw [hp] at HPK HSU
          have hp0 : (0 : Int) ≤ (p : Int) := by omega
          have hp3 : (p : Int) < 256 := by omega
          generalize pickZ x.b 2 = q at *
          generalize x.a = xa at *
          generalize x.b = xb at *
          generalize x.c = xc at *
          clear hp
          go_wp2_with fail
          refine HPB.out.mono ?_
          rintro e w5 ⟨rfl, rfl⟩
          go_upto_region 14 with fail
          have hlow : lo ≤ wr.drew.heap.size := by rw [HLO.out]; exact HB.out.size
          go_cut [6] from 73 to 88 (fun s5 wx => ∃ g8 cp8, s5 = .slice (some ⟨g8, 0, none⟩) (j + 1) cp8 ∧ Hid (wx.ownsRow lo 36 3 (.slice (some ⟨g8, 0, none⟩) (j + 1) cp8) (j + 1) ((psW m j).flatMap c3 ++ c3 ((p : Int), xc, q))) ∧ Hid (wr.drew.grownBy wx (Value.slice a6 j cp6).ownBlock))
          case first =>
            go_region_law ((first | (go_simp; go_at_call 8; refine (HPK.out _).mono ?_; rintro en wq ⟨rfl, rfl⟩; skip) | (go_loud (refine step_push wr.drew rfl (.tmp 73) (.tmp 87) 23 rfl lo 36 (.agg #[.int .i64 0, .int .i64 0, .int .i64 0]) 3 24 Try.underlying23 info_p3 rfl (by decide) [.int .i64 (p : Int), .int .i64 xc, .int .i64 q] rfl (by simp [Value.oneCell']) _ _ _ (by rfl) HG.out (by rfl) rfl (by omega) (by omega) hlow ?_); intro g7 cp7 w7 hown7 hgrow7)))
            all_goals go_wp2_with fail
            all_goals go_meet
            all_goals exact ⟨g7, cp7, rfl, Lib.hid hown7, Lib.hid hgrow7⟩
          case rest =>
            obtain ⟨g6, cp6', rfl, HO5, HG5⟩ := hcut
            have HB5 := Lib.hid (show Below lo W wc from below_grown (w := wr.drew) (below_drewN HB.out 1) HG.out HG5.out hlow (Nat.le_refl _))
            have HX5 := Lib.hid (World.ownsRow.kept (w := wr.drew) HX.out HG5.out (own_ne (w := wr) HX.out HG.out (by decide)))
            have HY5 := Lib.hid (World.ownsRow.kept (w := wr.drew) HY.out HG5.out (own_ne (w := wr) HY.out HG.out (by decide)))
            have HF5 := Lib.hid (World.ownsRow.kept (w := wr.drew) HF.out HG5.out (own_ne (w := wr) HF.out HG.out (by decide)))
            have HO6 := Lib.hid (show wc.ownsRow lo 36 3 (.slice (some ⟨g6, 0, none⟩) (j + 1) cp6') (j + 1) ((psW m (j + 1)).flatMap c3) from by rw [HSU.out, List.flatMap_append]; simpa using HO5.out)
            have HXA := Lib.hid (show putA zs (psW m (j + 1)) = if q = 0 then (putA zs (psW m j)).set p xc else putA zs (psW m j) from by rw [HSU.out, putA_snoc]; rfl)
            have HXB := Lib.hid (show putB zs (psW m (j + 1)) = if q = 0 then putB zs (psW m j) else (putB zs (psW m j)).set p xc from by rw [HSU.out, putB_snoc]; rfl)
            clear HB HF HX HY HG HG5 HO5 r1 r2 r3 HSU
            have r1 := HR1.out wc HB5.out
            have r3 := HR3.out wc HB5.out
            have x1 := own_cellAt' HX5.out (by rw [putA_len]; exact HLL.out) (k := p) hp2
            have x2 := HX5.out.frozenAt p
            have x3 := (HX5.out.lt _ rfl).2
            obtain ⟨zx, hzx⟩ : ∃ z, (putA zs (psW m j)).getD p 0 = z := ⟨_, rfl⟩
            rw [hzx] at x1
            clear hzx
            have y1 := own_cellAt' HY5.out (by rw [putB_len]; exact HLL.out) (k := p) hp2
            have y2 := HY5.out.frozenAt p
            have y3 := (HY5.out.lt _ rfl).2
            obtain ⟨zy, hzy⟩ : ∃ z, (putB zs (psW m j)).getD p 0 = z := ⟨_, rfl⟩
            rw [hzy] at y1
            clear hzy
            by_cases hq : q = 0
            · subst hq
              rw [if_pos rfl] at HXA HXB
              go_upto_region 16 with fail
              refine wp_region_still_tail 13 (by kernel_rfl) (by kernel_rfl) ?_
              simp only [List.take_succ_cons, List.take_zero, List.drop_succ_cons, List.drop_zero]
              repeat (first | still_step | (refine wpStill_step (fun K hK => ?_); go_simp; refine ⟨_, HPK.out _, hK _ ?_⟩; clear hK K))
              try refine wpStill_nil ?_
              go_wp2_with fail
              go_roundg (30 - (j + 1))
              case measure => omega
              case rel =>
                have k1 : (some lo : Option Nat) ≠ (Value.slice (some ⟨g6, 0, none⟩) (j + 1) cp6').ownBlock := by have := own_ne HX5.out HO6.out (by decide); simpa [Value.ownBlock] using this
                have k2 : (some lo : Option Nat) ≠ (Value.slice a5 i cp5).ownBlock := by have := own_ne HX5.out HF5.out (by decide); simpa [Value.ownBlock] using this
                exact ⟨j + 1, _, _, by omega, by omega, by omega, rfl, by go_num, Lib.hid (own_set (w := wc.drew) HO6.out k1 _), Lib.hid (by rw [HXA.out, List.map_set]; exact (World.ownsRow.stored (w := wc.drew) HX5.out p (.int .i64 xc)).1), Lib.hid (by rw [HXB.out]; exact own_set (w := wc.drew) HY5.out (by simp only [Value.ownBlock]; exact fun e => hxy (Option.some.inj e)) _), Lib.hid (own_set (w := wc.drew) HF5.out k2 _), Lib.hid (Below.setCell (w := wc.drew) (below_drewN HB5.out 1) (Nat.le_refl _) _)⟩
            · have hq1 : ¬ q = 0 := hq
              rw [if_neg hq1] at HXA HXB
              go_upto_region 17 with fail
              refine wp_region_still_tail 13 (by kernel_rfl) (by kernel_rfl) ?_
              simp only [List.take_succ_cons, List.take_zero, List.drop_succ_cons, List.drop_zero]
              repeat (first | still_step | (refine wpStill_step (fun K hK => ?_); go_simp; refine ⟨_, HPK.out _, hK _ ?_⟩; clear hK K))
              try refine wpStill_nil ?_
              go_wp2_with fail
              go_roundg (30 - (j + 1))
              case measure => omega
              case rel =>
                have k1 : (some gy : Option Nat) ≠ (Value.slice (some ⟨g6, 0, none⟩) (j + 1) cp6').ownBlock := by have := own_ne HY5.out HO6.out (by decide); simpa [Value.ownBlock] using this
                have k2 : (some gy : Option Nat) ≠ (Value.slice a5 i cp5).ownBlock := by have := own_ne HY5.out HF5.out (by decide); simpa [Value.ownBlock] using this
                exact ⟨j + 1, _, _, by omega, by omega, by omega, rfl, by go_num, Lib.hid (own_set (w := wc.drew) HO6.out k1 _), Lib.hid (by rw [HXA.out]; exact own_set (w := wc.drew) HX5.out (by simp only [Value.ownBlock]; exact fun e => hxy.symm (Option.some.inj e)) _), Lib.hid (by rw [HXB.out, List.map_set]; exact (World.ownsRow.stored (w := wc.drew) HY5.out p (.int .i64 xc)).1), Lib.hid (own_set (w := wc.drew) HF5.out k2 _), Lib.hid (Below.setCell (w := wc.drew) (below_drewN HB5.out 1) HGY.out _)⟩
        · have hno : ¬ ((j : Int) < (m.length : Int)) ∨ ¬ ((j : Int) < 30) := by omega
          go_upto_region 11 with fail
          go_cut [64] from 57 to 64 (fun s24 wx => s24 = .bool false ∧ wx = wr)
          case first =>
            by_cases hq : (j : Int) < (m.length : Int)
            · have hq2 : ¬ (j : Int) < 30 := by omega
              go_wp2_with fail
              go_meet
              exact ⟨rfl, rfl⟩
            · go_wp2_with fail
              go_meet
              exact ⟨rfl, rfl⟩
          case rest =>
          obtain ⟨rfl, hwc⟩ := hcut
          have hwc := hwc.symm
          subst hwc
          have HOK := Lib.hid (psW_ok (l := m) (i := j) (fun r hr => (HM64.out r hr).2.2))
          have HP1 := Lib.hid (show P2R wr.heap.size wr (.slice a5 ps.length cp5) ps from by have := slN_of_owns (m := 8796093021952) (R := P2C) c2 (fun _ => rfl) (xs := ps) (by rw [HLP.out]; exact HF.out) (by omega) (by rw [HLP.out]; omega) (fun x hx => ⟨rfl, i64_small (HOKL.out x hx).1, (HOKL.out x hx).2⟩); rw [HLP.out]; exact this)
          have HP3 := Lib.hid (show P3R wr.heap.size wr (.slice a6 (psW m j).length cp6) (psW m j) from by have := slN_of_owns (m := 5864062014634) (R := P3C) c3 (fun _ => rfl) (xs := psW m j) (by rw [psW_len hj]; exact HG.out) (by omega) (by rw [psW_len hj]; omega) (fun x hx => ⟨rfl, i64_small (HOK.out x hx).1, (HOK.out x hx).2⟩); rw [psW_len hj]; exact this)
          have HPL := Lib.hid (play_any 32 _ _ ps (psW m j) wr (by unfold I64; omega) HP1.out HP3.out)
          obtain ⟨k, hk32, hpo⟩ := HPO.out (psW m j) (fun x hx => (HOK.out x hx).1)
          rw [hpo] at HPL
          have HWL := psW_len hj
          have HVA := Lib.hid (i64_putA h64.out (fun x hx => (HOK.out x hx).2.1))
          have HVB := Lib.hid (i64_putB h64.out (fun x hx => (HOK.out x hx).2.1))
          rw [HLP.out, HWL] at HPL
          have HIX := Lib.hid (show Ints wr.heap.size wr (.slice (some ⟨lo, 0, none⟩) 256 256) (putA zs (psW m j)) from by have h := ints_of_owns (w := wr) (v := .slice (some ⟨lo, 0, none⟩) 256 256) (zs := putA zs (psW m j)) (base := lo) (e := 3) (by rw [putA_len, HLL.out]; exact HX.out) (by rw [putA_len, HLL.out]; omega) HVA.out; exact h)
          have HIY := Lib.hid (show Ints wr.heap.size wr (.slice (some ⟨gy, 0, none⟩) 256 yc) (putB zs (psW m j)) from by have h := ints_of_owns (w := wr) (v := .slice (some ⟨gy, 0, none⟩) 256 yc) (zs := putB zs (psW m j)) (base := lo) (e := 3) (by rw [putB_len, HLL.out]; exact HY.out) (by rw [putB_len, HLL.out]; omega) HVB.out; exact h)
          have HA_ := Lib.hid (show (putA zs (psW m j)).length = 256 from by rw [putA_len, HLL.out])
          have HB_ := Lib.hid (show (putB zs (psW m j)).length = 256 from by rw [putB_len, HLL.out])
          generalize putA zs (psW m j) = za at *
          generalize putB zs (psW m j) = zb at *
          clear HF HG HX HY HP1 HP3 hpo HOK HVA HVB HWL
          go_wp2_with fail
          refine HPL.out.mono ?_
          rintro e w5 ⟨vx, vy, rfl, hx, hy, hb5⟩
          obtain ⟨xa, xc, rfl, -⟩ := id hx
          obtain ⟨ya, yd, rfl, -⟩ := id hy
          have HEX := Lib.hid (fun q => equalI_any _ _ za (w5.drewN q) (hx.to (Nat.le_refl _) (fun _ _ _ => rfl)) ((HIX.out.to hb5.size (same_below hb5)).to (Nat.le_refl _) (fun _ _ _ => rfl)))
          have HEY := Lib.hid (fun q => equalI_any _ _ zb (w5.drewN q) (hy.to (Nat.le_refl _) (fun _ _ _ => rfl)) ((HIY.out.to hb5.size (same_below hb5)).to (Nat.le_refl _) (fun _ _ _ => rfl)))
          have HB6 := Lib.hid (HB.out.trans (hb5.mono (by rw [HLO.out]; exact HB.out.size)))
          have hk33 : (k : Int) ≤ 32 := by omega
          rw [HA_.out] at HEX
          rw [HB_.out] at HEY
          simp only [HA_.out, HB_.out]
          clear hx hy hb5 HPL HIX HIY HB HA_ HB_
          generalize (k : Int) = kz at *
          go_wp2_with fail
          refine (HEX.out 0).mono ?_
          rintro e w6 ⟨rfl, q1, rfl⟩
          simp only [World.drewN_drewN]
          go_wp2_with fail
          refine (HEY.out _).mono ?_
          rintro e w7 ⟨rfl, q2, rfl⟩
          simp only [World.drewN_drewN]
          go_wp2_with fail
          go_ret
          exact ⟨ret_bool (by simp [hk33]), by rw [← HLO.out]; exact below_drewN HB6.out _⟩

set_option maxRecDepth 100000 in
theorem lifted (os : Os) (started : os.Started) (H : Type) (enc : TypeId × Value → H) :
    ReturnsInHanded {} Try.checked os 4 .any (Rows.spacesApartSpec.pre6 enc Try.prog Try.f4 Rows.spacesApartRow.domain false) (Rows.spacesApartSpec.post enc Try.prog Try.f4 false true false false) := by
  refine returnsInHanded_of_change_sized (C := Try.checked) Facts.own started (by kernel_rfl) Try.func4
    (ChangeSpec.witness6 (enc := enc) (C := Try.checked) false ⟨#[], #[.slice none 0 0, .slice none 0 0], []⟩ 8 (by kernel_rfl) (by kernel_rfl) (by kernel_rfl) (by kernel_rfl)) ?_
  intro W base args ds gs before hval0 hW hcnd hsz0 _
  have hsz : (DataW.weightsEach Try.prog (Try.f4.params.toList ++ Rows.spacesApartSpec.plain.varTypes Try.prog) (ds ++ gs)).all (· ≤ reachBytes) = true := hsz0
  have hval : ∀ (j : Nat) t v, Try.f4.params[j]? = some t → args[j]? = some v → Value.okWide Try.prog W .any base t v := hval0
  have hW' := hW
  obtain ⟨p, q, hA0, hV, rfl, hfz, hnd⟩ := hW
  have hA : DataW.TrodAll enc Try.prog W 0 (fun _ => true) true Try.f4.params.toList args.toList ds p := hA0
  rw [Try.params4] at hA hval hsz
  obtain ⟨v0, vs0, d0, ds0, p0, q0, hargs, rfl, rfl, h0, r0⟩ := trodAll_cons hA
  obtain ⟨v1, vs1, d1, ds1, p1, q1, rfl, rfl, rfl, h1, r1⟩ := trodAll_cons r0
  obtain ⟨rfl, rfl, rfl⟩ := trodAll_nil r1
  obtain rfl : args = #[v0, v1] := by cases args; simp_all
  obtain ⟨rfl, rfl⟩ := trodVars_none hV
  have k0 := h0
  have lt0 : ∀ x ∈ p0, x.block < W.heap.size := by obtain ⟨m, hm⟩ := k0; exact DataW.trod_lt m _ _ _ hm
  obtain ⟨x0_0, w0⟩ := open_rawsR (hval 0 30 v0 rfl rfl) h0 (fits_at hsz (j := 0) rfl rfl)
  have k1 := h1
  have lt1 : ∀ x ∈ p1, x.block < W.heap.size := by obtain ⟨m, hm⟩ := k1; exact DataW.trod_lt m _ _ _ hm
  obtain ⟨x1_0, w1⟩ := open_rawsR (hval 1 30 v1 rfl rfl) h1 (fits_at hsz (j := 1) rfl rfl)
  clear hA0 hval0
  refine (walk W v0 x0_0 w0 v1 x1_0 w1).mono fun e W' ⟨he, bel⟩ => ?_
  subst he
  exact ⟨_, rfl, _, _, _, [], _, [], hW', trodAll_mk1 (shut_bool Try.underlying4 _), (trodAll_cons_mk (Below.trod Facts.laidOut (by kernel_rfl) (of_decide_eq_true (by kernel_rfl)) k0 bel lt0) (trodAll_cons_mk (Below.trod Facts.laidOut (by kernel_rfl) (of_decide_eq_true (by kernel_rfl)) k1 bel lt1) trodAll_mk0)), rfl, bel.frame _, fun h => by cases h⟩

theorem closed : joinedFacts Try.prog 4 Try.f4 Rows.spacesApartSpec Rows.spacesApartRow = true := by
  unfold joinedFacts
  rw [Facts.enters, Facts.lifts, Facts.made]
  kernel_rfl

theorem over : Rows.spacesApartRow.holds Try.pinned (OpenSpec.ofChange Rows.spacesApartSpec) :=
  OpenClaim.holds_of_wide 4 Try.f4 rfl rfl rfl rfl rfl rfl rfl ⟨rfl, rfl, rfl, rfl, rfl⟩ rfl rfl rfl rfl rfl (by kernel_rfl) Try.func4 closed
    (of_decide_eq_true (by kernel_rfl)) (by unfold Func.isWrapper; first | (rw [if_pos (by decide +kernel)]; kernel_rfl) | (rw [if_neg (by decide +kernel)]; exact ⟨rfl, rfl⟩))
    (fun os started H enc _ => lifted os started H enc)

theorem proved : Rows.SpacesApartSaid := over
#print axioms proved
end Go.Proofs.Ytpmdlmgmfggioaa.lSpacesApart
