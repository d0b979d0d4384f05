/- Several texts joined, each with its own heading in the notes: A space is dropped. A space is forked. A new space; a space's words. No condition beyond those of each row. -/
import Derived.Test.YtpmdlmgmfggioaaYHv
import Derived.Deep.LoopGhost
import Derived.Handy
import Derived.StillTailTactics
import Derived.Deep.RegionWith
import Derived.Deep.RegionLaw
import Derived.Deep.CutBlock
import Derived.Deep.CutRange
import Derived.Deep.RegionHeld3
import Derived.Test.YtpmdlmgmfggioaaYPk
namespace Go.Proofs.Ytpmdlmgmfggioaa
open Go Go.RowKit Go.ChangeShapes Go.WideShapes Go.Deep
set_option linter.unusedVariables false
attribute [local go_sem ↓] Go.wp_at_zero Go.wp_at_succ

/-- Where the frames of a host lie, seen from an elder world. -/
def Since (w : World) (F : Nat → Prop) (rs : List (List Int)) (zs : List Int) (ad ar : Option Addr) (cd cr : Nat) (vs : List Value) : Prop := ∀ g, FrB (.slice ad rs.length cd) (.slice ar zs.length cr) vs g → F g ∨ w.heap.size ≤ g
theorem index_pages {pg : List Int} {q : Nat} (hq : q < 16) {z : Int} (hz : pg[q]? = some z) (w : World) : (Instr.index 56 (.agg (pg.map (Value.int .i64)).toArray) (.int .i64 q)).run Try.prog w = .ok (.int .i64 z) w := by
  simp [Instr.index, go_sem, hq, hz]
theorem drop_close {sb hb : Nat} {wr wq w2 w3 w4 : World} {rs2 : List (List Int)} {zs2 : List Int} {ad1 ar1 ad2 ar2 : Option Addr} {cd1 cr1 cd2 cr2 n1 n2 : Nat} {vs2 : List Value} {pg : List Int} {fl : Int} (hq : Below wr.heap.size wr wq) (ho : FrOwn wq.heap.size w2 (.slice ad2 rs2.length cd2) (.slice ar2 zs2.length cr2) rs2 zs2 vs2) (hb2 : Below wq.heap.size wq w2) (hx : w2.heap[hb]? = some (.cells #[.slice ad1 n1 cd1, .slice ar1 n2 cr1] 45 (0, 0))) (hs : SpcS sb hb pg fl w2) (e1 : w3 = w2.setCell ⟨hb, 0, none⟩ (.slice ad2 rs2.length cd2)) (e2 : w4 = w3.setCell ⟨hb, 1, none⟩ (.slice ar2 zs2.length cr2)) : ∃ (ad2 ar2 : Option Addr) (cd2 cr2 : Nat) (vs2 : List Value), Hid (w4.heap[hb]? = some (.cells #[.slice ad2 rs2.length cd2, .slice ar2 zs2.length cr2] 45 (0, 0))) ∧ Hid (FrOwn wr.heap.size w4 (.slice ad2 rs2.length cd2) (.slice ar2 zs2.length cr2) rs2 zs2 vs2) ∧ Hid (SpcS sb hb pg fl w4) ∧ Hid (OutF (fun g => g = hb) wr w4) := by
  have hne : sb ≠ hb := fun e => by unfold SpcS at hs; rw [e, hx] at hs; injection hs with hs; injection hs with _ h2; exact absurd h2 (by decide)
  have hw := hq.trans (hb2.mono hq.size)
  have x1 : w3.heap[hb]? = some (.cells #[.slice ad2 rs2.length cd2, .slice ar1 n2 cr1] 45 (0, 0)) := by rw [e1]; exact set_block hx _
  have x2 : w4.heap[hb]? = some (.cells #[.slice ad2 rs2.length cd2, .slice ar2 zs2.length cr2] 45 (0, 0)) := by rw [e2]; exact set_block x1 _
  have f1 : FrOwn wr.heap.size w3 (.slice ad2 rs2.length cd2) (.slice ar2 zs2.length cr2) rs2 zs2 vs2 := by rw [e1]; exact (ho.base hq.size).set hx (by decide) (by decide)
  have f2 : FrOwn wr.heap.size w4 (.slice ad2 rs2.length cd2) (.slice ar2 zs2.length cr2) rs2 zs2 vs2 := by rw [e2]; exact f1.set x1 (by decide) (by decide)
  have s1 : SpcS sb hb pg fl w3 := by rw [e1]; exact set_block_ne hs hne _
  have s2 : SpcS sb hb pg fl w4 := by rw [e2]; exact set_block_ne s1 hne _
  refine ⟨ad2, ar2, cd2, cr2, vs2, Lib.hid x2, Lib.hid f2, Lib.hid s2, Lib.hid ?_⟩
  rw [e2, e1]
  exact ((OutF.of hw (fun g => g = hb)).setCell (Or.inl rfl) _).setCell (Or.inl rfl) _

end Go.Proofs.Ytpmdlmgmfggioaa
namespace Go.Proofs.Ytpmdlmgmfggioaa
open Go Go.RowKit Go.ChangeShapes Go.WideShapes Go.Deep
set_option linter.unusedVariables false
attribute [local go_sem ↓] Go.wp_at_zero Go.wp_at_succ

/-- A frame is known by one more. -/
theorem HoS.share1 {hb N : Nat} {rest : List (List Int)} {w : World} {rs : List (List Int)} {zs : List Int} {ad ar : Option Addr} {cd cr : Nat} {vs : List Value} {pgq pg : List Int} {q n : Nat} (h : HoS hb N (pgq :: rest) w rs zs ad ar cd cr vs) (hm : pg ∈ rest) (hl : rest.length ≤ 11) (hq : q < 16) (he : pgq.getD q (-1) = -1) (hp : pg.getD q (-1) = n) : ∃ zs2, (∀ W, Below w.heap.size w W → Calls Try.prog 21 #[.agg #[.slice ad rs.length cd, .slice ar zs.length cr], .int .i64 (n : Int)] W (FrYes W rs zs2)) ∧ HOk rs zs2 (pgq.set q n :: rest) ∧ zs2.length = zs.length := by
  have hlp : pg.length = 16 := h.ok.len pg (List.mem_cons_of_mem _ hm)
  have hmp : (n : Int) ∈ pg := by rw [← hp]; exact pg_getD (by omega) _
  have hn : n < zs.length := by rcases h.ok.rng pg (List.mem_cons_of_mem _ hm) _ hmp with e | e <;> omega
  have hc : 1 ≤ cntP rest n := cnt_pos hm hmp
  have hrf := h.ok.ref n hn
  have hcl := cnt_le (n := n) h.ok.len
  have hcc : cntP (pgq :: rest) n = pgq.count (n : Int) + cntP rest n := rfl
  have hk : Kn zs n := ⟨by omega, by omega, by rw [Int.toNat_natCast]; omega⟩
  rw [List.length_cons] at hcl
  have hz : zs.getD n 0 < 200 := by omega
  refine ⟨zs.set n (zs.getD n 0 + 1), fun W hb => (share_yes _ rs zs n _ W ((h.host.own.reads h.ok.bd).to hb.size (same_below hb)) h.ok.ok hk rfl).2 (by omega), h.ok.share (i := 0) (by simp) hq he hn rfl (by omega) hz, by simp⟩
theorem drop_close2 {sb hb : Nat} {wr w2 w3 w4 w5 : World} {rs2 : List (List Int)} {zs2 : List Int} {ad1 ar1 ad2 ar2 : Option Addr} {cd1 cr1 cd2 cr2 n1 n2 : Nat} {vs2 : List Value} {pg : List Int} {fl : Int} (ho : FrOwn wr.heap.size w2 (.slice ad2 rs2.length cd2) (.slice ar2 zs2.length cr2) rs2 zs2 vs2) (hb2 : Below wr.heap.size wr w2) (hx : w2.heap[hb]? = some (.cells #[.slice ad1 n1 cd1, .slice ar1 n2 cr1] 45 (0, 0))) (hs : SpcS sb hb pg fl w2) (e1 : w3 = w2.setCell ⟨hb, 0, none⟩ (.slice ad2 rs2.length cd2)) (e2 : w4 = w3.setCell ⟨hb, 1, none⟩ (.slice ar2 zs2.length cr2)) (e3 : w5 = w4.drew) : ∃ (ad2 ar2 : Option Addr) (cd2 cr2 : Nat) (vs2 : List Value), Hid (w5.heap[hb]? = some (.cells #[.slice ad2 rs2.length cd2, .slice ar2 zs2.length cr2] 45 (0, 0))) ∧ Hid (FrOwn wr.heap.size w5 (.slice ad2 rs2.length cd2) (.slice ar2 zs2.length cr2) rs2 zs2 vs2) ∧ Hid (SpcS sb hb pg fl w5) ∧ Hid (OutF (fun g => g = hb) wr w5) := by
  obtain ⟨ad3, ar3, cd3, cr3, vs3, h1, h2, h3, h4⟩ := drop_close (Below.refl _ _) ho hb2 hx hs e1 e2
  rw [e3]
  exact ⟨ad3, ar3, cd3, cr3, vs3, Lib.hid h1.out, Lib.hid (h2.out.keep (fun g _ => rfl)), Lib.hid h3.out, Lib.hid (h4.out.drewN 1)⟩
theorem spc_lit {hb : Nat} {pg : List Int} {fl : Int} {v0 v1 v2 v3 v4 v5 v6 v7 v8 v9 v10 v11 v12 v13 v14 v15 : Value} (h : (#[v0, v1, v2, v3, v4, v5, v6, v7, v8, v9, v10, v11, v12, v13, v14, v15] : Array Value) = (pg.map (Value.int .i64)).toArray) : (#[.pointer (some ⟨hb, 0, none⟩), v0, v1, v2, v3, v4, v5, v6, v7, v8, v9, v10, v11, v12, v13, v14, v15, .int .i64 fl] : Array Value) = (spL hb pg fl).toArray := by
  have e : [v0, v1, v2, v3, v4, v5, v6, v7, v8, v9, v10, v11, v12, v13, v14, v15] = pg.map (Value.int .i64) := congrArg Array.toList h
  unfold spL
  rw [← e]
  rfl
def ForkP (hb N : Nat) (pg : List Int) (rest : List (List Int)) (F : Nat → Prop) (rs : List (List Int)) (w : World) (nb : Nat) (w' : World) : Prop := ∃ zs ad ar cd cr vs, HoS hb N (pg :: rest) w' rs zs ad ar cd cr vs ∧ OutF F w w' ∧ Since w F rs zs ad ar cd cr vs ∧ SpcS nb hb pg 0 w' ∧ w.heap.size ≤ nb

set_option maxHeartbeats 8000000 in
set_option maxRecDepth 100000 in
theorem space_fork {sb hb N : Nat} {rest : List (List Int)} {w : World} {rs : List (List Int)} {zs : List Int} {ad ar : Option Addr} {cd cr : Nat} {vs : List Value} {pg : List Int} {fl : Int} (h : HoS hb N rest w rs zs ad ar cd cr vs) (hm : pg ∈ rest) (hlr : rest.length ≤ 11) (hs : SpcS sb hb pg fl w) : Calls Try.prog 15 #[.pointer (some ⟨sb, 0, none⟩)] w fun e w' => ∃ nb, e = .returned (.tuple #[.pointer (some ⟨nb, 0, none⟩), .int .i64 0]) ∧ ForkP hb N pg rest (HoF hb rs zs ad ar cd cr vs) rs w nb w' := by
  have HH := Lib.hid h
  have HS := Lib.hid hs
  have HMM := Lib.hid hm
  have HLR := Lib.hid hlr
  have hl : pg.length = 16 := h.ok.len pg hm
  have l1 := spc_lt hs
  have c0 := spc_host hs
  have HPA := Lib.hid (pages_arr hl)
  have HSL : Hid (spL hb pg 0 = .pointer (some ⟨hb, 0, none⟩) :: (pg.map (Value.int .i64) ++ [.int .i64 0])) := Lib.hid rfl
  have c1 : w.cell? ⟨sb, 1, none⟩ = some (.int .i64 (pg.getD 0 (-1))) := spc_page hs hl (p := 0) (by omega)
  have c2 : w.cell? ⟨sb, 2, none⟩ = some (.int .i64 (pg.getD 1 (-1))) := spc_page hs hl (p := 1) (by omega)
  have c3 : w.cell? ⟨sb, 3, none⟩ = some (.int .i64 (pg.getD 2 (-1))) := spc_page hs hl (p := 2) (by omega)
  have c4 : w.cell? ⟨sb, 4, none⟩ = some (.int .i64 (pg.getD 3 (-1))) := spc_page hs hl (p := 3) (by omega)
  have c5 : w.cell? ⟨sb, 5, none⟩ = some (.int .i64 (pg.getD 4 (-1))) := spc_page hs hl (p := 4) (by omega)
  have c6 : w.cell? ⟨sb, 6, none⟩ = some (.int .i64 (pg.getD 5 (-1))) := spc_page hs hl (p := 5) (by omega)
  have c7 : w.cell? ⟨sb, 7, none⟩ = some (.int .i64 (pg.getD 6 (-1))) := spc_page hs hl (p := 6) (by omega)
  have c8 : w.cell? ⟨sb, 8, none⟩ = some (.int .i64 (pg.getD 7 (-1))) := spc_page hs hl (p := 7) (by omega)
  have c9 : w.cell? ⟨sb, 9, none⟩ = some (.int .i64 (pg.getD 8 (-1))) := spc_page hs hl (p := 8) (by omega)
  have c10 : w.cell? ⟨sb, 10, none⟩ = some (.int .i64 (pg.getD 9 (-1))) := spc_page hs hl (p := 9) (by omega)
  have c11 : w.cell? ⟨sb, 11, none⟩ = some (.int .i64 (pg.getD 10 (-1))) := spc_page hs hl (p := 10) (by omega)
  have c12 : w.cell? ⟨sb, 12, none⟩ = some (.int .i64 (pg.getD 11 (-1))) := spc_page hs hl (p := 11) (by omega)
  have c13 : w.cell? ⟨sb, 13, none⟩ = some (.int .i64 (pg.getD 12 (-1))) := spc_page hs hl (p := 12) (by omega)
  have c14 : w.cell? ⟨sb, 14, none⟩ = some (.int .i64 (pg.getD 13 (-1))) := spc_page hs hl (p := 13) (by omega)
  have c15 : w.cell? ⟨sb, 15, none⟩ = some (.int .i64 (pg.getD 14 (-1))) := spc_page hs hl (p := 14) (by omega)
  have c16 : w.cell? ⟨sb, 16, none⟩ = some (.int .i64 (pg.getD 15 (-1))) := spc_page hs hl (p := 15) (by omega)
  obtain ⟨z0, hz0⟩ : ∃ z, pg.getD 0 (-1) = z := ⟨_, rfl⟩
  rw [hz0] at c1 HPA
  clear hz0
  obtain ⟨z1, hz1⟩ : ∃ z, pg.getD 1 (-1) = z := ⟨_, rfl⟩
  rw [hz1] at c2 HPA
  clear hz1
  obtain ⟨z2, hz2⟩ : ∃ z, pg.getD 2 (-1) = z := ⟨_, rfl⟩
  rw [hz2] at c3 HPA
  clear hz2
  obtain ⟨z3, hz3⟩ : ∃ z, pg.getD 3 (-1) = z := ⟨_, rfl⟩
  rw [hz3] at c4 HPA
  clear hz3
  obtain ⟨z4, hz4⟩ : ∃ z, pg.getD 4 (-1) = z := ⟨_, rfl⟩
  rw [hz4] at c5 HPA
  clear hz4
  obtain ⟨z5, hz5⟩ : ∃ z, pg.getD 5 (-1) = z := ⟨_, rfl⟩
  rw [hz5] at c6 HPA
  clear hz5
  obtain ⟨z6, hz6⟩ : ∃ z, pg.getD 6 (-1) = z := ⟨_, rfl⟩
  rw [hz6] at c7 HPA
  clear hz6
  obtain ⟨z7, hz7⟩ : ∃ z, pg.getD 7 (-1) = z := ⟨_, rfl⟩
  rw [hz7] at c8 HPA
  clear hz7
  obtain ⟨z8, hz8⟩ : ∃ z, pg.getD 8 (-1) = z := ⟨_, rfl⟩
  rw [hz8] at c9 HPA
  clear hz8
  obtain ⟨z9, hz9⟩ : ∃ z, pg.getD 9 (-1) = z := ⟨_, rfl⟩
  rw [hz9] at c10 HPA
  clear hz9
  obtain ⟨z10, hz10⟩ : ∃ z, pg.getD 10 (-1) = z := ⟨_, rfl⟩
  rw [hz10] at c11 HPA
  clear hz10
  obtain ⟨z11, hz11⟩ : ∃ z, pg.getD 11 (-1) = z := ⟨_, rfl⟩
  rw [hz11] at c12 HPA
  clear hz11
  obtain ⟨z12, hz12⟩ : ∃ z, pg.getD 12 (-1) = z := ⟨_, rfl⟩
  rw [hz12] at c13 HPA
  clear hz12
  obtain ⟨z13, hz13⟩ : ∃ z, pg.getD 13 (-1) = z := ⟨_, rfl⟩
  rw [hz13] at c14 HPA
  clear hz13
  obtain ⟨z14, hz14⟩ : ∃ z, pg.getD 14 (-1) = z := ⟨_, rfl⟩
  rw [hz14] at c15 HPA
  clear hz14
  obtain ⟨z15, hz15⟩ : ∃ z, pg.getD 15 (-1) = z := ⟨_, rfl⟩
  rw [hz15] at c16 HPA
  clear hz15
  clear h hs hm hlr
  go_enter Try.func15, Try.ntmps15
  go_upto_region 1 with fail
  go_cut [4] from 9 to 18 (fun s4 wx => ∃ nb, s4 = .pointer (some ⟨nb, 0, none⟩) ∧ Hid (Below w.heap.size w wx) ∧ Hid (SpcS nb hb pg 0 wx) ∧ w.heap.size ≤ nb)
  case first =>
    go_region_with fail
    all_goals (go_wp2_with fail; go_meet)
    all_goals (case rel => exact ⟨_, rfl, Lib.hid (below_drewN ((Below.refl _ w).alloc (Nat.le_refl _) _) 1), Lib.hid (by unfold SpcS; rw [← spc_lit HPA.out]; exact alloc_at (w := w) rfl), Nat.le_refl _⟩)
  case rest =>
  obtain ⟨nb, rfl, HB1, HN1, hnb⟩ := hcut
  have HSC := Lib.hid (show SpcS sb hb pg fl wc from block_below HB1.out HS.out l1)
  have l1' := spc_lt HSC.out
  have d1 := (HB1.out.cell (p := ⟨sb, 1, none⟩) l1).trans c1
  have d2 := (HB1.out.cell (p := ⟨sb, 2, none⟩) l1).trans c2
  have d3 := (HB1.out.cell (p := ⟨sb, 3, none⟩) l1).trans c3
  have d4 := (HB1.out.cell (p := ⟨sb, 4, none⟩) l1).trans c4
  have d5 := (HB1.out.cell (p := ⟨sb, 5, none⟩) l1).trans c5
  have d6 := (HB1.out.cell (p := ⟨sb, 6, none⟩) l1).trans c6
  have d7 := (HB1.out.cell (p := ⟨sb, 7, none⟩) l1).trans c7
  have d8 := (HB1.out.cell (p := ⟨sb, 8, none⟩) l1).trans c8
  have d9 := (HB1.out.cell (p := ⟨sb, 9, none⟩) l1).trans c9
  have d10 := (HB1.out.cell (p := ⟨sb, 10, none⟩) l1).trans c10
  have d11 := (HB1.out.cell (p := ⟨sb, 11, none⟩) l1).trans c11
  have d12 := (HB1.out.cell (p := ⟨sb, 12, none⟩) l1).trans c12
  have d13 := (HB1.out.cell (p := ⟨sb, 13, none⟩) l1).trans c13
  have d14 := (HB1.out.cell (p := ⟨sb, 14, none⟩) l1).trans c14
  have d15 := (HB1.out.cell (p := ⟨sb, 15, none⟩) l1).trans c15
  have d16 := (HB1.out.cell (p := ⟨sb, 16, none⟩) l1).trans c16
  clear c0 c1 c2 c3 c4 c5 c6 c7 c8 c9 c10 c11 c12 c13 c14 c15 c16
  go_upto_block 0 with fail
  rw [HPA.out]
  clear l1 l1' d1 d2 d3 d4 d5 d6 d7 d8 d9 d10 d11 d12 d13 d14 d15 d16
  go_wp2_with fail
  go_loopg [6, 7, 8, 23] 16 (fun gh s6 s7 s8 s23 wr => ∃ q : Nat, q ≤ 16 ∧ gh = 16 - q ∧ s23 = .int .i64 q ∧ ∃ zs1 ad1 ar1 cd1 cr1 vs1, Hid (HoS hb N (prePg pg q :: rest) wr rs zs1 ad1 ar1 cd1 cr1 vs1) ∧ Hid (OutF (HoF hb rs zs ad ar cd cr vs) w wr) ∧ Hid (Since w (HoF hb rs zs ad ar cd cr vs) rs zs1 ad1 ar1 cd1 cr1 vs1) ∧ Hid (SpcS nb hb pg 0 wr) ∧ Hid (SpcS sb hb pg fl wr))
  case atStart =>
    refine ⟨0, Nat.zero_le _, by omega, rfl, zs, ad, ar, cd, cr, vs, Lib.hid ?_, Lib.hid (OutF.of HB1.out _), Lib.hid (fun g hg => Or.inl (Or.inr hg)), HN1, HSC⟩
    have h := HH.out.stay (w' := wc) (fun g hg => HB1.out.block g (HH.out.lt g hg))
    exact ⟨h.host, h.ok.fresh, h.n⟩
  case round =>
    obtain ⟨q, hq, rfl, rfl, zs1, ad1, ar1, cd1, cr1, vs1, HO1, HF1, HI1, HNB, HSB⟩ := hrel
    by_cases hlt : q < 16
    · have hq1 : (q : Int) < 16 := by omega
      have hq0 : (0 : Int) ≤ (q : Int) := by omega
      obtain ⟨z, hz⟩ : ∃ z, pg.getD q (-1) = z := ⟨_, rfl⟩
      have HZ := Lib.hid hz
      have hgz : pg[q]? = some z := by rw [← hz, List.getElem?_eq_getElem (by omega), getD_of (by omega)]
      have hm : z ∈ pg := by rw [← hz]; exact pg_getD (by omega) _
      clear hz
      have hix := index_pages (q := q) hlt hgz wr
      have hqw : IntKind.i64.wrap ((q : Int) + 1) = (q : Int) + 1 := IntWalk.i64_in _ (by omega)
      have hlq : (prePg pg q).length = 16 := prePg_len hl (by omega)
      have HAT := Lib.hid (prePg_at hl hlt)
      have HST := Lib.hid (show prePg pg (q + 1) = (prePg pg q).set q z from by rw [prePg_step hl hlt, HZ.out])
      have hen2 : z = -1 ∨ ∃ n : Nat, z = n := by
        rcases HH.out.ok.rng pg HMM.out z hm with e | ⟨e1, e2⟩
        · exact Or.inl e
        · exact Or.inr ⟨z.toNat, by omega⟩
      clear hgz hm
      rcases hen2 with rfl | ⟨n, rfl⟩
      · have HSM := Lib.hid (show prePg pg (q + 1) = prePg pg q from by rw [HST.out]; exact set_same_page HAT.out (by omega))
        go_wp2_with fail
        go_roundg (16 - (q + 1))
        case measure => omega
        case rel => exact ⟨q + 1, by omega, rfl, by go_num, zs1, ad1, ar1, cd1, cr1, vs1, by rw [HSM.out]; exact HO1, HF1, HI1, HNB, HSB⟩
      · obtain ⟨zs2, HC, hok2, hz2⟩ := HO1.out.share1 HMM.out HLR.out hlt HAT.out HZ.out
        have HCC := Lib.hid HC
        have HOK2 := Lib.hid hok2
        have HZ2 := Lib.hid hz2
        have hn0 : ¬ (n : Int) < 0 := by omega
        clear HC hok2 hz2
        go_upto_region 6 with fail
        clear hix
        have HX := Lib.hid HO1.out.host.box
        have s0 := spc_host HSB.out
        have ls := spc_lt HSB.out
        have b0 : wr.cell? ⟨hb, 0, none⟩ = some (.slice ad1 rs.length cd1) := cell_block HX.out 0
        have b1 : wr.cell? ⟨hb, 1, none⟩ = some (.slice ar1 zs1.length cr1) := cell_block HX.out 1
        have lh : hb < wr.heap.size := (Array.getElem?_eq_some_iff.1 HX.out).1
        have hne : ¬ sb = hb := fun e => by have h := HSB.out; unfold SpcS at h; rw [e, HX.out] at h; injection h with h; injection h with _ h2; exact absurd h2 (by decide)
        have hne2 : ¬ nb = hb := fun e => by have h := HNB.out; unfold SpcS at h; rw [e, HX.out] at h; injection h with h; injection h with _ h2; exact absurd h2 (by decide)
        have lnb := spc_lt HNB.out
        go_wp2_with fail
        refine (HCC.out _ (Below.refl _ _)).mono ?_
        rintro e w2 ⟨ad2, cd2, ar2, cr2, vs2, rfl, hown, hb2⟩
        have HOWN := Lib.hid hown
        have HB2 := Lib.hid hb2
        have hs2 := hb2.size
        clear hown hb2 b0 b1 s0
        go_upto_region 9 with fail
        obtain ⟨W3, hW3⟩ : ∃ W3, W3 = w2.alloc (.cells #[.slice ad2 rs.length cd2, .slice ar2 zs2.length cr2] 40 (0, 0)) := ⟨_, rfl⟩
        rw [← hW3]
        have HB3 := Lib.hid (show Below wr.heap.size wr W3 from by rw [hW3]; exact HB2.out.alloc hs2 _)
        have HO3 := Lib.hid (show FrOwn wr.heap.size W3 (.slice ad2 rs.length cd2) (.slice ar2 zs2.length cr2) rs zs2 vs2 from by rw [hW3]; exact frown_below HOWN.out (below_alloc _ _))
        have hfx : W3.heap[w2.heap.size]? = some (.cells #[.slice ad2 rs.length cd2, .slice ar2 zs2.length cr2] 40 (0, 0)) := by rw [hW3]; exact alloc_at rfl
        have hx3 := block_below HB3.out HX.out lh
        have hp3 : SpcS sb hb pg fl W3 := block_below HB3.out HSB.out ls
        have HX3 := Lib.hid hx3
        have HP3 := Lib.hid hp3
        have s0 := spc_host hp3
        have b0 : W3.cell? ⟨hb, 0, none⟩ = some (.slice ad1 rs.length cd1) := cell_block hx3 0
        have b1 : W3.cell? ⟨hb, 1, none⟩ = some (.slice ar1 zs1.length cr1) := cell_block hx3 1
        have g0 := free_block hx3 0
        have g1 := free_block hx3 1
        have f0 : W3.cell? ⟨w2.heap.size, 0, none⟩ = some (.slice ad2 rs.length cd2) := cell_block hfx 0
        have f1 : W3.cell? ⟨w2.heap.size, 1, none⟩ = some (.slice ar2 zs2.length cr2) := cell_block hfx 1
        have lf3 : w2.heap.size < W3.heap.size := (Array.getElem?_eq_some_iff.1 hfx).1
        have lh3 : hb < W3.heap.size := (Array.getElem?_eq_some_iff.1 hx3).1
        have ls3 := spc_lt hp3
        have hfh : ¬ w2.heap.size = hb := by omega
        have hfs : ¬ w2.heap.size = sb := by omega
        clear hW3 hx3 hp3 hfx HB2 HOWN lh hs2
        generalize w2.heap.size = fb at *
        have HFR : Hid (∀ w5 : World, (∃ (ad3 ar3 : Option Addr) (cd3 cr3 : Nat) (vs3 : List Value), Hid (w5.heap[hb]? = some (.cells #[.slice ad3 rs.length cd3, .slice ar3 zs2.length cr3] 45 (0, 0))) ∧ Hid (FrOwn wr.heap.size w5 (.slice ad3 rs.length cd3) (.slice ar3 zs2.length cr3) rs zs2 vs3) ∧ Hid (SpcS sb hb pg fl w5) ∧ Hid (OutF (fun g => g = hb) wr w5)) → ∃ q2 : Nat, q2 ≤ 16 ∧ 16 - (q + 1) = 16 - q2 ∧ Value.int .i64 ((q : Int) + 1) = .int .i64 (q2 : Int) ∧ ∃ zs1 ad1 ar1 cd1 cr1 vs1, Hid (HoS hb N (prePg pg q2 :: rest) w5 rs zs1 ad1 ar1 cd1 cr1 vs1) ∧ Hid (OutF (HoF hb rs zs ad ar cd cr vs) w w5) ∧ Hid (Since w (HoF hb rs zs ad ar cd cr vs) rs zs1 ad1 ar1 cd1 cr1 vs1) ∧ Hid (SpcS nb hb pg 0 w5) ∧ Hid (SpcS sb hb pg fl w5)) := Lib.hid (fun w5 hcl => by
          obtain ⟨ad3, ar3, cd3, cr3, vs3, HX4, HOW4, HP4, HF4⟩ := hcl
          have hsz := HF1.out.size
          exact ⟨q + 1, by omega, rfl, by go_num, zs2, ad3, ar3, cd3, cr3, vs3, Lib.hid ⟨⟨HX4.out, HOW4.out.base (Nat.zero_le _)⟩, by rw [HST.out]; exact HOK2.out, by rw [HZ2.out]; exact HO1.out.n⟩, Lib.hid (HF1.out.trans HF4.out (fun g e => Or.inl (Or.inl e))), Lib.hid (fun g hg => Or.inr (by have := (HOW4.out.frlt g hg).1; omega)), Lib.hid (HF4.out.at HNB.out hne2), HP4⟩)
        go_region_with fail
        all_goals (go_wp2_with fail; go_roundg (16 - (q + 1)); (case measure => omega); (case rel => exact HFR.out _ (by first | exact drop_close (Below.refl _ _) HO3.out HB3.out HX3.out HP3.out rfl rfl | exact drop_close2 HO3.out HB3.out HX3.out HP3.out rfl rfl rfl)))
    · obtain rfl : q = 16 := by omega
      have HFU := Lib.hid (prePg_full hl)
      clear hlt
      go_wp2_with fail
      go_ret2
      refine ⟨nb, rfl, zs1, ad1, ar1, cd1, cr1, vs1, ?_, HF1.out, HI1.out, HNB.out, hnb⟩
      have h := HO1.out
      rw [HFU.out] at h
      exact h
end Go.Proofs.Ytpmdlmgmfggioaa
namespace Go.Proofs.Ytpmdlmgmfggioaa
open Go Go.RowKit Go.ChangeShapes Go.WideShapes Go.Deep
set_option linter.unusedVariables false
attribute [local go_sem ↓] Go.wp_at_zero Go.wp_at_succ

theorem words_step {mem : List Int} (hl : mem.length = 256) {q : Nat} (hq : q < 256) : mem.take (q + 1) ++ List.replicate (256 - (q + 1)) 0 = (mem.take q ++ List.replicate (256 - q) 0).set q (mem.getD q 0) := by
  apply List.ext_getElem?
  intro i
  rw [List.getElem?_set]
  have hln : (mem.take q ++ List.replicate (256 - q) (0 : Int)).length = 256 := by rw [List.length_append, List.length_take, List.length_replicate]; omega
  rw [hln]
  by_cases h1 : q = i
  · subst h1
    rw [if_pos rfl, if_pos hq, List.getElem?_append_left (by rw [List.length_take]; omega), List.getElem?_take, if_pos (by omega), List.getElem?_eq_getElem (by omega), getD_of (by omega)]
  · rw [if_neg h1]
    by_cases h2 : i < q
    · rw [List.getElem?_append_left (by rw [List.length_take]; omega), List.getElem?_append_left (by rw [List.length_take]; omega), List.getElem?_take, List.getElem?_take, if_pos (by omega), if_pos h2]
    · rw [List.getElem?_append_right (by rw [List.length_take]; omega), List.getElem?_append_right (by rw [List.length_take]; omega), List.length_take, List.length_take, List.getElem?_replicate, List.getElem?_replicate]
      by_cases h3 : i < 256
      · rw [if_pos (by omega), if_pos (by omega)]
      · rw [if_neg (by omega), if_neg (by omega)]
theorem own_cellAt' {w : World} {b g c n : Nat} {zs : List Int} (h : w.ownsRow b 3 1 (.slice (some ⟨g, 0, none⟩) n c) n (zs.map (Value.int .i64))) (hl : zs.length = n) {k : Nat} (hk : k < n) : w.cell? ⟨g, k, none⟩ = some (.int .i64 (zs.getD k 0)) := by
  rw [h.cellAt k (by omega), List.getElem?_map, List.getElem?_eq_getElem (by omega), getD_of (by omega)]
  rfl

set_option maxHeartbeats 8000000 in
set_option maxRecDepth 100000 in
theorem space_new (hb : Nat) (w : World) : Calls Try.prog 12 #[.pointer (some ⟨hb, 0, none⟩)] w fun e w' => ∃ nb, e = .returned (.pointer (some ⟨nb, 0, none⟩)) ∧ Below w.heap.size w w' ∧ SpcS nb hb (List.replicate 16 (-1)) 0 w' ∧ w.heap.size ≤ nb := by
  have hz : (List.replicate 16 (0 : Int)).length = 16 := by simp
  go_enter Try.func12, Try.ntmps12
  go_upto_block 0 with fail
  obtain ⟨W1, hW1⟩ : ∃ W1, W1 = w.alloc (.cells #[.pointer (some ⟨hb, 0, none⟩), .int .i64 0, .int .i64 0, .int .i64 0, .int .i64 0, .int .i64 0, .int .i64 0, .int .i64 0, .int .i64 0, .int .i64 0, .int .i64 0, .int .i64 0, .int .i64 0, .int .i64 0, .int .i64 0, .int .i64 0, .int .i64 0, .int .i64 0] 58 (0, 0)) := ⟨_, rfl⟩
  rw [← hW1]
  have HB1 := Lib.hid (show Below w.heap.size w W1 from by rw [hW1]; exact (Below.refl _ w).alloc (Nat.le_refl _) _)
  have HS1 := Lib.hid (show SpcS w.heap.size hb (sufPg (List.replicate 16 0) 0) 0 W1 from by rw [hW1]; exact alloc_at rfl)
  have hge : w.heap.size ≤ w.heap.size := Nat.le_refl _
  clear hW1
  generalize hnb : w.heap.size = nb at HS1 hge ⊢
  have HNB := Lib.hid hnb
  clear hnb
  go_wp2_with fail
  go_loopg [4, 8] 16 (fun gh s4 s8 wr => ∃ q : Nat, q ≤ 16 ∧ gh = 16 - q ∧ s8 = .int .i64 q ∧ Hid (Below w.heap.size w wr) ∧ Hid (SpcS nb hb (sufPg (List.replicate 16 0) q) 0 wr))
  case atStart => exact ⟨0, Nat.zero_le _, by omega, rfl, HB1, HS1⟩
  case round =>
    obtain ⟨q, hq, rfl, rfl, HB, HS⟩ := hrel
    by_cases hlt : q < 16
    · have hq1 : (q : Int) < 16 := by omega
      have hq0 : (0 : Int) ≤ (q : Int) := by omega
      have hqw : IntKind.i64.wrap ((q : Int) + 1) = (q : Int) + 1 := IntWalk.i64_in _ (by omega)
      have hlq : (sufPg (List.replicate 16 (0 : Int)) q).length = 16 := sufPg_len hz (by omega)
      have c1 := spc_page HS.out hlq hlt
      have g1 := free_block HS.out (1 + q)
      have l1 := spc_lt HS.out
      have HST := Lib.hid (sufPg_step hz hlt)
      have HLQ := Lib.hid hlq
      clear hlq hz
      generalize (sufPg (List.replicate 16 (0 : Int)) q).getD q (-1) = zz at *
      go_wp2_with fail
      go_roundg (16 - (q + 1))
      case measure => omega
      case rel => exact ⟨q + 1, by omega, rfl, by go_num, Lib.hid (HB.out.setCell (by rw [HNB.out]; exact Nat.le_refl _) _), Lib.hid (by rw [HST.out]; exact spc_put HS.out HLQ.out hlt (-1))⟩
    · obtain rfl : q = 16 := by omega
      have HF := Lib.hid (sufPg_full hz)
      clear hlt hz
      go_wp2_with fail
      go_ret
      exact ⟨nb, rfl, HB.out, by rw [← HF.out]; exact HS.out, by rw [HNB.out]; exact Nat.le_refl _⟩
set_option maxHeartbeats 8000000 in
set_option maxRecDepth 100000 in
theorem space_words {sb hb N : Nat} {oth om : List (List Int)} {w : World} {F : Nat → Prop} {mem : List Int} {x : Bool} (h : SpSt sb hb N oth om w F mem x) : Calls Try.prog 16 #[.pointer (some ⟨sb, 0, none⟩)] w fun e w' => ∃ a c, e = .returned (.slice a 256 c) ∧ w'.ownsRow w.heap.size 3 1 (.slice a 256 c) 256 (mem.map (Value.int .i64)) ∧ Below w.heap.size w w' := by
  have hml : mem.length = 256 := by
    obtain ⟨rs, zs, ad, ar, cd, cr, vs, pg, hs⟩ := h
    rw [hs.mem, memP_len]
  have HH := Lib.hid h
  have HML := Lib.hid hml
  clear h hml
  have mk := mk_ints 256 (by omega) (by omega) w
  go_enter Try.func16, Try.ntmps16
  go_upto_block 0 with fail
  obtain ⟨W1, hW1⟩ : ∃ W1, W1 = w.alloc (.cells (zeroInts 256) 3) := ⟨_, rfl⟩
  rw [← hW1]
  have HB1 := Lib.hid (show Below w.heap.size w W1 from by rw [hW1]; exact (Below.refl _ w).alloc (Nat.le_refl _) _)
  have HO1 := Lib.hid (show W1.ownsRow w.heap.size 3 1 (.slice (some ⟨w.heap.size, 0, none⟩) 256 256) 256 ((mem.take 0 ++ List.replicate (256 - 0) 0).map (Value.int .i64)) from by rw [hW1]; exact own_block (zs := List.replicate 256 (0 : Int)) (by rw [← zeroInts_eq]; exact alloc_at rfl) (Nat.le_refl _) (by simp) (by omega))
  clear hW1 mk
  go_wp2_with fail
  go_loopg [4, 8] 256 (fun gh s4 s8 wr => ∃ q : Nat, q ≤ 256 ∧ gh = 256 - q ∧ s8 = .int .i64 q ∧ Hid (Below w.heap.size w wr) ∧ Hid (wr.ownsRow w.heap.size 3 1 (.slice (some ⟨w.heap.size, 0, none⟩) 256 256) 256 ((mem.take q ++ List.replicate (256 - q) 0).map (Value.int .i64))))
  case atStart => exact ⟨0, Nat.zero_le _, by omega, rfl, HB1, HO1⟩
  case round =>
    obtain ⟨q, hq, rfl, rfl, HB, HO⟩ := hrel
    by_cases hlt : q < 256
    · have hq1 : (q : Int) < 256 := by omega
      have hq0 : (0 : Int) ≤ (q : Int) := by omega
      have hqw : IntKind.i64.wrap ((q : Int) + 1) = (q : Int) + 1 := IntWalk.i64_in _ (by omega)
      have hst : SpSt sb hb N oth om wr F mem x := (space_is sb hb N oth om).stay w wr F mem x HH.out (fun g hg => HB.out.block g ((space_is sb hb N oth om).lt w F mem x HH.out g hg)) HB.out.size
      have HL := Lib.hid (space_load hst hq0 hq1)
      rw [Int.toNat_natCast] at HL
      have HE := Lib.hid (show (mem.take (q + 1) ++ List.replicate (256 - (q + 1)) 0) = (mem.take q ++ List.replicate (256 - q) 0).set q (mem.getD q 0) from words_step HML.out hlt)
      obtain ⟨z0, hz0⟩ : ∃ z, wr.cell? ⟨w.heap.size, q, none⟩ = some (.int .i64 z) := ⟨_, own_cellAt' HO.out (by rw [List.length_append, List.length_take, List.length_replicate, HML.out]; omega) hlt⟩
      have g1 := HO.out.frozenAt q
      have lw : w.heap.size < wr.heap.size := (HO.out.lt _ rfl).2
      clear hst
      generalize mem.getD q 0 = z at *
      go_wp2_with fail
      refine HL.out.mono ?_
      rintro e w' ⟨rfl, nn, rfl⟩
      have hz1 : (wr.drewN nn).cell? ⟨w.heap.size, q, none⟩ = some (.int .i64 z0) := hz0
      have g2 : (wr.drewN nn).frozen? ⟨w.heap.size, q, none⟩ = false := g1
      have HB2 := Lib.hid (below_drewN HB.out nn)
      have HO2 : Hid ((wr.drewN nn).ownsRow w.heap.size 3 1 (.slice (some ⟨w.heap.size, 0, none⟩) 256 256) 256 ((mem.take q ++ List.replicate (256 - q) 0).map (Value.int .i64))) := Lib.hid HO.out
      have lw2 : w.heap.size < (wr.drewN nn).heap.size := lw
      generalize wr.drewN nn = w2 at *
      clear hz0 g1 lw HB HO
      go_wp2_with fail
      go_roundg (256 - (q + 1))
      case measure => omega
      case rel => exact ⟨q + 1, by omega, rfl, by go_num, Lib.hid (HB2.out.setCell (Nat.le_refl _) _), Lib.hid (by rw [HE.out, List.map_set]; exact (HO2.out.stored q (.int .i64 z)).1)⟩
    · obtain rfl : q = 256 := by omega
      have HF := Lib.hid (show mem.take 256 ++ List.replicate (256 - 256) 0 = mem from by rw [List.take_of_length_le (by rw [HML.out]; exact Nat.le_refl _)]; simp)
      clear hlt
      go_wp2_with fail
      go_ret
      exact ⟨_, _, rfl, by have h := HO.out; rw [HF.out] at h; exact h, HB.out⟩
end Go.Proofs.Ytpmdlmgmfggioaa
