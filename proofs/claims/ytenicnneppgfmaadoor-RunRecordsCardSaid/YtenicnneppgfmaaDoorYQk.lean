/- The document's recorder: its loop. No condition beyond the readings. -/
import Derived.Test.YtenicnneppgfmaaDoorYQt
import Derived.Test.YtenicnneppgfmaaDoorYQv
import Derived.Handy
import Derived.StillTailTactics
import Derived.Deep.RegionWith
import Derived.Deep.RegionLaw
import Derived.Deep.CutBlock
import Derived.Deep.CutRange
import Derived.Deep.RegionHeld3
import Derived.Deep.LoopGhost
namespace Go.Proofs.YtenicnneppgfmaaDoor
open Go Go.RowKit Go.ChangeShapes Go.WideShapes Go.Deep
set_option linter.unusedVariables false
attribute [local go_sem ↓] Go.wp_at_zero Go.wp_at_succ

/-- Does the instruction want a block: as the document asks it. -/
theorem wants_ref {is vs : List Int} {bs : List (List Int)} {s : RSs} (h : MOk s.m) (hf : s.m.fin = 0) : wantsR is vs bs s = (((if (blkR bs s).length = 0 then s.m.want else -1) == -1) && decide (0 ≤ (ranR is vs bs s).want)) := by
  unfold wantsR
  have hi := irqM_fin s.m (irqR is s.m.count)
  have hiw : (irqM s.m (irqR is s.m.count)).want = s.m.want := by unfold irqM; split <;> rfl
  have hw := h.want
  have hmw : ((metM is bs s).want < 0) ↔ ((if (blkR bs s).length = 0 then s.m.want else -1) = -1) := by
    unfold metM blockM
    split
    · rw [hiw]; omega
    · unfold comesM
      split
      · rename_i hb hc
        rcases hc with hc | hc
        · exact ⟨fun _ => rfl, fun _ => hc⟩
        · exact absurd (hi.1.trans hf) hc
      · exact ⟨fun _ => rfl, fun _ => by show (-1 : Int) < 0; omega⟩
  rw [Bool.eq_iff_iff, Bool.and_eq_true, decide_eq_true_iff, decide_eq_true_iff, beq_iff_eq, hmw]
theorem bne_iff' {xs ys : List Int} {b : Bool} (h : xs ≠ ys ↔ b = true) : (xs != ys) = b := by
  rw [Bool.eq_iff_iff, bne_iff_ne]; exact h

set_option maxHeartbeats 8000000 in
set_option maxRecDepth 100000 in
theorem rr_loop {w W1 wz : World} {gb gr cr mb cm : Nat} {img is vs : List Int} {bs : List (List Int)} {ds : List Int} {n : Int} {a0 a1 a2 a3 : Option Addr} {c0 c1 c2 c3 : Nat} {K : Act → World → Prop}  {x0 x1 x3 x5 x8 x10 x16 x17 x18 x19 x20 x21 x22 x23 x24 x25 x26 x27 x28 x29 x30 x31 x32 x33 x34 x35 x36 x37 x38 x39 x40 x41 x42 x43 x44 x45 x46 x47 x48 x49 x50 x51 x52 x53 x54 x55 x56 x57 x58 x59 x60 x61 x62 x63 x64 x65 x66 x67 x68 x69 x70 x71 x72 x73 x74 x75 x76 x77 x78 x79 x80 x81 x82 x83 x84 x85 x86 x87 x88 x89 x90 x91 x92 x93 x94 x95 x96 x97 x98 x99 x100 x101 x102 x103 x104 x105 x106 x107 x108 x109 x110 x111 x112 x113 x114 x115 x116 x117 x118 x119 x120 x121 x122 x123 x124 x125 x126 x127 x128 x129 x130 x131 x132 x133 x134 x135 x136 x137 x138 x139 x140 x141 x142 x143 x144 x145 x146 x147 x148 x149 x150 x151 x152 x153 x154 x155 x156 x157 x158 x159 x160 x161 x162 x163 x164 x165 x166 x167 x168 x169 x170 x171 x172 x173 x174 x175 x176 x177 x178 x179 x180 x181 x182 x183 x184 x185 x186 x187 x188 x189 x190 x191 x192 x193 x194 x195 x196 x197 x198 x199 x200 x201 x202 x203 x204 x205 x206 x207 x208 x209 x210 x211 x212 x213 x214 x215 : Value} (HBA : Hid (Below w.heap.size w W1)) (HXW : Hid (W1.heap[w.heap.size]? = some (.cells #[.slice a0 is.length c0, .slice a1 vs.length c1, .slice a2 bs.length c2, .slice a3 ds.length c3] 25 (0, 0)))) (HXM : Hid (W1.heap[w.heap.size + 2]? = some (.cells #[.slice none 0 0, .int .i64 0, .int .i64 0, .bool false, .bool false, .int .i64 0, .int .i64 0, .int .i64 0, .slice none 0 0, .slice none 0 0, .int .i64 0, .int .i64 0] 30 (0, 0)))) (HXT : Hid (W1.heap[w.heap.size + 1]? = some (.cells #[.slice none 0 0, .slice none 0 0, .int .i64 0] 28 (0, 0)))) (H0 : Hid (Ints W1.heap.size W1 (.slice a0 is.length c0) is)) (H1 : Hid (Ints W1.heap.size W1 (.slice a1 vs.length c1) vs)) (H2 : Hid (RowsR W1.heap.size W1 (.slice a2 bs.length c2) bs)) (H3 : Hid (Ints W1.heap.size W1 (.slice a3 ds.length c3) ds)) (HNW : Hid (newC img = 0 ∧ worldC is vs bs ds = 0)) (HN3 : Hid (0 ≤ n ∧ n ≤ 3000)) (HWD : Hid (WdOk is vs bs ds)) (HIM : Hid (MOk (imageM img) ∧ newM img = imageM img)) (HSTART : Hid (DrE W1 gb gr cr mb cm (imageM img) [] none 0 wz)) (hn0 : 0 ≤ n) (hn3 : n ≤ 3000) (hK : ∀ (y8 y49 y50 y51 y52 y53 y54 y55 y56 y57 y58 y59 y60 y61 y62 y63 y64 y65 y66 y67 y68 y69 y70 y71 y72 y73 y74 y75 y76 y77 y78 y79 y80 y81 y82 y83 y84 y85 y86 y87 y88 y89 y90 y91 y92 y93 y94 y95 y96 y97 y98 y99 y100 y101 y102 y103 y104 y105 y106 y107 y108 y109 y110 y111 y112 y113 y114 y115 y116 y117 y118 y119 y120 y121 y122 y123 y124 y125 y126 y127 y128 y129 y130 y131 y132 y133 y134 y135 y136 y137 y138 y139 y140 y141 y142 y143 y144 y145 y146 y147 y148 y149 y150 y151 y152 y153 y154 y155 y156 y157 y158 y159 y160 y161 y162 y163 y164 y165 y166 y167 y168 y169 y170 y171 y172 y173 y174 y175 y176 y177 y178 y179 y180 y181 y182 y183 y184 y185 y186 y187 y188 y189 y190 y191 y192 y193 y194 y195 y196 y197 y198 y199 y200 y201 y202 y203 y204 y205 y206 y207 y208 y209 y210 y211 y212 y213 y214 y215 : Value) (s11 s12 s13 s14 s15 s16 s17 s18 s19 s20 s21 s22 s23 s24 s25 s26 : Value) (wx : World), (∃ (s : RSs) (ps : List (Ev × Value)) (aa : Option Addr) (ca : Nat), s11 = .slice aa ps.length ca ∧ Hid (DrE W1 gb gr cr mb cm s.m ps aa ca wx) ∧ Hid (ps.map (·.1) = s.all) ∧ Hid (RecOk s) ∧ Hid (recL is vs bs ds n n.toNat (recS0 img) = (s, false))) → K ⟨List.toArray (x0 :: x1 :: .int .i64 n :: x3 :: .pointer (some ⟨w.heap.size, 0, none⟩) :: x5 :: .pointer (some ⟨w.heap.size + 1, 0, none⟩) :: .pointer (some ⟨w.heap.size + 1 + 1, 0, none⟩) :: y8 :: .pointer (some ⟨gb, 0, none⟩) :: x10 :: s11 :: s12 :: s13 :: s14 :: s15 :: s16 :: s17 :: s18 :: s19 :: s20 :: s21 :: s22 :: s23 :: s24 :: s25 :: s26 :: x27 :: x28 :: x29 :: x30 :: x31 :: x32 :: x33 :: x34 :: x35 :: x36 :: x37 :: x38 :: x39 :: x40 :: x41 :: x42 :: x43 :: x44 :: x45 :: x46 :: x47 :: x48 :: y49 :: y50 :: y51 :: y52 :: y53 :: y54 :: y55 :: y56 :: y57 :: y58 :: y59 :: y60 :: y61 :: y62 :: y63 :: y64 :: y65 :: y66 :: y67 :: y68 :: y69 :: y70 :: y71 :: y72 :: y73 :: y74 :: y75 :: y76 :: y77 :: y78 :: y79 :: y80 :: y81 :: y82 :: y83 :: y84 :: y85 :: y86 :: y87 :: y88 :: y89 :: y90 :: y91 :: y92 :: y93 :: y94 :: y95 :: y96 :: y97 :: y98 :: y99 :: y100 :: y101 :: y102 :: y103 :: y104 :: y105 :: y106 :: y107 :: y108 :: y109 :: y110 :: y111 :: y112 :: y113 :: y114 :: y115 :: y116 :: y117 :: y118 :: y119 :: y120 :: y121 :: y122 :: y123 :: y124 :: y125 :: y126 :: y127 :: y128 :: y129 :: y130 :: y131 :: y132 :: y133 :: y134 :: y135 :: y136 :: y137 :: y138 :: y139 :: y140 :: y141 :: y142 :: y143 :: y144 :: y145 :: y146 :: y147 :: y148 :: y149 :: y150 :: y151 :: y152 :: y153 :: y154 :: y155 :: y156 :: y157 :: y158 :: y159 :: y160 :: y161 :: y162 :: y163 :: y164 :: y165 :: y166 :: y167 :: y168 :: y169 :: y170 :: y171 :: y172 :: y173 :: y174 :: y175 :: y176 :: y177 :: y178 :: y179 :: y180 :: y181 :: y182 :: y183 :: y184 :: y185 :: y186 :: y187 :: y188 :: y189 :: y190 :: y191 :: y192 :: y193 :: y194 :: y195 :: y196 :: y197 :: y198 :: y199 :: y200 :: y201 :: y202 :: y203 :: y204 :: y205 :: y206 :: y207 :: y208 :: y209 :: y210 :: y211 :: y212 :: y213 :: y214 :: y215 :: []), []⟩ wx) : (c13 [1, 1, 1, 1, 1, 1, 1, 1, 1, 0, 1]).wp Tryd.prog (Exit.then K (bodyPost Tryd.prog Tryd.f13 (RecPost img is vs bs ds n w))) ⟨List.toArray (x0 :: x1 :: .int .i64 n :: x3 :: .pointer (some ⟨w.heap.size, 0, none⟩) :: x5 :: .pointer (some ⟨w.heap.size + 1, 0, none⟩) :: .pointer (some ⟨w.heap.size + 1 + 1, 0, none⟩) :: x8 :: .pointer (some ⟨gb, 0, none⟩) :: x10 :: .slice none 0 0 :: .int .i64 0 :: .int .i64 0 :: .int .i64 (-1) :: .int .i64 0 :: x16 :: x17 :: x18 :: x19 :: x20 :: x21 :: x22 :: x23 :: x24 :: x25 :: x26 :: x27 :: x28 :: x29 :: x30 :: x31 :: x32 :: x33 :: x34 :: x35 :: x36 :: x37 :: x38 :: x39 :: x40 :: x41 :: x42 :: x43 :: x44 :: x45 :: x46 :: x47 :: x48 :: x49 :: x50 :: x51 :: x52 :: x53 :: x54 :: x55 :: x56 :: x57 :: x58 :: x59 :: x60 :: x61 :: x62 :: x63 :: x64 :: x65 :: x66 :: x67 :: x68 :: x69 :: x70 :: x71 :: x72 :: x73 :: x74 :: x75 :: x76 :: x77 :: x78 :: x79 :: x80 :: x81 :: x82 :: x83 :: x84 :: x85 :: x86 :: x87 :: x88 :: x89 :: x90 :: x91 :: x92 :: x93 :: x94 :: x95 :: x96 :: x97 :: x98 :: x99 :: x100 :: x101 :: x102 :: x103 :: x104 :: x105 :: x106 :: x107 :: x108 :: x109 :: x110 :: x111 :: x112 :: x113 :: x114 :: x115 :: x116 :: x117 :: x118 :: x119 :: x120 :: x121 :: x122 :: x123 :: x124 :: x125 :: x126 :: x127 :: x128 :: x129 :: x130 :: x131 :: x132 :: x133 :: x134 :: x135 :: x136 :: x137 :: x138 :: x139 :: x140 :: x141 :: x142 :: x143 :: x144 :: x145 :: x146 :: x147 :: x148 :: x149 :: x150 :: x151 :: x152 :: x153 :: x154 :: x155 :: x156 :: x157 :: x158 :: x159 :: x160 :: x161 :: x162 :: x163 :: x164 :: x165 :: x166 :: x167 :: x168 :: x169 :: x170 :: x171 :: x172 :: x173 :: x174 :: x175 :: x176 :: x177 :: x178 :: x179 :: x180 :: x181 :: x182 :: x183 :: x184 :: x185 :: x186 :: x187 :: x188 :: x189 :: x190 :: x191 :: x192 :: x193 :: x194 :: x195 :: x196 :: x197 :: x198 :: x199 :: x200 :: x201 :: x202 :: x203 :: x204 :: x205 :: x206 :: x207 :: x208 :: x209 :: x210 :: x211 :: x212 :: x213 :: x214 :: x215 :: []), []⟩ wz := by
  have HK := Lib.hid hK
  clear hK
  conv => arg 2; whnf
  go_cut [11, 12, 13, 14, 15, 16, 17, 18, 19, 20, 21, 22, 23, 24, 25, 26] from 49 (fun s11 s12 s13 s14 s15 s16 s17 s18 s19 s20 s21 s22 s23 s24 s25 s26 wx => ∃ (s : RSs) (ps : List (Ev × Value)) (aa : Option Addr) (ca : Nat), s11 = .slice aa ps.length ca ∧ Hid (DrE W1 gb gr cr mb cm s.m ps aa ca wx) ∧ Hid (ps.map (·.1) = s.all) ∧ Hid (RecOk s) ∧ Hid (recL is vs bs ds n n.toNat (recS0 img) = (s, false)))
  case rest =>
    exact HK.out _ _ _ _ _ _ _ _ _ _ _ _ _ _ _ _ _ _ _ _ _ _ _ _ _ _ _ _ _ _ _ _ _ _ _ _ _ _ _ _ _ _ _ _ _ _ _ _ _ _ _ _ _ _ _ _ _ _ _ _ _ _ _ _ _ _ _ _ _ _ _ _ _ _ _ _ _ _ _ _ _ _ _ _ _ _ _ _ _ _ _ _ _ _ _ _ _ _ _ _ _ _ _ _ _ _ _ _ _ _ _ _ _ _ _ _ _ _ _ _ _ _ _ _ _ _ _ _ _ _ _ _ _ _ _ _ _ _ _ _ _ _ _ _ _ _ _ _ _ _ _ _ _ _ _ _ _ _ _ _ _ _ _ _ _ _ _ _ _ _ _ _ _ _ _ _ _ _ _ _ _ _ _ _ _ hcut
  case first =>
    clear HK
    go_wp2_with fail
    go_loopg [11, 12, 13, 14, 15, 16, 17, 18, 19, 20, 21, 22, 23, 24, 25, 26] n.toNat (fun gh s11 s12 s13 s14 s15 s16 s17 s18 s19 s20 s21 s22 s23 s24 s25 s26 wr => ∃ (f : Nat) (s : RSs) (ps : List (Ev × Value)) (aa : Option Addr) (ca : Nat), gh = f ∧ s11 = .slice aa ps.length ca ∧ s12 = .int .i64 (s.nv : Int) ∧ s13 = .int .i64 (s.nb : Int) ∧ s14 = .int .i64 s.due ∧ s15 = .int .i64 s.m.count ∧ Hid (DrE W1 gb gr cr mb cm s.m ps aa ca wr) ∧ Hid (ps.map (·.1) = s.all) ∧ Hid (RecOk s) ∧ Hid ((s.nv : Int) ≤ s.m.count ∧ (s.nb : Int) ≤ s.m.count) ∧ Hid (recL is vs bs ds n n.toNat (recS0 img) = recL is vs bs ds n f s) ∧ Hid (n ≤ s.m.count + f))
    case atStart => exact ⟨n.toNat, recS0 img, [], none, 0, rfl, rfl, rfl, rfl, rfl, rfl, HSTART, Lib.hid rfl, Lib.hid (recok_start HIM.out.1), Lib.hid ⟨Int.le_refl _, Int.le_refl _⟩, Lib.hid rfl, Lib.hid (by show n ≤ 0 + _; omega)⟩
    case round =>
      clear HSTART
      obtain ⟨f, s, ps, aa, ca, rfl, rfl, rfl, rfl, rfl, rfl, HD, HP, HOK, HNB, HRL, HNF⟩ := hrel
      obtain ⟨ao, co, hd⟩ := HD.out
      have HBW := Lib.hid (hd.za.old.below (B := W1.heap.size) (fun g q => q.elim) (Nat.le_refl _))
      have c7 : wr.cell? ⟨gb, 7, none⟩ = some (.int .i64 s.m.fin) := cell_block hd.box 7
      have lg : gb < wr.heap.size := (Array.getElem?_eq_some_iff.1 hd.box).1
      have HXWr := Lib.hid (hd.za.old.at HXW.out (fun q => q))
      clear hd
      by_cases hgo : s.m.count < n ∧ s.m.fin = 0
      · obtain ⟨hlt, hfin⟩ := hgo
        rw [hfin] at c7
        have hc0 := HOK.out.ok.count
        have hk2 : 0 ≤ s.m.count ∧ s.m.count < 3000 := by have := HN3.out; omega
        have HFIN := Lib.hid hfin
        obtain ⟨f1, hf1⟩ : ∃ f1, gk = f1 + 1 := ⟨gk - 1, by have := HNF.out; omega⟩
        subst hf1
        have HK := Lib.hid hk2
        have HCT := Lib.hid hlt
        have HMO := Lib.hid HOK.out.ok
        have HC40 : Hid (s.m.count < 1099511627776) := Lib.hid (by omega)
        have hnv : s.nv ≤ 4000 := by have := HNB.out; omega
        have hnb2 : s.nb ≤ 4000 := by have := HNB.out; omega
        have hpl : ps.length ≤ 1000 := by have := congrArg List.length HP.out; rw [List.length_map] at this; rw [this]; exact HOK.out.len
        have hci : s.m.count < n := hlt
        obtain ⟨ti, hti⟩ : ∃ ti, is.contains s.m.count = ti := ⟨_, rfl⟩
        have HTI := Lib.hid hti
        have HBK := Lib.hid (blkR_ok HWD.out s)
        obtain ⟨k, hk⟩ : ∃ k, s.m.count = k := ⟨_, rfl⟩
        have HKK := Lib.hid hk
        rw [hk] at hci hti HTI ⊢
        have HK2 : Hid (0 ≤ k ∧ k < 3000) := Lib.hid (by rw [← hk]; exact hk2)
        clear hlt hfin hc0 hk2 hti hk
        go_upto_block 2 with fail
        refine rr_irq HXWr (Lib.hid (H0.out.to HBW.out.size (same_below HBW.out))) HTI ?_
        intros
        rename_i s16 s17 w2 hcut
        obtain ⟨rfl, rfl⟩ := hcut
        clear c7 lg
        go_upto_if 76 with fail
        refine rr_ev1 HD HK2 (by omega) ?_
        intros
        rename_i s11 w3 hcut
        obtain ⟨qs1, aa3, ca3, rfl, HQ1, HD3⟩ := hcut
        obtain ⟨p1, hP1⟩ : ∃ p1, p1 = ps ++ qs1 := ⟨_, rfl⟩
        have HP1 := Lib.hid hP1
        rw [← hP1] at HD3 ⊢
        have hl1 : p1.length ≤ 1001 := by
          have := congrArg List.length HQ1.out
          rw [List.length_map] at this
          rw [hP1, List.length_append, this]; split <;> simp <;> omega
        clear hP1 HD HBW HXWr
        obtain ⟨ao3, co3, hd3⟩ := HD3.out
        have HBW3 := Lib.hid (hd3.za.old.below (B := W1.heap.size) (fun g q => q.elim) (Nat.le_refl _))
        have HXW3 := Lib.hid (hd3.za.old.at HXW.out (fun q => q))
        clear hd3
        obtain ⟨td, htd⟩ : ∃ td, (s.due == k) = td := ⟨_, rfl⟩
        have HTD := Lib.hid htd
        go_upto_if 84 with fail
        clear htd
        refine rr_due (blk := blkR bs s) HD3 HK2 (by omega) HXW3 (Lib.hid (H2.out.to HBW3.out.size (same_below HBW3.out))) HWD (fun e => by
          have e2 : s.due = k := by have := HTD.out; rw [e] at this; simpa using this
          exact HOK.out.nb1 (by rw [e2]; exact HK2.out.1)) hnb2 (Lib.hid (by
          unfold blkR
          rw [HKK.out, ← HTD.out]
          by_cases e : s.due = k
          · simp [e]
          · simp [e])) ?_
        intros
        rename_i s11 s14 s18 w4 hcut
        obtain ⟨qs2, aa4, ca4, ak, ck, rfl, rfl, rfl, HQ2, HD4⟩ := hcut
        obtain ⟨p2, hP2⟩ : ∃ p2, p2 = p1 ++ qs2 := ⟨_, rfl⟩
        have HP2 := Lib.hid hP2
        rw [← hP2] at HD4 ⊢
        have hl2 : p2.length ≤ 1002 := by
          have := congrArg List.length HQ2.out
          rw [List.length_map] at this
          rw [hP2, List.length_append, this]; split <;> simp <;> omega
        clear hP2 HD3 HBW3 HXW3
        obtain ⟨du, hdu⟩ : ∃ du, (if td = true then -1 else s.due) = du := ⟨_, rfl⟩
        have HDU := Lib.hid hdu
        rw [hdu]
        clear hdu
        have HRS : Hid (ranR is vs bs s = (stepM s.m ti (blkR bs s) (valR is vs bs s)).1) := Lib.hid (by rw [ranR_step]; unfold irqR; rw [HKK.out, HTI.out])
        have HAS : Hid (((stepM s.m ti (blkR bs s) 1).1.regs ≠ (stepM s.m ti (blkR bs s) 2).1.regs) ↔ asksR is bs s = true) := Lib.hid (by have := step_asks (is := is) (vs := vs) (ds := ds) HWD.out HMO.out; unfold irqR at this; rw [HKK.out, HTI.out] at this; exact this)
        have HWN : Hid (wantsR is vs bs s = (((if (blkR bs s).length = 0 then s.m.want else -1) == -1) && decide (0 ≤ (ranR is vs bs s).want))) := Lib.hid (wants_ref HMO.out HFIN.out)
        have HSO1 := Lib.hid (stepM_ok HMO.out ti 1 HBK.out.1 HBK.out.2 (by unfold WordZ; omega) HC40.out)
        have HSO2 := Lib.hid (stepM_ok HMO.out ti 2 HBK.out.1 HBK.out.2 (by unfold WordZ; omega) HC40.out)
        obtain ⟨blk, hblk⟩ : ∃ blk, blkR bs s = blk := ⟨_, rfl⟩
        have HBE := Lib.hid hblk
        rw [hblk] at HD4 HQ2 HBK HRS HAS HWN HSO1 HSO2 ⊢
        clear hblk
        obtain ⟨on1, hon1⟩ : ∃ on1, stepM s.m ti blk 1 = on1 := ⟨_, rfl⟩
        have HON1 := Lib.hid hon1
        rw [hon1] at HAS HSO1
        obtain ⟨on2, hon2⟩ : ∃ on2, stepM s.m ti blk 2 = on2 := ⟨_, rfl⟩
        have HON2 := Lib.hid hon2
        rw [hon2] at HAS HSO2
        clear hon1 hon2
        go_upto_region 29 with fail
        refine rr_look1 HD4 HMO HC40 HBK HON1 ?_
        intros
        rename_i s19 s20 w5 hcut
        obtain ⟨xb, rfl, HB5, HX5⟩ := hcut
        have HD5 := Lib.hid (HD4.out.below HB5.out)
        clear HD4
        go_upto_region 30 with fail
        refine rr_look2 HD5 HMO HC40 HBK HON2 ?_
        intros
        rename_i s21 s22 w6 hcut
        obtain ⟨yb, rfl, HB6, HY6⟩ := hcut
        have HD6 := Lib.hid (HD5.out.below HB6.out)
        have HX6 := Lib.hid (HX5.out.below HB6.out)
        clear HD5 HX5 HB5
        go_upto_block 4 with fail
        refine rr_asks HX6 HY6 (Lib.hid ⟨HSO1.out.regs, HSO2.out.regs⟩) (Lib.hid (bne_iff' HAS.out)) ?_
        intros
        rename_i s24 s25 w7 hcut
        obtain ⟨rfl, HB7⟩ := hcut
        have HD7 := Lib.hid (HD6.out.below HB7.out)
        clear HD6 HX6 HY6 HB6 HB7 HON1 HON2 HSO1 HSO2 HAS
        obtain ⟨ao7, co7, hd7, -⟩ := HD7.out
        have HBW7 := Lib.hid (hd7.za.old.below (B := W1.heap.size) (fun g q => q.elim) (Nat.le_refl _))
        have HXW7 := Lib.hid (hd7.za.old.at HXW.out (fun q => q))
        clear hd7
        obtain ⟨ta, hta⟩ : ∃ ta, asksR is bs s = ta := ⟨_, rfl⟩
        have HTA := Lib.hid hta
        rw [hta]
        clear hta
        go_upto_if 138 with fail
        refine rr_val HD7 HK2 (by omega) HXW7 (Lib.hid (H1.out.to HBW7.out.size (same_below HBW7.out))) (Lib.hid HWD.out.wv) hnv ?_
        intros
        rename_i s11 s12 s23 w8 hcut
        obtain ⟨qs3, aa8, ca8, rfl, rfl, rfl, HQ3, HD8⟩ := hcut
        obtain ⟨p3, hP3⟩ : ∃ p3, p3 = p2 ++ qs3 := ⟨_, rfl⟩
        have HP3 := Lib.hid hP3
        rw [← hP3] at HD8 ⊢
        clear hP3 HD7 HBW7 HXW7
        have hval : (if ta = true then vs.getD s.nv 0 else 0) = valR is vs bs s := by unfold valR; rw [HTA.out]
        have HQV := Lib.hid (show qs3.map (·.1) = if ta = true then [⟨k, 3, [valR is vs bs s]⟩] else [] from by rw [HQ3.out, ← hval]; cases ta <;> simp)
        rw [hval]
        have HVW := Lib.hid (valR_ok (is := is) HWD.out s)
        clear HQ3 hval
        obtain ⟨nvv, hnvv⟩ : ∃ z, (if ta = true then ((s.nv + 1 : Nat) : Int) else (s.nv : Int)) = z := ⟨_, rfl⟩
        have HNVV := Lib.hid hnvv
        rw [hnvv]
        clear hnvv
        obtain ⟨vv, hvv⟩ : ∃ vv, valR is vs bs s = vv := ⟨_, rfl⟩
        have HVV := Lib.hid hvv
        rw [hvv] at HQV HVW HRS ⊢
        clear hvv
        obtain ⟨ao8, co8, hd8, -⟩ := HD8.out
        have c11 : w8.cell? ⟨gb, 11, none⟩ = some (.int .i64 s.m.want) := cell_block hd8.box 11
        have lg8 : gb < w8.heap.size := (Array.getElem?_eq_some_iff.1 hd8.box).1
        clear hd8
        go_upto_region 43 with fail
        obtain ⟨wz1, hwz1⟩ : ∃ z, (if blk.length = 0 then s.m.want else -1) = z := ⟨_, rfl⟩
        have HWZ := Lib.hid hwz1
        rw [hwz1] at HWN
        clear hwz1 c11 lg8
        obtain ⟨tb, htb⟩ : ∃ tb, decide (0 < blk.length) = tb := ⟨_, rfl⟩
        have HTB := Lib.hid htb
        clear htb
        go_cut [162] from 49 to 198 (fun s162 wx => s162 = .bool tb ∧ wx = w8)
        case first =>
          by_cases hb0 : 0 < blk.length
          · have HE := Lib.hid (show tb = true from by rw [← HTB.out]; exact decide_eq_true hb0)
            go_wp2_with fail
            go_meet
            exact ⟨by rw [HE.out], rfl⟩
          · have HE := Lib.hid (show tb = false from by rw [← HTB.out]; exact decide_eq_false hb0)
            go_wp2_with fail
            go_meet
            exact ⟨by rw [HE.out], rfl⟩
        case rest =>
        obtain ⟨rfl, rfl⟩ := hcut
        go_upto_if 162 with fail
        go_cut [26] from 49 to 198 (fun s26 wx => s26 = .int .i64 wz1 ∧ wx = wc)
        case first =>
          cases tb with
          | false =>
            have HE := Lib.hid (show wz1 = s.m.want from by rw [← HWZ.out, if_pos (by have := HTB.out; simpa using this)])
            go_wp2_with fail
            go_meet
            exact ⟨by rw [HE.out], rfl⟩
          | true =>
            have HE := Lib.hid (show wz1 = -1 from by rw [← HWZ.out, if_neg (by have := HTB.out; intro e; rw [e] at this; simp at this)])
            go_wp2_with fail
            go_meet
            exact ⟨by rw [HE.out], rfl⟩
        case rest =>
        obtain ⟨rfl, rfl⟩ := hcut
        obtain ⟨on, hon⟩ : ∃ on, stepM s.m ti blk vv = on := ⟨_, rfl⟩
        have HON := Lib.hid hon
        rw [hon] at HRS
        clear hon
        go_upto_region 45 with fail
        refine rr_step HD8 HMO HC40 HBK HVW HON ?_
        intros
        rename_i w10 HD10
        obtain ⟨ao10, co10, hd10⟩ := HD10.out
        have c11 : w10.cell? ⟨gb, 11, none⟩ = some (.int .i64 on.1.want) := cell_block hd10.box 11
        have lg10 : gb < w10.heap.size := (Array.getElem?_eq_some_iff.1 hd10.box).1
        have HBW10 := Lib.hid (hd10.za.old.below (B := W1.heap.size) (fun g q => q.elim) (Nat.le_refl _))
        have HXW10 := Lib.hid (hd10.za.old.at HXW.out (fun q => q))
        clear hd10 HD8
        obtain ⟨tw, htw⟩ : ∃ tw, wantsR is vs bs s = tw := ⟨_, rfl⟩
        have HTW := Lib.hid (show tw = ((wz1 == -1) && decide (0 ≤ on.1.want)) from by rw [← htw, HWN.out, HRS.out])
        have HTWE := Lib.hid htw
        clear htw HWN
        go_upto_region 46 with fail
        go_cut [177] from 49 to 198 (fun s177 wx => s177 = .bool tw ∧ wx = w10)
        case first =>
          by_cases h1 : wz1 = -1
          · have h1b : (wz1 == -1) = true := beq_iff_eq.2 h1
            have HT := Lib.hid (show tw = decide (0 ≤ on.1.want) from by rw [HTW.out, h1b]; rfl)
            clear h1
            go_wp2_with fail
            go_meet
            exact ⟨by rw [HT.out], rfl⟩
          · have h1b : (wz1 == -1) = false := beq_eq_false_iff_ne.2 h1
            have HT := Lib.hid (show tw = false from by rw [HTW.out, h1b]; rfl)
            clear h1
            go_wp2_with fail
            go_meet
            exact ⟨by rw [HT.out], rfl⟩
        case rest =>
        obtain ⟨rfl, rfl⟩ := hcut
        clear c11 lg10
        go_upto_if 177 with fail
        refine rr_wants HXW10 (Lib.hid (H3.out.to HBW10.out.size (same_below HBW10.out))) HK2 (Lib.hid HWD.out.wd) hnb2 ?_
        intros
        rename_i s13 s14 w12 hcut
        obtain ⟨rfl, rfl, rfl⟩ := hcut
        have HD12 := HD10
        obtain ⟨nbb, hnbb⟩ : ∃ z, (if tw = true then ((s.nb + 1 : Nat) : Int) else (s.nb : Int)) = z := ⟨_, rfl⟩
        have HNBV := Lib.hid hnbb
        rw [hnbb]
        clear hnbb
        obtain ⟨dd, hdd⟩ : ∃ z, (if tw = true then k + 1 + ds.getD s.nb 0 else du) = z := ⟨_, rfl⟩
        have HDD := Lib.hid hdd
        rw [hdd]
        clear hdd
        have HRC := Lib.hid (ranR_count (is := is) (vs := vs) (bs := bs) s HFIN.out)
        have HNEXT := Lib.hid (show recS is vs bs ds s = { m := on.1, all := s.all ++ aheadR is bs s ++ (if ta = true then [⟨s.m.count, 3, [vv]⟩] else []), nv := if ta = true then s.nv + 1 else s.nv, nb := if tw = true then s.nb + 1 else s.nb, due := if tw = true then s.m.count + 1 + ds.getD s.nb 0 else if s.due = s.m.count then -1 else s.due } from by
          unfold recS
          rw [HRS.out, HTA.out, HTWE.out, HVV.out])
        have HALL := Lib.hid (show p3.map (·.1) = (recS is vs bs ds s).all from by
          rw [HNEXT.out, HP3.out, HP2.out, HP1.out, List.map_append, List.map_append, List.map_append, HP.out, HQ1.out, HQ2.out, HQV.out]
          unfold aheadR irqR
          rw [HKK.out, HTI.out, HBE.out, ← HTD.out, List.append_assoc s.all]
          by_cases e : s.due = k <;> simp [e])
        have hpq : p3.length = (recS is vs bs ds s).all.length := by rw [← HALL.out, List.length_map]
        have hcn : s.m.count < n ∧ s.m.fin = 0 := ⟨HCT.out, HFIN.out⟩
        by_cases hbig : 1000 < p3.length
        · have HRT := Lib.hid (show recL is vs bs ds n n.toNat (recS0 img) = (recS is vs bs ds s, true) from by rw [HRL.out, recL, if_pos hcn, if_pos (by omega)])
          have hbi : (1000 : Int) < (p3.length : Int) := by omega
          clear hpq hcn hbig
          obtain ⟨ao9, co9, hd9⟩ := HD12.out
          have hob := hd9.za.old
          have hxm := hob.at HXM.out (fun q => q)
          have hxt := hob.at HXT.out (fun q => q)
          have HB12 := Lib.hid (HBA.out.trans (hob.below (B := w.heap.size) (fun g hg => hg.elim) HBA.out.size))
          have HR := Lib.hid (show RecR img is vs bs ds n 1 [] 0 [] zeroM from Or.inr (Or.inr (Or.inr ⟨HNW.out.1, HNW.out.2, HN3.out.1, HN3.out.2, Or.inl ⟨by rw [HRT.out], rfl, recE0⟩⟩)))
          have lm1 : w.heap.size + 2 < w12.heap.size := (Array.getElem?_eq_some_iff.1 hxm).1
          have lm2 : w.heap.size + 1 < w12.heap.size := by omega
          have r0 : w12.cell? ⟨w.heap.size + 2, 0, none⟩ = some (.slice none 0 0) := cell_block hxm 0
          have g0 := free_block hxm 0
          have r1 : w12.cell? ⟨w.heap.size + 2, 1, none⟩ = some (.int .i64 0) := cell_block hxm 1
          have g1 := free_block hxm 1
          have r2 : w12.cell? ⟨w.heap.size + 2, 2, none⟩ = some (.int .i64 0) := cell_block hxm 2
          have g2 := free_block hxm 2
          have r3 : w12.cell? ⟨w.heap.size + 2, 3, none⟩ = some (.bool false) := cell_block hxm 3
          have g3 := free_block hxm 3
          have r4 : w12.cell? ⟨w.heap.size + 2, 4, none⟩ = some (.bool false) := cell_block hxm 4
          have g4 := free_block hxm 4
          have r5 : w12.cell? ⟨w.heap.size + 2, 5, none⟩ = some (.int .i64 0) := cell_block hxm 5
          have g5 := free_block hxm 5
          have r6 : w12.cell? ⟨w.heap.size + 2, 6, none⟩ = some (.int .i64 0) := cell_block hxm 6
          have g6 := free_block hxm 6
          have r7 : w12.cell? ⟨w.heap.size + 2, 7, none⟩ = some (.int .i64 0) := cell_block hxm 7
          have g7 := free_block hxm 7
          have r8 : w12.cell? ⟨w.heap.size + 2, 8, none⟩ = some (.slice none 0 0) := cell_block hxm 8
          have g8 := free_block hxm 8
          have r9 : w12.cell? ⟨w.heap.size + 2, 9, none⟩ = some (.slice none 0 0) := cell_block hxm 9
          have g9 := free_block hxm 9
          have r10 : w12.cell? ⟨w.heap.size + 2, 10, none⟩ = some (.int .i64 0) := cell_block hxm 10
          have g10 := free_block hxm 10
          have r11 : w12.cell? ⟨w.heap.size + 2, 11, none⟩ = some (.int .i64 0) := cell_block hxm 11
          have g11 := free_block hxm 11
          have s0 : w12.cell? ⟨w.heap.size + 1, 0, none⟩ = some (.slice none 0 0) := cell_block hxt 0
          have t0 := free_block hxt 0
          have s1 : w12.cell? ⟨w.heap.size + 1, 1, none⟩ = some (.slice none 0 0) := cell_block hxt 1
          have t1 := free_block hxt 1
          have s2 : w12.cell? ⟨w.heap.size + 1, 2, none⟩ = some (.int .i64 0) := cell_block hxt 2
          have t2 := free_block hxt 2
          clear hob hxm hxt hd9 HD12 HALL
          go_wp2_with fail
          refine bodyPost_ret (v := .tuple #[.agg #[.slice none 0 0, .slice none 0 0, .int .i64 0], .agg #[.slice none 0 0, .int .i64 0, .int .i64 0, .bool false, .bool false, .int .i64 0, .int .i64 0, .int .i64 0, .slice none 0 0, .slice none 0 0, .int .i64 0, .int .i64 0], .int .i64 1]) (by simp [results, Tryd.results13, go_sem, r0, r1, r2, r3, r4, r5, r6, r7, r8, r9, r10, r11, s0, s1, s2]) rfl ?_
          refine RecPost.no HR.out ?_
          go_grown
          exact HB12.out
        · have HRT := Lib.hid (show recL is vs bs ds n n.toNat (recS0 img) = recL is vs bs ds n f1 (recS is vs bs ds s) from by rw [HRL.out, recL, if_pos hcn, if_neg (by omega)])
          have HO2 := Lib.hid (HOK.out.step HWD.out hcn.2 (by have := HK2.out; rw [HKK.out]; exact this.2) (by omega))
          have hbi : ¬ (1000 : Int) < (p3.length : Int) := by omega
          have hcz : (recS is vs bs ds s).m.count = k + 1 := by have e : (recS is vs bs ds s).m.count = s.m.count + 1 := HRC.out; rw [e, HKK.out]
          have HC2 := Lib.hid (show n ≤ (recS is vs bs ds s).m.count + f1 from by
            have := HNF.out
            rw [HKK.out] at this
            rw [hcz]; push_cast at this; omega)
          have HCZ := Lib.hid hcz
          have hkw : IntKind.i64.wrap (k + 1) = k + 1 := IntWalk.i64_in _ (by have := HK2.out; omega)
          have HNV := Lib.hid (show nvv = ((recS is vs bs ds s).nv : Int) from by rw [← HNVV.out, HNEXT.out]; cases ta <;> rfl)
          have HNBB := Lib.hid (show nbb = ((recS is vs bs ds s).nb : Int) from by rw [← HNBV.out, HNEXT.out]; cases tw <;> rfl)
          have HDUE := Lib.hid (show dd = (recS is vs bs ds s).due from by
            rw [← HDD.out, HNEXT.out]
            show _ = if tw = true then s.m.count + 1 + ds.getD s.nb 0 else if s.due = s.m.count then -1 else s.due
            rw [HKK.out, ← HDU.out, ← HTD.out]
            by_cases e : s.due = k <;> simp [e])
          have HNB2 := Lib.hid (show ((recS is vs bs ds s).nv : Int) ≤ (recS is vs bs ds s).m.count ∧ ((recS is vs bs ds s).nb : Int) ≤ (recS is vs bs ds s).m.count from by
            rw [hcz, ← HNV.out, ← HNBB.out, ← HNVV.out, ← HNBV.out]
            have := HNB.out
            rw [HKK.out] at this
            constructor <;> split <;> push_cast <;> omega)
          have HD13 : Hid (DrE W1 gb gr cr mb cm (recS is vs bs ds s).m p3 aa8 ca8 w12) := Lib.hid (by have := HD12.out; rw [HNEXT.out]; exact this)
          clear hpq hcn hbig HD12 hcz HNEXT
          rw [HNV.out, HNBB.out, HDUE.out]
          go_wp2_with fail
          go_roundg f1
          case measure => omega
          case rel => exact ⟨f1, recS is vs bs ds s, p3, aa8, ca8, rfl, rfl, rfl, rfl, rfl, by rw [HCZ.out], HD13, HALL, HO2, HNB2, HRT, HC2⟩
      · have HFN := Lib.hid (show recL is vs bs ds n n.toNat (recS0 img) = (s, false) from by
          rw [HRL.out]
          cases gk with
          | zero => rfl
          | succ f => rw [recL, if_neg hgo])
        clear HRL HNF
        by_cases hlt : s.m.count < n
        · have hfb : (s.m.fin == 0) = false := by rw [beq_eq_false_iff_ne]; exact fun h => hgo ⟨hlt, h⟩
          clear hgo
          go_wp2_with fail
          go_meet
          exact ⟨s, ps, aa, ca, rfl, HD, HP, HOK, HFN⟩
        · clear hgo
          go_wp2_with fail
          go_meet
          exact ⟨s, ps, aa, ca, rfl, HD, HP, HOK, HFN⟩

end Go.Proofs.YtenicnneppgfmaaDoor
