/- Several texts joined, each with its own heading in the notes: A block comes in the document's recorder. A value is told in the document's recorder. No condition beyond those of each row. -/
import Derived.Test.YtenicnneppgfmaaDoorYQr
import Derived.Handy
import Derived.StillTailTactics
import Derived.Deep.RegionWith
import Derived.Deep.RegionLaw
import Derived.Deep.CutBlock
import Derived.Deep.CutRange
import Derived.Deep.RegionHeld3
import Derived.Deep.LoopGhost
namespace Go.Proofs.YtenicnneppgfmaaDoor
open Go Go.RowKit Go.ChangeShapes Go.WideShapes Go.Deep
set_option linter.unusedVariables false
attribute [local go_sem ↓] Go.wp_at_zero Go.wp_at_succ

/-- The same, with the block that came. -/
def DrB (w0 : World) (gb gr cr mb cm : Nat) (m : Mach) (ps : List (Ev × Value)) (aa : Option Addr) (ca : Nat) (blk : List Int) (ak : Option Addr) (ck : Nat) (w : World) : Prop := ∃ ao co, DrS w0 gb gr cr mb cm m ao co ps aa ca w ∧ w.ownsRow w0.heap.size 3 1 (.slice ak blk.length ck) blk.length (blk.map (Value.int .i64)) ∧ ∀ q, (Value.slice ak blk.length ck).ownBlock = some q → ¬ Dz gr mb ao m.out.length co q

set_option maxHeartbeats 8000000 in
set_option maxRecDepth 100000 in
theorem rr_due {w0 wz : World} {gb gr cr mb cm : Nat} {m : Mach} {ps : List (Ev × Value)} {aa : Option Addr} {ca : Nat} {k : Int} {tt : Bool} {wb : Nat} {a0 a1 a2 a3 : Option Addr} {c0 c1 c2 c3 : Nat} {is vs : List Int} {bs : List (List Int)} {ds : List Int} {nb : Nat} {due : Int} {blk : List Int} {K : Act → World → Prop} {Q' : Exit → Act → World → Prop} {x0 x1 x2 x3 x5 x6 x7 x8 x10 x12 x16 x17 x19 x20 x21 x22 x23 x24 x25 x26 x27 x28 x29 x30 x31 x32 x33 x34 x35 x36 x37 x38 x39 x40 x41 x42 x43 x44 x45 x46 x47 x48 x49 x50 x51 x52 x53 x54 x55 x56 x57 x58 x59 x60 x61 x62 x63 x64 x65 x66 x67 x68 x69 x70 x71 x72 x73 x74 x75 x76 x77 x78 x79 x80 x81 x82 x83 x85 x86 x87 x88 x89 x90 x91 x92 x93 x94 x95 x96 x97 x98 x99 x100 x101 x102 x103 x104 x105 x106 x107 x108 x109 x110 x111 x112 x113 x114 x115 x116 x117 x118 x119 x120 x121 x122 x123 x124 x125 x126 x127 x128 x129 x130 x131 x132 x133 x134 x135 x136 x137 x138 x139 x140 x141 x142 x143 x144 x145 x146 x147 x148 x149 x150 x151 x152 x153 x154 x155 x156 x157 x158 x159 x160 x161 x162 x163 x164 x165 x166 x167 x168 x169 x170 x171 x172 x173 x174 x175 x176 x177 x178 x179 x180 x181 x182 x183 x184 x185 x186 x187 x188 x189 x190 x191 x192 x193 x194 x195 x196 x197 x198 x199 x200 x201 x202 x203 x204 x205 x206 x207 x208 x209 x210 x211 x212 x213 x214 x215 : Value} (HD : Hid (DrE w0 gb gr cr mb cm m ps aa ca wz)) (HK : Hid (0 ≤ k ∧ k < 3000)) (hpl : ps.length ≤ 2000) (HW : Hid (wz.heap[wb]? = some (.cells #[.slice a0 is.length c0, .slice a1 vs.length c1, .slice a2 bs.length c2, .slice a3 ds.length c3] 25 (0, 0)))) (HI : Hid (RowsR wz.heap.size wz (.slice a2 bs.length c2) bs)) (HWD : Hid (WdOk is vs bs ds)) (hnb : tt = true → 1 ≤ nb) (hnb2 : nb ≤ 4000) (HBL : Hid (blk = if tt = true then bs.getD (nb - 1) zero16 else [])) (hK : ∀ (y49 y50 y51 y52 y53 y54 y55 y56 y57 y58 y59 y60 y61 y62 y63 y64 y65 y66 y67 y68 y69 y70 y71 y72 y73 y74 y75 y76 y77 y78 y79 y80 y81 y82 y83 y84 y85 y86 y87 y88 y89 y90 y91 y92 y93 y94 y95 y96 y97 y98 y99 y100 y101 y102 y103 y104 y105 y106 y107 y108 y109 y110 y111 y112 y113 y114 y115 y116 y117 y118 y119 y120 y121 y122 y123 y124 y125 y126 y127 y128 y129 y130 y131 y132 y133 y134 y135 y136 y137 y138 y139 y140 y141 y142 y143 y144 y145 y146 y147 y148 y149 y150 y151 y152 y153 y154 y155 y156 y157 y158 y159 y160 y161 y162 y163 y164 y165 y166 y167 y168 y169 y170 y171 y172 y173 y174 y175 y176 y177 y178 y179 y180 y181 y182 y183 y184 y185 y186 y187 y188 y189 y190 y191 y192 y193 y194 y195 y196 y197 y198 : Value) (s11 s14 s18 : Value) (wx : World), (∃ (qs : List (Ev × Value)) (b2 : Option Addr) (d2 : Nat) (ak : Option Addr) (ck : Nat), s11 = .slice b2 (ps ++ qs).length d2 ∧ s14 = .int .i64 (if tt = true then -1 else due) ∧ s18 = .slice ak blk.length ck ∧ Hid (qs.map (·.1) = if tt = true then [⟨k, 2, blk⟩] else []) ∧ Hid (DrB w0 gb gr cr mb cm m (ps ++ qs) b2 d2 blk ak ck wx)) → K ⟨List.toArray (x0 :: x1 :: x2 :: x3 :: .pointer (some ⟨wb, 0, none⟩) :: x5 :: x6 :: x7 :: x8 :: .pointer (some ⟨gb, 0, none⟩) :: x10 :: s11 :: x12 :: .int .i64 (nb : Int) :: s14 :: .int .i64 k :: x16 :: x17 :: s18 :: x19 :: x20 :: x21 :: x22 :: x23 :: x24 :: x25 :: x26 :: x27 :: x28 :: x29 :: x30 :: x31 :: x32 :: x33 :: x34 :: x35 :: x36 :: x37 :: x38 :: x39 :: x40 :: x41 :: x42 :: x43 :: x44 :: x45 :: x46 :: x47 :: x48 :: y49 :: y50 :: y51 :: y52 :: y53 :: y54 :: y55 :: y56 :: y57 :: y58 :: y59 :: y60 :: y61 :: y62 :: y63 :: y64 :: y65 :: y66 :: y67 :: y68 :: y69 :: y70 :: y71 :: y72 :: y73 :: y74 :: y75 :: y76 :: y77 :: y78 :: y79 :: y80 :: y81 :: y82 :: y83 :: y84 :: y85 :: y86 :: y87 :: y88 :: y89 :: y90 :: y91 :: y92 :: y93 :: y94 :: y95 :: y96 :: y97 :: y98 :: y99 :: y100 :: y101 :: y102 :: y103 :: y104 :: y105 :: y106 :: y107 :: y108 :: y109 :: y110 :: y111 :: y112 :: y113 :: y114 :: y115 :: y116 :: y117 :: y118 :: y119 :: y120 :: y121 :: y122 :: y123 :: y124 :: y125 :: y126 :: y127 :: y128 :: y129 :: y130 :: y131 :: y132 :: y133 :: y134 :: y135 :: y136 :: y137 :: y138 :: y139 :: y140 :: y141 :: y142 :: y143 :: y144 :: y145 :: y146 :: y147 :: y148 :: y149 :: y150 :: y151 :: y152 :: y153 :: y154 :: y155 :: y156 :: y157 :: y158 :: y159 :: y160 :: y161 :: y162 :: y163 :: y164 :: y165 :: y166 :: y167 :: y168 :: y169 :: y170 :: y171 :: y172 :: y173 :: y174 :: y175 :: y176 :: y177 :: y178 :: y179 :: y180 :: y181 :: y182 :: y183 :: y184 :: y185 :: y186 :: y187 :: y188 :: y189 :: y190 :: y191 :: y192 :: y193 :: y194 :: y195 :: y196 :: y197 :: y198 :: x199 :: x200 :: x201 :: x202 :: x203 :: x204 :: x205 :: x206 :: x207 :: x208 :: x209 :: x210 :: x211 :: x212 :: x213 :: x214 :: x215 :: []), []⟩ wx) : (c13 [1, 1, 1, 1, 1, 1, 1, 1, 1, 0, 1, 0, 0, 1, 0, 0, 1, 1, 1, 1, 0, 1]).wp Tryd.prog (Exit.then K Q') ⟨List.toArray (x0 :: x1 :: x2 :: x3 :: .pointer (some ⟨wb, 0, none⟩) :: x5 :: x6 :: x7 :: x8 :: .pointer (some ⟨gb, 0, none⟩) :: x10 :: .slice aa ps.length ca :: x12 :: .int .i64 (nb : Int) :: .int .i64 due :: .int .i64 k :: x16 :: x17 :: .slice none 0 0 :: x19 :: x20 :: x21 :: x22 :: x23 :: x24 :: x25 :: x26 :: x27 :: x28 :: x29 :: x30 :: x31 :: x32 :: x33 :: x34 :: x35 :: x36 :: x37 :: x38 :: x39 :: x40 :: x41 :: x42 :: x43 :: x44 :: x45 :: x46 :: x47 :: x48 :: x49 :: x50 :: x51 :: x52 :: x53 :: x54 :: x55 :: x56 :: x57 :: x58 :: x59 :: x60 :: x61 :: x62 :: x63 :: x64 :: x65 :: x66 :: x67 :: x68 :: x69 :: x70 :: x71 :: x72 :: x73 :: x74 :: x75 :: x76 :: x77 :: x78 :: x79 :: x80 :: x81 :: x82 :: x83 :: .bool tt :: x85 :: x86 :: x87 :: x88 :: x89 :: x90 :: x91 :: x92 :: x93 :: x94 :: x95 :: x96 :: x97 :: x98 :: x99 :: x100 :: x101 :: x102 :: x103 :: x104 :: x105 :: x106 :: x107 :: x108 :: x109 :: x110 :: x111 :: x112 :: x113 :: x114 :: x115 :: x116 :: x117 :: x118 :: x119 :: x120 :: x121 :: x122 :: x123 :: x124 :: x125 :: x126 :: x127 :: x128 :: x129 :: x130 :: x131 :: x132 :: x133 :: x134 :: x135 :: x136 :: x137 :: x138 :: x139 :: x140 :: x141 :: x142 :: x143 :: x144 :: x145 :: x146 :: x147 :: x148 :: x149 :: x150 :: x151 :: x152 :: x153 :: x154 :: x155 :: x156 :: x157 :: x158 :: x159 :: x160 :: x161 :: x162 :: x163 :: x164 :: x165 :: x166 :: x167 :: x168 :: x169 :: x170 :: x171 :: x172 :: x173 :: x174 :: x175 :: x176 :: x177 :: x178 :: x179 :: x180 :: x181 :: x182 :: x183 :: x184 :: x185 :: x186 :: x187 :: x188 :: x189 :: x190 :: x191 :: x192 :: x193 :: x194 :: x195 :: x196 :: x197 :: x198 :: x199 :: x200 :: x201 :: x202 :: x203 :: x204 :: x205 :: x206 :: x207 :: x208 :: x209 :: x210 :: x211 :: x212 :: x213 :: x214 :: x215 :: []), []⟩ wz := by
  have HK := Lib.hid hK
  clear hK
  conv => arg 2; whnf
  go_cut [11, 14, 18] from 49 to 198 (fun s11 s14 s18 wx => ∃ (qs : List (Ev × Value)) (b2 : Option Addr) (d2 : Nat) (ak : Option Addr) (ck : Nat), s11 = .slice b2 (ps ++ qs).length d2 ∧ s14 = .int .i64 (if tt = true then -1 else due) ∧ s18 = .slice ak blk.length ck ∧ Hid (qs.map (·.1) = if tt = true then [⟨k, 2, blk⟩] else []) ∧ Hid (DrB w0 gb gr cr mb cm m (ps ++ qs) b2 d2 blk ak ck wx))
  case rest =>
    exact HK.out _ _ _ _ _ _ _ _ _ _ _ _ _ _ _ _ _ _ _ _ _ _ _ _ _ _ _ _ _ _ _ _ _ _ _ _ _ _ _ _ _ _ _ _ _ _ _ _ _ _ _ _ _ _ _ _ _ _ _ _ _ _ _ _ _ _ _ _ _ _ _ _ _ _ _ _ _ _ _ _ _ _ _ _ _ _ _ _ _ _ _ _ _ _ _ _ _ _ _ _ _ _ _ _ _ _ _ _ _ _ _ _ _ _ _ _ _ _ _ _ _ _ _ _ _ _ _ _ _ _ _ _ _ _ _ _ _ _ _ _ _ _ _ _ _ _ _ _ _ _ _ _ _ _ hcut
  case first =>
    clear HK
    cases tt with
    | false =>
      have HE := Lib.hid (show blk = [] from HBL.out)
      go_wp2_with fail
      go_meet
      obtain ⟨ao, co, hd⟩ := HD.out
      exact ⟨[], aa, ca, none, 0, by rw [List.append_nil], rfl, by rw [HE.out]; rfl, Lib.hid rfl, Lib.hid ⟨ao, co, by rw [List.append_nil]; exact hd, by rw [HE.out]; exact World.ownsRow_nil _ _ _ _, fun q hq => by rw [HE.out] at hq; simp [Value.ownBlock] at hq⟩⟩
    | true =>
      have hb1 := hnb rfl
      have HBK := Lib.hid (show blk = bs.getD (nb - 1) zero16 from HBL.out)
      have H16 := Lib.hid (show blk.length = 16 ∧ ∀ z ∈ blk, WordZ z from by rw [HBK.out]; exact getD_mem (P := fun b : List Int => b.length = 16 ∧ ∀ z ∈ b, WordZ z) HWD.out.b16 zero16_ok (nb - 1))
      clear hnb HBL
      obtain ⟨ao, co, hd⟩ := HD.out
      have HS := Lib.hid hd
      clear hd
      have mk := mk_ints 16 (by omega) (by omega) wz
      have HBZ := Lib.hid (below_alloc wz (.cells (zeroInts 16) 3))
      have HZ := Lib.hid (show (wz.alloc (.cells (zeroInts 16) 3)).ownsRow wz.heap.size 3 1 (.slice (some ⟨wz.heap.size, 0, none⟩) 16 16) 16 (zero16.map (Value.int .i64)) from own_block (zs := zero16) (by unfold zero16; rw [← zeroInts_eq]; exact alloc_at rfl) (Nat.le_refl _) rfl (by omega))
      obtain ⟨j, rfl⟩ : ∃ j, nb = j + 1 := ⟨nb - 1, by omega⟩
      rw [Nat.add_sub_cancel] at HBK
      have u2 : wz.cell? ⟨wb, 2, none⟩ = some (.slice a2 bs.length c2) := cell_block HW.out 2
      have lw : wb < wz.heap.size := (Array.getElem?_eq_some_iff.1 HW.out).1
      have hjw : IntKind.i64.wrap (((j + 1 : Nat) : Int) - 1) = (j : Int) := by rw [show ((j + 1 : Nat) : Int) - 1 = (j : Int) by omega]; exact IntWalk.i64_in _ (by omega)
      go_upto_if 90 with fail
      obtain ⟨w1, hw1⟩ : ∃ w1, w1 = wz.alloc (.cells (zeroInts 16) 3) := ⟨_, rfl⟩
      rw [← hw1] at HBZ HZ ⊢
      have v2 : w1.cell? ⟨wb, 2, none⟩ = some (.slice a2 bs.length c2) := (HBZ.out.cell (p := ⟨wb, 2, none⟩) lw).trans u2
      have lw1 : wb < w1.heap.size := Nat.lt_of_lt_of_le lw HBZ.out.size
      clear mk hw1 u2
      go_cut [18] from 49 to 198 (fun s18 wx => ∃ (ak : Option Addr) (ck : Nat), s18 = .slice ak 16 ck ∧ Hid (Below wz.heap.size wz wx) ∧ Hid (wx.ownsRow wz.heap.size 3 1 (.slice ak 16 ck) 16 (blk.map (Value.int .i64))))
      case first =>
        by_cases hj : j < bs.length
        · have hjl : ((j + 1 : Nat) : Int) ≤ (bs.length : Int) := by omega
          obtain ⟨a', c', hv, hl, _, hcell⟩ := HI.out
          injection hv with e1 e2 e3
          subst e1 e3
          obtain ⟨b, off, vi, rfl, hb, hci, hvi⟩ := hcell j hj
          have HE := Lib.hid (show bs[j] = blk from by rw [HBK.out, List.getD_eq_getElem?_getD, List.getElem?_eq_getElem hj]; rfl)
          rw [HE.out] at hvi
          obtain ⟨ad, cd, rfl, _⟩ := id hvi
          have hcw : w1.cell? ⟨b, off + j, none⟩ = some (.slice ad blk.length cd) := (HBZ.out.cell (p := ⟨b, off + j, none⟩) hb).trans hci
          have hbw : b < w1.heap.size := Nat.lt_of_lt_of_le hb HBZ.out.size
          have HWO := Lib.hid (words_any (.slice ad blk.length cd) blk w1 (hvi.to HBZ.out.size (same_below HBZ.out)))
          have hj0 : (0 : Int) ≤ (j : Int) := by omega
          have hj1 : (j : Int) < (bs.length : Int) := by omega
          rw [H16.out.1] at HWO hcw
          clear hcell hci hvi
          go_wp2_with fail
          refine HWO.out.mono ?_
          rintro e w2 ⟨v, rfl, hown, hb2⟩
          rw [List.length_map, H16.out.1] at hown
          obtain ⟨ak, ck, rfl⟩ := own_shape hown
          have HO := Lib.hid (own_base hown HBZ.out.size)
          have HB2 := Lib.hid (HBZ.out.trans (hb2.mono HBZ.out.size))
          clear hown hb2 HWO
          go_wp2_with fail
          go_meet
          exact ⟨ak, ck, rfl, HB2, HO⟩
        · have hjl : ¬ ((j + 1 : Nat) : Int) ≤ (bs.length : Int) := by omega
          have HE := Lib.hid (show blk = zero16 from by rw [HBK.out, List.getD_eq_getElem?_getD, List.getElem?_eq_none (by omega)]; rfl)
          go_wp2_with fail
          go_meet
          exact ⟨_, _, rfl, HBZ, by rw [HE.out]; exact HZ⟩
      case rest =>
        obtain ⟨ak, ck, rfl, HB1, HO1⟩ := hcut
        clear v2 lw1 lw hjw HBZ HZ
        have HS1 := Lib.hid (HS.out.below HB1.out)
        have hsz := HS1.out.za.old.size
        have hsz0 := HS.out.za.old.size
        have hs1 := HB1.out.size
        have HNEW := Lib.hid (show DOwn w0.heap.size wc ((⟨k, 2, blk⟩ : Ev), .slice ak 16 ck) from ⟨by dsimp only; rw [H16.out.1]; exact own_base HO1.out hsz0, fun z hz => (H16.out.2 z hz).i64, by dsimp only; rw [H16.out.1]; omega, by have := HK.out; unfold I64; dsimp only; omega, by unfold I64; dsimp only; omega⟩)
        have HAP := Lib.hid (show ∀ q, (Value.slice ak 16 ck).ownBlock = some q → ¬ Dz gr mb ao m.out.length co q from fun q hq hd => by have := (HO1.out.lt q hq).1; have := HS.out.lt q hd; omega)
        have HBX := Lib.hid (below_alloc wc (.cells #[.int .i64 k, .int .i64 2, .slice ak 16 ck] 53))
        have HL1 := Lib.hid (OutSt.lit hsz HNEW.out rfl)
        have HS4 := Lib.hid (HS1.out.below HBX.out)
        go_wp2_with (at_builtin; go_loud (refine wpList_append_evs _ rfl (.tmp 98) (.tmp 102) rfl w0.heap.size ps [(⟨k, 2, blk⟩, .slice ak 16 ck)] aa (some ⟨wc.heap.size, 0, none⟩) ca 1 (by rfl) (by rfl) HS4.out.all HL1.out (by simp; omega) HS4.out.za.old.size ?_); intro a5 c5 w5 hout5 hg5 hn5; have HO5 := Lib.hid hout5; have HG5 := Lib.hid hg5; clear hout5 hg5 hn5)
        go_meet
        have hlen : (ps ++ [((⟨k, 2, blk⟩ : Ev), Value.slice ak 16 ck)]).length = ps.length + 1 := by simp
        refine ⟨[(⟨k, 2, blk⟩, .slice ak 16 ck)], a5, c5, ak, ck, by rw [hlen], rfl, by rw [H16.out.1], Lib.hid rfl, Lib.hid ⟨ao, co, HS4.out.told HG5.out HO5.out (fun p hp q hq => ?_), ?_, ?_⟩⟩
        · rcases List.mem_append.1 hp with hp | hp
          · exact HS4.out.dat p hp q hq
          · rw [List.mem_singleton.1 hp] at hq; exact HAP.out q hq
        · rw [H16.out.1]
          exact (own_below (own_base HO1.out hsz0) HBX.out (Nat.le_refl _)).kept HG5.out (own_ne (own_below (own_base HO1.out hsz0) HBX.out (Nat.le_refl _)) HS4.out.all.row (by decide))
        · rw [H16.out.1]; exact HAP.out

end Go.Proofs.YtenicnneppgfmaaDoor
namespace Go.Proofs.YtenicnneppgfmaaDoor
open Go Go.RowKit Go.ChangeShapes Go.WideShapes Go.Deep
set_option linter.unusedVariables false
attribute [local go_sem ↓] Go.wp_at_zero Go.wp_at_succ

theorem DrB.below {w0 w w' : World} {gb gr cr mb cm : Nat} {m : Mach} {ps : List (Ev × Value)} {aa : Option Addr} {ca : Nat} {blk : List Int} {ak : Option Addr} {ck : Nat} (h : DrB w0 gb gr cr mb cm m ps aa ca blk ak ck w) (hb : Below w.heap.size w w') : DrB w0 gb gr cr mb cm m ps aa ca blk ak ck w' := by
  obtain ⟨ao, co, h1, h2, h3⟩ := h
  exact ⟨ao, co, h1.below hb, own_below h2 hb (Nat.le_refl _), h3⟩

set_option maxHeartbeats 8000000 in
set_option maxRecDepth 100000 in
theorem rr_val {w0 wz : World} {gb gr cr mb cm : Nat} {m : Mach} {ps : List (Ev × Value)} {aa : Option Addr} {ca : Nat} {k : Int} {tt : Bool} {wb : Nat} {a0 a1 a2 a3 : Option Addr} {c0 c1 c2 c3 : Nat} {is vs : List Int} {bs : List (List Int)} {ds : List Int} {nv ck : Nat} {ak : Option Addr} {blk : List Int} {K : Act → World → Prop} {Q' : Exit → Act → World → Prop} {x0 x1 x2 x3 x5 x6 x7 x8 x10 x13 x14 x16 x17 x18 x19 x20 x21 x22 x24 x25 x26 x27 x28 x29 x30 x31 x32 x33 x34 x35 x36 x37 x38 x39 x40 x41 x42 x43 x44 x45 x46 x47 x48 x49 x50 x51 x52 x53 x54 x55 x56 x57 x58 x59 x60 x61 x62 x63 x64 x65 x66 x67 x68 x69 x70 x71 x72 x73 x74 x75 x76 x77 x78 x79 x80 x81 x82 x83 x84 x85 x86 x87 x88 x89 x90 x91 x92 x93 x94 x95 x96 x97 x98 x99 x100 x101 x102 x103 x104 x105 x106 x107 x108 x109 x110 x111 x112 x113 x114 x115 x116 x117 x118 x119 x120 x121 x122 x123 x124 x125 x126 x127 x128 x129 x130 x131 x132 x133 x134 x135 x136 x137 x139 x140 x141 x142 x143 x144 x145 x146 x147 x148 x149 x150 x151 x152 x153 x154 x155 x156 x157 x158 x159 x160 x161 x162 x163 x164 x165 x166 x167 x168 x169 x170 x171 x172 x173 x174 x175 x176 x177 x178 x179 x180 x181 x182 x183 x184 x185 x186 x187 x188 x189 x190 x191 x192 x193 x194 x195 x196 x197 x198 x199 x200 x201 x202 x203 x204 x205 x206 x207 x208 x209 x210 x211 x212 x213 x214 x215 : Value} (HD : Hid (DrB w0 gb gr cr mb cm m ps aa ca blk ak ck wz)) (HK : Hid (0 ≤ k ∧ k < 3000)) (hpl : ps.length ≤ 2000) (HW : Hid (wz.heap[wb]? = some (.cells #[.slice a0 is.length c0, .slice a1 vs.length c1, .slice a2 bs.length c2, .slice a3 ds.length c3] 25 (0, 0)))) (HI : Hid (Ints wz.heap.size wz (.slice a1 vs.length c1) vs)) (HWV : Hid (∀ z ∈ vs, WordZ z)) (hnv : nv ≤ 4000) (hK : ∀ (y49 y50 y51 y52 y53 y54 y55 y56 y57 y58 y59 y60 y61 y62 y63 y64 y65 y66 y67 y68 y69 y70 y71 y72 y73 y74 y75 y76 y77 y78 y79 y80 y81 y82 y83 y84 y85 y86 y87 y88 y89 y90 y91 y92 y93 y94 y95 y96 y97 y98 y99 y100 y101 y102 y103 y104 y105 y106 y107 y108 y109 y110 y111 y112 y113 y114 y115 y116 y117 y118 y119 y120 y121 y122 y123 y124 y125 y126 y127 y128 y129 y130 y131 y132 y133 y134 y135 y136 y137 y138 y139 y140 y141 y142 y143 y144 y145 y146 y147 y148 y149 y150 y151 y152 y153 y154 y155 y156 y157 y158 y159 y160 y161 y162 y163 y164 y165 y166 y167 y168 y169 y170 y171 y172 y173 y174 y175 y176 y177 y178 y179 y180 y181 y182 y183 y184 y185 y186 y187 y188 y189 y190 y191 y192 y193 y194 y195 y196 y197 y198 : Value) (s11 s12 s23 : Value) (wx : World), (∃ (qs : List (Ev × Value)) (b2 : Option Addr) (d2 : Nat), s11 = .slice b2 (ps ++ qs).length d2 ∧ s12 = .int .i64 (if tt = true then ((nv + 1 : Nat) : Int) else (nv : Int)) ∧ s23 = .int .i64 (if tt = true then vs.getD nv 0 else 0) ∧ Hid (qs.map (·.1) = if tt = true then [⟨k, 3, [vs.getD nv 0]⟩] else []) ∧ Hid (DrB w0 gb gr cr mb cm m (ps ++ qs) b2 d2 blk ak ck wx)) → K ⟨List.toArray (x0 :: x1 :: x2 :: x3 :: .pointer (some ⟨wb, 0, none⟩) :: x5 :: x6 :: x7 :: x8 :: .pointer (some ⟨gb, 0, none⟩) :: x10 :: s11 :: s12 :: x13 :: x14 :: .int .i64 k :: x16 :: x17 :: x18 :: x19 :: x20 :: x21 :: x22 :: s23 :: x24 :: x25 :: x26 :: x27 :: x28 :: x29 :: x30 :: x31 :: x32 :: x33 :: x34 :: x35 :: x36 :: x37 :: x38 :: x39 :: x40 :: x41 :: x42 :: x43 :: x44 :: x45 :: x46 :: x47 :: x48 :: y49 :: y50 :: y51 :: y52 :: y53 :: y54 :: y55 :: y56 :: y57 :: y58 :: y59 :: y60 :: y61 :: y62 :: y63 :: y64 :: y65 :: y66 :: y67 :: y68 :: y69 :: y70 :: y71 :: y72 :: y73 :: y74 :: y75 :: y76 :: y77 :: y78 :: y79 :: y80 :: y81 :: y82 :: y83 :: y84 :: y85 :: y86 :: y87 :: y88 :: y89 :: y90 :: y91 :: y92 :: y93 :: y94 :: y95 :: y96 :: y97 :: y98 :: y99 :: y100 :: y101 :: y102 :: y103 :: y104 :: y105 :: y106 :: y107 :: y108 :: y109 :: y110 :: y111 :: y112 :: y113 :: y114 :: y115 :: y116 :: y117 :: y118 :: y119 :: y120 :: y121 :: y122 :: y123 :: y124 :: y125 :: y126 :: y127 :: y128 :: y129 :: y130 :: y131 :: y132 :: y133 :: y134 :: y135 :: y136 :: y137 :: y138 :: y139 :: y140 :: y141 :: y142 :: y143 :: y144 :: y145 :: y146 :: y147 :: y148 :: y149 :: y150 :: y151 :: y152 :: y153 :: y154 :: y155 :: y156 :: y157 :: y158 :: y159 :: y160 :: y161 :: y162 :: y163 :: y164 :: y165 :: y166 :: y167 :: y168 :: y169 :: y170 :: y171 :: y172 :: y173 :: y174 :: y175 :: y176 :: y177 :: y178 :: y179 :: y180 :: y181 :: y182 :: y183 :: y184 :: y185 :: y186 :: y187 :: y188 :: y189 :: y190 :: y191 :: y192 :: y193 :: y194 :: y195 :: y196 :: y197 :: y198 :: x199 :: x200 :: x201 :: x202 :: x203 :: x204 :: x205 :: x206 :: x207 :: x208 :: x209 :: x210 :: x211 :: x212 :: x213 :: x214 :: x215 :: []), []⟩ wx) : (c13 [1, 1, 1, 1, 1, 1, 1, 1, 1, 0, 1, 0, 0, 1, 0, 0, 1, 1, 1, 1, 1, 1, 1, 1, 1, 1, 0, 1]).wp Tryd.prog (Exit.then K Q') ⟨List.toArray (x0 :: x1 :: x2 :: x3 :: .pointer (some ⟨wb, 0, none⟩) :: x5 :: x6 :: x7 :: x8 :: .pointer (some ⟨gb, 0, none⟩) :: x10 :: .slice aa ps.length ca :: .int .i64 (nv : Int) :: x13 :: x14 :: .int .i64 k :: x16 :: x17 :: x18 :: x19 :: x20 :: x21 :: x22 :: .int .i64 0 :: x24 :: x25 :: x26 :: x27 :: x28 :: x29 :: x30 :: x31 :: x32 :: x33 :: x34 :: x35 :: x36 :: x37 :: x38 :: x39 :: x40 :: x41 :: x42 :: x43 :: x44 :: x45 :: x46 :: x47 :: x48 :: x49 :: x50 :: x51 :: x52 :: x53 :: x54 :: x55 :: x56 :: x57 :: x58 :: x59 :: x60 :: x61 :: x62 :: x63 :: x64 :: x65 :: x66 :: x67 :: x68 :: x69 :: x70 :: x71 :: x72 :: x73 :: x74 :: x75 :: x76 :: x77 :: x78 :: x79 :: x80 :: x81 :: x82 :: x83 :: x84 :: x85 :: x86 :: x87 :: x88 :: x89 :: x90 :: x91 :: x92 :: x93 :: x94 :: x95 :: x96 :: x97 :: x98 :: x99 :: x100 :: x101 :: x102 :: x103 :: x104 :: x105 :: x106 :: x107 :: x108 :: x109 :: x110 :: x111 :: x112 :: x113 :: x114 :: x115 :: x116 :: x117 :: x118 :: x119 :: x120 :: x121 :: x122 :: x123 :: x124 :: x125 :: x126 :: x127 :: x128 :: x129 :: x130 :: x131 :: x132 :: x133 :: x134 :: x135 :: x136 :: x137 :: .bool tt :: x139 :: x140 :: x141 :: x142 :: x143 :: x144 :: x145 :: x146 :: x147 :: x148 :: x149 :: x150 :: x151 :: x152 :: x153 :: x154 :: x155 :: x156 :: x157 :: x158 :: x159 :: x160 :: x161 :: x162 :: x163 :: x164 :: x165 :: x166 :: x167 :: x168 :: x169 :: x170 :: x171 :: x172 :: x173 :: x174 :: x175 :: x176 :: x177 :: x178 :: x179 :: x180 :: x181 :: x182 :: x183 :: x184 :: x185 :: x186 :: x187 :: x188 :: x189 :: x190 :: x191 :: x192 :: x193 :: x194 :: x195 :: x196 :: x197 :: x198 :: x199 :: x200 :: x201 :: x202 :: x203 :: x204 :: x205 :: x206 :: x207 :: x208 :: x209 :: x210 :: x211 :: x212 :: x213 :: x214 :: x215 :: []), []⟩ wz := by
  have HK := Lib.hid hK
  clear hK
  conv => arg 2; whnf
  go_cut [11, 12, 23] from 49 to 198 (fun s11 s12 s23 wx => ∃ (qs : List (Ev × Value)) (b2 : Option Addr) (d2 : Nat), s11 = .slice b2 (ps ++ qs).length d2 ∧ s12 = .int .i64 (if tt = true then ((nv + 1 : Nat) : Int) else (nv : Int)) ∧ s23 = .int .i64 (if tt = true then vs.getD nv 0 else 0) ∧ Hid (qs.map (·.1) = if tt = true then [⟨k, 3, [vs.getD nv 0]⟩] else []) ∧ Hid (DrB w0 gb gr cr mb cm m (ps ++ qs) b2 d2 blk ak ck wx))
  case rest =>
    exact HK.out _ _ _ _ _ _ _ _ _ _ _ _ _ _ _ _ _ _ _ _ _ _ _ _ _ _ _ _ _ _ _ _ _ _ _ _ _ _ _ _ _ _ _ _ _ _ _ _ _ _ _ _ _ _ _ _ _ _ _ _ _ _ _ _ _ _ _ _ _ _ _ _ _ _ _ _ _ _ _ _ _ _ _ _ _ _ _ _ _ _ _ _ _ _ _ _ _ _ _ _ _ _ _ _ _ _ _ _ _ _ _ _ _ _ _ _ _ _ _ _ _ _ _ _ _ _ _ _ _ _ _ _ _ _ _ _ _ _ _ _ _ _ _ _ _ _ _ _ _ _ _ _ _ _ hcut
  case first =>
    clear HK
    cases tt with
    | false =>
      go_wp2_with fail
      go_meet
      exact ⟨[], aa, ca, by rw [List.append_nil], rfl, rfl, Lib.hid rfl, by rw [List.append_nil]; exact HD⟩
    | true =>
      have u1 : wz.cell? ⟨wb, 1, none⟩ = some (.slice a1 vs.length c1) := cell_block HW.out 1
      have lw : wb < wz.heap.size := (Array.getElem?_eq_some_iff.1 HW.out).1
      have HZ := Lib.hid (show WordZ (vs.getD nv 0) from getD_mem HWV.out (by unfold WordZ; omega) nv)
      go_upto_if 143 with fail
      go_cut [23] from 49 to 198 (fun s23 wx => s23 = .int .i64 (vs.getD nv 0) ∧ wx = wz)
      case first =>
        by_cases hj : nv < vs.length
        · have hjl : (nv : Int) < (vs.length : Int) := by omega
          obtain ⟨a', c', hv, hl, _, hcell⟩ := HI.out
          injection hv with e1 e2 e3
          subst e1 e3
          obtain ⟨b, off, vi, rfl, hb, hci, hvi⟩ := hcell nv hj
          obtain ⟨rfl, -⟩ := hvi
          have HE := Lib.hid (show vs.getD nv 0 = vs[nv] from by rw [List.getD_eq_getElem?_getD, List.getElem?_eq_getElem hj]; rfl)
          have hj0 : (0 : Int) ≤ (nv : Int) := by omega
          clear hcell
          generalize vs[nv] = z at *
          go_wp2_with fail
          go_meet
          exact ⟨by rw [HE.out], rfl⟩
        · have hjl : ¬ (nv : Int) < (vs.length : Int) := by omega
          have HE := Lib.hid (show vs.getD nv 0 = 0 from by rw [List.getD_eq_getElem?_getD, List.getElem?_eq_none (by omega)]; rfl)
          go_wp2_with fail
          go_meet
          exact ⟨by rw [HE.out], rfl⟩
      case rest =>
        obtain ⟨rfl, rfl⟩ := hcut
        generalize vs.getD nv 0 = z at *
        clear u1 lw
        obtain ⟨ao, co, hs, hrow, hap⟩ := HD.out
        have HS := Lib.hid hs
        have HRW := Lib.hid hrow
        have HAP := Lib.hid hap
        have hsz := hs.za.old.size
        clear hs hrow hap
        have HBW := Lib.hid (below_alloc wc (.cells #[.int .i64 z] 3))
        have HS3 := Lib.hid (HS.out.below HBW.out)
        have hs2 : (wc.alloc (.cells #[.int .i64 z] 3)).heap.size = wc.heap.size + 1 := by simp
        have HNEW := Lib.hid (show DOwn w0.heap.size (wc.alloc (.cells #[.int .i64 z] 3)) ((⟨k, 3, [z]⟩ : Ev), .slice (some ⟨wc.heap.size, 0, none⟩) 1 1) from ⟨World.ownsRow_lit (base := w0.heap.size) (e := 3) (size := 1) wc #[.int .i64 z] 1 hsz (by unfold maxLen; omega) rfl, fun y hy => by rw [List.mem_singleton.1 hy]; exact HZ.out.i64, by simp, by have := HK.out; unfold I64; dsimp only; omega, by unfold I64; dsimp only; omega⟩)
        have HBX := Lib.hid (below_alloc (wc.alloc (.cells #[.int .i64 z] 3)) (.cells #[.int .i64 k, .int .i64 3, .slice (some ⟨wc.heap.size, 0, none⟩) 1 1] 53))
        have HL1 := Lib.hid (OutSt.lit HS3.out.za.old.size HNEW.out rfl)
        rw [hs2] at HL1
        have HS4 := Lib.hid (HS3.out.below HBX.out)
        have hnw : IntKind.i64.wrap ((nv : Int) + 1) = (nv : Int) + 1 := IntWalk.i64_in _ (by omega)
        go_wp2_with (at_builtin; go_loud (refine wpList_append_evs _ rfl (.tmp 151) (.tmp 156) rfl w0.heap.size ps [(⟨k, 3, [z]⟩, .slice (some ⟨wc.heap.size, 0, none⟩) 1 1)] aa (some ⟨wc.heap.size + 1, 0, none⟩) ca 1 (by rfl) (by rfl) HS4.out.all HL1.out (by simp; omega) HS4.out.za.old.size ?_); intro a5 c5 w5 hout5 hg5 hn5; have HO5 := Lib.hid hout5; have HG5 := Lib.hid hg5; clear hout5 hg5 hn5)
        go_meet
        have hlen : (ps ++ [((⟨k, 3, [z]⟩ : Ev), Value.slice (some ⟨wc.heap.size, 0, none⟩) 1 1)]).length = ps.length + 1 := by simp
        refine ⟨[(⟨k, 3, [z]⟩, .slice (some ⟨wc.heap.size, 0, none⟩) 1 1)], a5, c5, by rw [hlen], by first | rfl | (push_cast; rfl), rfl, Lib.hid rfl, Lib.hid ⟨ao, co, HS4.out.told HG5.out HO5.out (fun p hp q hq => ?_), ?_, HAP.out⟩⟩
        · rcases List.mem_append.1 hp with hp | hp
          · exact HS4.out.dat p hp q hq
          · rw [List.mem_singleton.1 hp] at hq
            intro hd
            have := HS.out.lt q hd
            simp [Value.ownBlock] at hq
            omega
        · have h2 := own_below (own_below HRW.out HBW.out (Nat.le_refl _)) HBX.out (Nat.le_refl _)
          exact h2.kept HG5.out (own_ne h2 HS4.out.all.row (by decide))

end Go.Proofs.YtenicnneppgfmaaDoor
