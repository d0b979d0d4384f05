/- The loop over events in the document's EventsOf. No condition beyond those of each row. -/
import Derived.Test.YtiekilpddmdhnaaDoorTeb
import Derived.Test.YtiekilpddmdhnaaDoorTek
import Derived.Handy
import Derived.StillTailTactics
import Derived.Deep.RegionWith
import Derived.Deep.RegionLaw
import Derived.Deep.CutBlock
import Derived.Deep.CutRange
import Derived.Deep.RegionHeld3
import Derived.Deep.LoopGhost
namespace Go.Proofs.YtiekilpddmdhnaaDoor
open Go Go.RowKit Go.ChangeShapes Go.WideShapes Go.Deep
set_option linter.unusedVariables false

set_option maxHeartbeats 8000000 in
set_option maxRecDepth 100000 in
theorem ev_loop {w : World} {g : Nat} {p r1 : List UInt8} {m : Nat} {e1 : Int} {wz : World} {K : Act → World → Prop} {Q' : Exit → Act → World → Prop} {x0 x1 x2 x3 x9 x10 x11 x12 x13 x14 x15 x16 x17 x18 x19 x20 x21 x22 x23 x24 x25 x26 x27 x28 x29 x30 x31 x32 x33 x34 x35 x36 x37 x38 x39 x40 x41 x42 x43 x44 x45 x46 x47 x48 x49 x50 x51 x52 x53 x54 x55 x56 x57 x58 x59 x60 x61 x62 x63 x64 x65 x66 x67 x68 x69 x70 x71 x72 x73 x74 x75 x76 x77 x78 x79 x80 x81 x82 x83 x84 x85 x86 x87 x88 x89 x90 x91 x92 x93 x94 x95 x96 x97 x98 x99 x100 x101 x102 x103 x104 x105 x106 x107 x108 x109 x110 x111 x112 x113 x114 x115 x116 x117 x118 x119 x120 x121 x122 x123 x124 x125 x126 x127 x128 x129 x130 x131 x132 x133 x134 x135 x136 x137 x138 x139 x140 x141 x142 x143 x144 x145 x146 x147 x148 x149 x150 x151 x152 x153 x154 x155 x156 x157 x158 x159 x160 x161 x162 x163 x164 x165 x166 x167 x168 x169 x170 x171 x172 x173 x174 x175 x176 x177 x178 x179 x180 x181 x182 x183 x184 x185 x186 x187 x188 : Value} (HR2 : Hid (Tp w g p r1 e1 wz)) (HE0 : Hid (e1 ≠ 0 → m = 0)) (hm : m ≤ 1000) (hK : ∀ (y9 y10 y11 y12 y13 y14 y15 y16 y17 y18 y19 y20 y21 y22 y23 y24 y25 y26 y27 y28 y29 y30 y31 y32 y33 y34 y35 y36 y37 y38 y39 y40 y41 y42 y43 y44 y45 y46 y47 y48 y49 y50 y51 y52 y53 y54 y55 y56 y57 y58 y59 y60 y61 y62 y63 y64 y65 y66 y67 y68 y69 y70 y71 y72 y73 y74 y75 y76 y77 y78 y79 y80 y81 y82 y83 y84 y85 y86 y87 y88 y89 y90 y91 y92 y93 y94 y95 y96 y97 y98 y99 y100 y101 y102 y103 y104 y105 y106 y107 y108 y109 y110 y111 y112 y113 y114 y115 y116 y117 y118 y119 y120 y121 y122 y123 y124 y125 y126 y127 y128 y129 y130 y131 y132 y133 y134 y135 y136 y137 y138 y139 y140 y141 y142 y143 y144 y145 y146 y147 y148 y149 y150 y151 y152 y153 y154 y155 y156 y157 y158 y159 y160 y161 y162 y163 y164 y165 y166 y167 y168 y169 y170 y171 y172 y173 y174 y175 y176 y177 y178 y179 y180 y181 y182 y183 y184 y185 y186 y187 y188 : Value) (s6 s7 s8 : Value) (wx : World), (∃ (ps : List (Ev × Value)) (a : Option Addr) (c : Nat) (e : Int) (cs : List UInt8), s6 = .slice a ps.length c ∧ ps.length ≤ 1000 ∧ Hid (Tp w g p cs e wx) ∧ Hid (OutSt (g + 1) ps a c wx) ∧ Hid ((e ≠ 0 ∧ ((e1 ≠ 0 ∧ e = e1) ∨ (e1 = 0 ∧ ∃ ev r, evsP m 0 r1 = (e, ev, r)))) ∨ (e = 0 ∧ e1 = 0 ∧ evsP m 0 r1 = (0, ps.map (·.1), cs)))) → K ⟨List.toArray (x0 :: x1 :: x2 :: x3 :: .pointer (some ⟨g, 0, none⟩) :: .int .i64 (m : Int) :: s6 :: s7 :: s8 :: y9 :: y10 :: y11 :: y12 :: y13 :: y14 :: y15 :: y16 :: y17 :: y18 :: y19 :: y20 :: y21 :: y22 :: y23 :: y24 :: y25 :: y26 :: y27 :: y28 :: y29 :: y30 :: y31 :: y32 :: y33 :: y34 :: y35 :: y36 :: y37 :: y38 :: y39 :: y40 :: y41 :: y42 :: y43 :: y44 :: y45 :: y46 :: y47 :: y48 :: y49 :: y50 :: y51 :: y52 :: y53 :: y54 :: y55 :: y56 :: y57 :: y58 :: y59 :: y60 :: y61 :: y62 :: y63 :: y64 :: y65 :: y66 :: y67 :: y68 :: y69 :: y70 :: y71 :: y72 :: y73 :: y74 :: y75 :: y76 :: y77 :: y78 :: y79 :: y80 :: y81 :: y82 :: y83 :: y84 :: y85 :: y86 :: y87 :: y88 :: y89 :: y90 :: y91 :: y92 :: y93 :: y94 :: y95 :: y96 :: y97 :: y98 :: y99 :: y100 :: y101 :: y102 :: y103 :: y104 :: y105 :: y106 :: y107 :: y108 :: y109 :: y110 :: y111 :: y112 :: y113 :: y114 :: y115 :: y116 :: y117 :: y118 :: y119 :: y120 :: y121 :: y122 :: y123 :: y124 :: y125 :: y126 :: y127 :: y128 :: y129 :: y130 :: y131 :: y132 :: y133 :: y134 :: y135 :: y136 :: y137 :: y138 :: y139 :: y140 :: y141 :: y142 :: y143 :: y144 :: y145 :: y146 :: y147 :: y148 :: y149 :: y150 :: y151 :: y152 :: y153 :: y154 :: y155 :: y156 :: y157 :: y158 :: y159 :: y160 :: y161 :: y162 :: y163 :: y164 :: y165 :: y166 :: y167 :: y168 :: y169 :: y170 :: y171 :: y172 :: y173 :: y174 :: y175 :: y176 :: y177 :: y178 :: y179 :: y180 :: y181 :: y182 :: y183 :: y184 :: y185 :: y186 :: y187 :: y188 :: []), []⟩ wx) : (c8 [1, 1, 1, 1, 1, 1, 1, 1, 1, 0, 1]).wp Tryd.prog (Exit.then K Q') ⟨List.toArray (x0 :: x1 :: x2 :: x3 :: .pointer (some ⟨g, 0, none⟩) :: .int .i64 (m : Int) :: .slice none 0 0 :: .int .i64 0 :: .int .i64 0 :: x9 :: x10 :: x11 :: x12 :: x13 :: x14 :: x15 :: x16 :: x17 :: x18 :: x19 :: x20 :: x21 :: x22 :: x23 :: x24 :: x25 :: x26 :: x27 :: x28 :: x29 :: x30 :: x31 :: x32 :: x33 :: x34 :: x35 :: x36 :: x37 :: x38 :: x39 :: x40 :: x41 :: x42 :: x43 :: x44 :: x45 :: x46 :: x47 :: x48 :: x49 :: x50 :: x51 :: x52 :: x53 :: x54 :: x55 :: x56 :: x57 :: x58 :: x59 :: x60 :: x61 :: x62 :: x63 :: x64 :: x65 :: x66 :: x67 :: x68 :: x69 :: x70 :: x71 :: x72 :: x73 :: x74 :: x75 :: x76 :: x77 :: x78 :: x79 :: x80 :: x81 :: x82 :: x83 :: x84 :: x85 :: x86 :: x87 :: x88 :: x89 :: x90 :: x91 :: x92 :: x93 :: x94 :: x95 :: x96 :: x97 :: x98 :: x99 :: x100 :: x101 :: x102 :: x103 :: x104 :: x105 :: x106 :: x107 :: x108 :: x109 :: x110 :: x111 :: x112 :: x113 :: x114 :: x115 :: x116 :: x117 :: x118 :: x119 :: x120 :: x121 :: x122 :: x123 :: x124 :: x125 :: x126 :: x127 :: x128 :: x129 :: x130 :: x131 :: x132 :: x133 :: x134 :: x135 :: x136 :: x137 :: x138 :: x139 :: x140 :: x141 :: x142 :: x143 :: x144 :: x145 :: x146 :: x147 :: x148 :: x149 :: x150 :: x151 :: x152 :: x153 :: x154 :: x155 :: x156 :: x157 :: x158 :: x159 :: x160 :: x161 :: x162 :: x163 :: x164 :: x165 :: x166 :: x167 :: x168 :: x169 :: x170 :: x171 :: x172 :: x173 :: x174 :: x175 :: x176 :: x177 :: x178 :: x179 :: x180 :: x181 :: x182 :: x183 :: x184 :: x185 :: x186 :: x187 :: x188 :: []), []⟩ wz := by
  have HK := Lib.hid hK
  clear hK
  conv => arg 2; whnf
  go_cut [6, 7, 8] from 9 (fun s6 s7 s8 wx => ∃ (ps : List (Ev × Value)) (a : Option Addr) (c : Nat) (e : Int) (cs : List UInt8), s6 = .slice a ps.length c ∧ ps.length ≤ 1000 ∧ Hid (Tp w g p cs e wx) ∧ Hid (OutSt (g + 1) ps a c wx) ∧ Hid ((e ≠ 0 ∧ ((e1 ≠ 0 ∧ e = e1) ∨ (e1 = 0 ∧ ∃ ev r, evsP m 0 r1 = (e, ev, r)))) ∨ (e = 0 ∧ e1 = 0 ∧ evsP m 0 r1 = (0, ps.map (·.1), cs))))
  case rest =>
    exact HK.out _ _ _ _ _ _ _ _ _ _ _ _ _ _ _ _ _ _ _ _ _ _ _ _ _ _ _ _ _ _ _ _ _ _ _ _ _ _ _ _ _ _ _ _ _ _ _ _ _ _ _ _ _ _ _ _ _ _ _ _ _ _ _ _ _ _ _ _ _ _ _ _ _ _ _ _ _ _ _ _ _ _ _ _ _ _ _ _ _ _ _ _ _ _ _ _ _ _ _ _ _ _ _ _ _ _ _ _ _ _ _ _ _ _ _ _ _ _ _ _ _ _ _ _ _ _ _ _ _ _ _ _ _ _ _ _ _ _ _ _ _ _ _ _ _ _ _ _ _ _ _ _ _ _ _ _ _ _ _ _ _ _ _ _ _ _ _ _ _ _ _ _ _ _ _ _ _ _ _ _ _ _ _ _ hcut
  case first =>
    clear HK
    go_wp2_with fail
    go_loopg [6, 7, 8] m (fun gh s6 s7 s8 wr => ∃ (i : Nat) (ps : List (Ev × Value)) (a : Option Addr) (c : Nat) (at_ e : Int) (cs : List UInt8), i ≤ m ∧ gh = m - i ∧ s8 = .int .i64 i ∧ s7 = .int .i64 at_ ∧ ps.length = i ∧ s6 = .slice a ps.length c ∧ Hid (Tp w g p cs e wr) ∧ Hid (OutSt (g + 1) ps a c wr) ∧ Hid ((e1 ≠ 0 → e = e1) ∧ (e1 = 0 → (e = 0 ∧ 0 ≤ at_ ∧ at_ ≤ i * 140737488355328 ∧ EvsGo m r1 i at_ cs (ps.map (·.1))) ∨ (e ≠ 0 ∧ ∃ ev r, evsP m 0 r1 = (e, ev, r)))))
    case atStart => exact ⟨0, [], none, 0, 0, e1, r1, Nat.zero_le _, by omega, rfl, rfl, rfl, rfl, HR2, Lib.hid (OutSt.nil _ _), Lib.hid ⟨fun _ => rfl, fun h => Or.inl ⟨h, by omega, by omega, EvsGo.start _ _⟩⟩⟩
    case round =>
      obtain ⟨i, ps, a, c, at_, e, cs, hi, rfl, rfl, rfl, hpl, rfl, HR, HO, HG⟩ := hrel
      have HPL := Lib.hid hpl
      have hpl2 : ps.length ≤ 1000 := by omega
      clear HR2 hpl
      have q2 := HR.out.c2.1
      have hlg := HR.out.lt
      by_cases hgo : i < m ∧ e = 0
      · obtain ⟨hil, rfl⟩ := hgo
        obtain rfl : e1 = 0 := by
          by_cases h : e1 = 0
          · exact h
          · have := HE0.out h; omega
        obtain ⟨hat0, hat1, hevs⟩ : 0 ≤ at_ ∧ at_ ≤ i * 140737488355328 ∧ EvsGo m r1 i at_ cs (ps.map (·.1)) := by
          rcases HG.out.2 rfl with ⟨_, h⟩ | ⟨h, _⟩
          · exact h
          · exact absurd rfl h
        have hb48 : at_ ≤ 1000 * 140737488355328 := by omega
        have HEV := Lib.hid hevs
        have HIL := Lib.hid hil
        clear hevs HG
        obtain ⟨e2, nn, r, hn2⟩ : ∃ e2 nn r, numP 0 0 cs = (e2, nn, r) := ⟨_, _, _, rfl⟩
        have hnl := numE_lt (e := 0) hn2
        have HNX := Lib.hid (next_gen w g p cs wr HR.out (e0 := 0) hn2)
        have HN2 := Lib.hid hn2
        clear hn2
        go_wp2_with fail
        refine HNX.out.mono ?_
        rintro en w3 ⟨rfl, hr3, hg3⟩
        have HR3 := Lib.hid hr3
        have HO3 := Lib.hid (HO.out.kept_lt hg3 (by omega))
        have q3 := hr3.c2.1
        have hlg3 := hr3.lt
        clear hr3 hg3 HO HR HNX q2
        by_cases he2 : e2 = 0
        · subst he2
          have hge0 : 0 ≤ (at_ + (nn : Int) / 4) := by omega
          have hle0 : (at_ + (nn : Int) / 4) ≤ ((i : Int) + 1) * 140737488355328 := by omega
          have hle1 : (at_ + (nn : Int) / 4) ≤ at_ + 140737488355328 := by omega
          have HAT := Lib.hid (show (at_ + (nn : Int) / 4) = at_ + ((nn / 4 : Nat) : Int) by omega)
          have hm0 : 0 ≤ (nn : Int) % 4 := by omega
          have hm3 : (nn : Int) % 4 ≤ 3 := by omega
          have HK := Lib.hid (show (nn : Int) % 4 = ((nn % 4 : Nat) : Int) by omega)
          have HX := Lib.hid (TSt.start (x0 := (at_ + (nn : Int) / 4)) (x1 := (nn : Int) % 4) HR3.out HO3.out)
          obtain ⟨y2, yf2, y0, y1, yf, l1, l2⟩ := HX.out.y
          have hne1 : ¬ g = w3.heap.size := by omega
          go_upto_if 75 with fail
          generalize w3.alloc (.cells #[.int .i64 (at_ + (nn : Int) / 4), .int .i64 ((nn : Int) % 4), .slice none 0 0] 54) = W4 at *
          generalize (nn : Int) % 4 = m4 at *
          generalize hXX : at_ + (nn : Int) / 4 = X at *
          generalize hgx0 : w3.heap.size = gx at *
          have HXX := Lib.hid hXX
          clear hgx0 y2 yf2 y0 y1 yf l1 l2 hne1 hXX
          refine ev_k0 HX ?_
          intros
          rename_i wc hcut
          clear HX
          obtain ⟨e5, HX, HE5⟩ := hcut
          obtain ⟨y2, yf2, y0, y1, yf, l1, l2⟩ := HX.out.y
          go_upto_if 81 with fail
          clear y2 yf2 y0 y1 yf l1 l2
          refine ev_k3 HX (fun h => (by rcases HE5.out with ⟨h1, _⟩ | ⟨_, h1⟩; omega; exact h1)) ?_
          intros
          rename_i wc3 hcut
          clear HX
          obtain ⟨e6, acc6, r6, HX, HE6⟩ := hcut
          have h6 : m4 = 2 → acc6 = [] ∧ e6 = 0 := by
            intro h
            rcases HE6.out with ⟨h1, _⟩ | ⟨_, h1, _, h2⟩
            · omega
            · exact ⟨h1, by rcases HE5.out with ⟨h3, _⟩ | ⟨_, h3⟩; omega; rw [h2, h3]⟩
          go_upto_block 2 with fail
          refine ev_blk HX h6 ?_
          intros
          rename_i s11 s12 s13 wc4 hcut
          clear HX h6
          obtain ⟨e7, acc, r7, HX, HE7⟩ := hcut
          have HFIN : Hid ((∀ z ∈ acc, I64 z) ∧ acc.length ≤ 16 ∧ ((e7 = 0 ∧ 0 ≤ X ∧ X ≤ ((i + 1 : Nat) : Int) * 140737488355328 ∧ EvsGo m r1 (i + 1) X r7 (ps.map (·.1) ++ [⟨X, m4, acc⟩])) ∨ (e7 ≠ 0 ∧ ∃ ev r, evsP m 0 r1 = (e7, ev, r)))) := Lib.hid (by
            have hX0 := HAT.out
            rcases HE7.out with ⟨h2, h64, h16, hq⟩ | ⟨h2, rfl, rfl, rfl⟩
            · have hk : nn % 4 = 2 := by have := HK.out; omega
              have hr6 : r6 = r := by rcases HE6.out with ⟨h1, _⟩ | ⟨_, _, h1, _⟩; omega; exact h1
              subst hr6
              refine ⟨h64, h16, ?_⟩
              rcases hq with ⟨rfl, hb⟩ | ⟨hne, d, hb⟩
              · refine Or.inl ⟨rfl, hge0, by push_cast; exact hle0, ?_⟩
                have hs := HEV.out.step hil (evP_2 (a := at_) HN2.out hk hb)
                rw [hX0, h2]; exact hs
              · obtain ⟨ev, hh⟩ := HEV.out.err hil (evP_2 (a := at_) HN2.out hk hb) hne
                exact Or.inr ⟨hne, ev, r7, hh⟩
            · rcases HE6.out with ⟨h3, z, hz, rfl⟩ | ⟨h3, rfl, rfl, rfl⟩
              · have hk : nn % 4 = 3 := by have := HK.out; omega
                have hzl := zag_lt (numE_lt (e := 0) hz)
                refine ⟨by intro y hy; rw [List.mem_singleton.1 hy]; unfold I64; omega, by simp, ?_⟩
                by_cases h0 : e7 = 0
                · subst h0
                  refine Or.inl ⟨rfl, hge0, by push_cast; exact hle0, ?_⟩
                  have hs := HEV.out.step hil (evP_3 (a := at_) HN2.out hk hz)
                  rw [hX0, h3]; exact hs
                · obtain ⟨ev, hh⟩ := HEV.out.err hil (evP_3 (a := at_) HN2.out hk hz) h0
                  exact Or.inr ⟨h0, ev, r7, hh⟩
              · refine ⟨by simp, by simp, ?_⟩
                rcases HE5.out with ⟨h, rfl⟩ | ⟨h, rfl⟩
                · obtain ⟨ev, hh⟩ := HEV.out.err hil (evP_0 (a := at_) HN2.out (by have := HK.out; omega)) (by decide)
                  exact Or.inr ⟨by decide, ev, r7, hh⟩
                · have h1 : m4 = 1 := by omega
                  have hs := HEV.out.step hil (evP_1 (a := at_) HN2.out (by have := HK.out; omega))
                  exact Or.inl ⟨rfl, hge0, by push_cast; exact hle0, by rw [hX0, h1]; exact hs⟩)
          have HI4 := Lib.hid (show I64 X ∧ I64 m4 from ⟨by unfold I64; omega, by unfold I64; omega⟩)
          clear HE7 HE6 HE5 HK HAT HXX HN2
          obtain ⟨y2, _, y0, y1, _, l1, l2⟩ := HX.out.y
          obtain ⟨aq, cq, hxq, hoq⟩ := HX.out.xb
          have z2 : wc4.cell? ⟨gx, 2, none⟩ = some (.slice aq acc.length cq) := cell_block hxq 2
          have HOQ := Lib.hid hoq
          have hgx := HX.out.hg
          have HRW := Lib.hid HX.out.out.row
          have h16 := HFIN.out.2.1
          clear hxq hoq hat0 hat1 hb48 hge0 hle0 hle1 hm0 hm3
          go_wp2_with (at_builtin; go_loud (refine wpList_push wc4 rfl (.tmp 145) (.tmp 147) 23 rfl (g + 1) 54 (.agg #[.int .i64 0, .int .i64 0, .slice none 0 0]) 3 40 Tryd.underlying23 info_ev rfl (by decide) [.int .i64 X, .int .i64 m4, .slice aq acc.length cq] rfl (by simp [Value.oneCell']) _ _ _ (by rfl) HRW.out (by rfl) (by simp) (by omega) (by omega) (by omega) ?_); intro g5 cp5 w5 hown5 hgrow5; have HW5 := Lib.hid hown5; have HGR5 := Lib.hid hgrow5; clear hown5 hgrow5)
          have HO6 := Lib.hid (HX.out.out.push (p := (⟨X, m4, acc⟩, .slice aq acc.length cq)) ⟨own_base HOQ.out (by omega), HFIN.out.1, HFIN.out.2.1, HI4.out⟩ HW5.out HGR5.out)
          have HR6 := Lib.hid (HX.out.tp.other HGR5.out (fun e => by have := HRW.out.lt _ e.symm; omega) (fun k hk => by have := HRW.out.lt _ hk; have := HX.out.tp.ge; omega))
          go_roundg (m - (i + 1))
          case measure => omega
          case rel => exact ⟨i + 1, ps ++ [(⟨X, m4, acc⟩, .slice aq acc.length cq)], _, _, X, e7, r7, by omega, rfl, by first | go_num | (have e := IntWalk.i64_in ((i : Int) + 1) (by omega); rw [e]; push_cast; rfl), rfl, by rw [List.length_append, HPL.out]; rfl, by rw [List.length_append]; rfl, HR6, HO6, Lib.hid ⟨fun h => absurd rfl h, fun _ => by rw [List.map_append]; exact HFIN.out.2.2⟩⟩
        · have hnb : (e2 != 0) = true := by rw [bne_iff_ne]; exact he2
          have HFIN := Lib.hid (show (e2 ≠ 0 ∧ (((0 : Int) ≠ 0 ∧ e2 = 0) ∨ ((0 : Int) = 0 ∧ ∃ ev r, evsP m 0 r1 = (e2, ev, r)))) ∨ (e2 = 0 ∧ (0 : Int) = 0 ∧ evsP m 0 r1 = (0, ps.map (·.1), r)) from by
            obtain ⟨ev, h⟩ := HEV.out.err hil (evP_e (a := at_) HN2.out he2) he2
            exact Or.inl ⟨he2, Or.inr ⟨rfl, ev, r, h⟩⟩)
          clear he2
          go_wp2_with fail
          go_meet
          exact ⟨ps, a, c, e2, r, rfl, hpl2, HR3, HO3, HFIN⟩
      · have HFIN := Lib.hid (show (e ≠ 0 ∧ ((e1 ≠ 0 ∧ e = e1) ∨ (e1 = 0 ∧ ∃ ev r, evsP m 0 r1 = (e, ev, r)))) ∨ (e = 0 ∧ e1 = 0 ∧ evsP m 0 r1 = (0, ps.map (·.1), cs)) from by
          by_cases h1 : e1 = 0
          · rcases HG.out.2 h1 with ⟨h0, _, _, hev⟩ | ⟨h0, ev, r, hh⟩
            · have him : i = m := by
                rcases Nat.lt_or_ge i m with h | h
                · exact absurd ⟨h, h0⟩ hgo
                · omega
              rw [him] at hev
              exact Or.inr ⟨h0, h1, hev.fin⟩
            · exact Or.inl ⟨h0, Or.inr ⟨h1, ev, r, hh⟩⟩
          · exact Or.inl ⟨by rw [HG.out.1 h1]; exact h1, Or.inl ⟨h1, HG.out.1 h1⟩⟩)
        by_cases hil : i < m
        · have he : e ≠ 0 := fun h => hgo ⟨hil, h⟩
          have heb : (e == 0) = false := by rw [beq_eq_false_iff_ne]; exact he
          clear hgo he
          go_wp2_with fail
          go_meet
          exact ⟨ps, a, c, e, cs, rfl, hpl2, HR, HO, HFIN⟩
        · clear hgo
          go_wp2_with fail
          go_meet
          exact ⟨ps, a, c, e, cs, rfl, hpl2, HR, HO, HFIN⟩

end Go.Proofs.YtiekilpddmdhnaaDoor
