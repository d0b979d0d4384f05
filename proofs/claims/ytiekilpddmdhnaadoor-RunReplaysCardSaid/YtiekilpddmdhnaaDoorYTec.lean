/- Several texts joined, each with its own heading in the notes: The loop over events in the document's EventsOf. The contract of the reference's EventsOf. The document's TapeFault. No condition beyond those of each row. -/
import Derived.Test.YtiekilpddmdhnaaDoorYTea
import Derived.Handy
import Derived.StillTailTactics
import Derived.Deep.RegionWith
import Derived.Deep.RegionLaw
import Derived.Deep.CutBlock
import Derived.Deep.CutRange
import Derived.Deep.RegionHeld3
import Derived.Deep.LoopGhost
import Derived.Laws.IdiomStrings
import Derived.Test.YtiekilpddmdhnaaDoorYNa
namespace Go.Proofs.YtiekilpddmdhnaaDoor
open Go Go.RowKit Go.ChangeShapes Go.WideShapes Go.Deep
set_option linter.unusedVariables false

set_option maxHeartbeats 8000000 in
set_option maxRecDepth 100000 in
theorem ev_loop {w : World} {g : Nat} {p r1 : List UInt8} {m : Nat} {e1 : Int} {wz : World} {K : Act → World → Prop} {Q' : Exit → Act → World → Prop} {x0 x1 x2 x3 x9 x10 x11 x12 x13 x14 x15 x16 x17 x18 x19 x20 x21 x22 x23 x24 x25 x26 x27 x28 x29 x30 x31 x32 x33 x34 x35 x36 x37 x38 x39 x40 x41 x42 x43 x44 x45 x46 x47 x48 x49 x50 x51 x52 x53 x54 x55 x56 x57 x58 x59 x60 x61 x62 x63 x64 x65 x66 x67 x68 x69 x70 x71 x72 x73 x74 x75 x76 x77 x78 x79 x80 x81 x82 x83 x84 x85 x86 x87 x88 x89 x90 x91 x92 x93 x94 x95 x96 x97 x98 x99 x100 x101 x102 x103 x104 x105 x106 x107 x108 x109 x110 x111 x112 x113 x114 x115 x116 x117 x118 x119 x120 x121 x122 x123 x124 x125 x126 x127 x128 x129 x130 x131 x132 x133 x134 x135 x136 x137 x138 x139 x140 x141 x142 x143 x144 x145 x146 x147 x148 x149 x150 x151 x152 x153 x154 x155 x156 x157 x158 x159 x160 x161 x162 x163 x164 x165 x166 x167 x168 x169 x170 x171 x172 x173 x174 x175 x176 x177 x178 x179 x180 x181 x182 x183 x184 x185 x186 x187 x188 : Value} (HR2 : Hid (Tp w g p r1 e1 wz)) (HE0 : Hid (e1 ≠ 0 → m = 0)) (hm : m ≤ 1000) (hK : ∀ (y9 y10 y11 y12 y13 y14 y15 y16 y17 y18 y19 y20 y21 y22 y23 y24 y25 y26 y27 y28 y29 y30 y31 y32 y33 y34 y35 y36 y37 y38 y39 y40 y41 y42 y43 y44 y45 y46 y47 y48 y49 y50 y51 y52 y53 y54 y55 y56 y57 y58 y59 y60 y61 y62 y63 y64 y65 y66 y67 y68 y69 y70 y71 y72 y73 y74 y75 y76 y77 y78 y79 y80 y81 y82 y83 y84 y85 y86 y87 y88 y89 y90 y91 y92 y93 y94 y95 y96 y97 y98 y99 y100 y101 y102 y103 y104 y105 y106 y107 y108 y109 y110 y111 y112 y113 y114 y115 y116 y117 y118 y119 y120 y121 y122 y123 y124 y125 y126 y127 y128 y129 y130 y131 y132 y133 y134 y135 y136 y137 y138 y139 y140 y141 y142 y143 y144 y145 y146 y147 y148 y149 y150 y151 y152 y153 y154 y155 y156 y157 y158 y159 y160 y161 y162 y163 y164 y165 y166 y167 y168 y169 y170 y171 y172 y173 y174 y175 y176 y177 y178 y179 y180 y181 y182 y183 y184 y185 y186 y187 y188 : Value) (s6 s7 s8 : Value) (wx : World), (∃ (ps : List (Ev × Value)) (a : Option Addr) (c : Nat) (e : Int) (cs : List UInt8), s6 = .slice a ps.length c ∧ ps.length ≤ 1000 ∧ Hid (Tp w g p cs e wx) ∧ Hid (OutSt (g + 1) ps a c wx) ∧ Hid ((e ≠ 0 ∧ ((e1 ≠ 0 ∧ e = e1) ∨ (e1 = 0 ∧ ∃ ev r, evsP m 0 r1 = (e, ev, r)))) ∨ (e = 0 ∧ e1 = 0 ∧ evsP m 0 r1 = (0, ps.map (·.1), cs)))) → K ⟨List.toArray (x0 :: x1 :: x2 :: x3 :: .pointer (some ⟨g, 0, none⟩) :: .int .i64 (m : Int) :: s6 :: s7 :: s8 :: y9 :: y10 :: y11 :: y12 :: y13 :: y14 :: y15 :: y16 :: y17 :: y18 :: y19 :: y20 :: y21 :: y22 :: y23 :: y24 :: y25 :: y26 :: y27 :: y28 :: y29 :: y30 :: y31 :: y32 :: y33 :: y34 :: y35 :: y36 :: y37 :: y38 :: y39 :: y40 :: y41 :: y42 :: y43 :: y44 :: y45 :: y46 :: y47 :: y48 :: y49 :: y50 :: y51 :: y52 :: y53 :: y54 :: y55 :: y56 :: y57 :: y58 :: y59 :: y60 :: y61 :: y62 :: y63 :: y64 :: y65 :: y66 :: y67 :: y68 :: y69 :: y70 :: y71 :: y72 :: y73 :: y74 :: y75 :: y76 :: y77 :: y78 :: y79 :: y80 :: y81 :: y82 :: y83 :: y84 :: y85 :: y86 :: y87 :: y88 :: y89 :: y90 :: y91 :: y92 :: y93 :: y94 :: y95 :: y96 :: y97 :: y98 :: y99 :: y100 :: y101 :: y102 :: y103 :: y104 :: y105 :: y106 :: y107 :: y108 :: y109 :: y110 :: y111 :: y112 :: y113 :: y114 :: y115 :: y116 :: y117 :: y118 :: y119 :: y120 :: y121 :: y122 :: y123 :: y124 :: y125 :: y126 :: y127 :: y128 :: y129 :: y130 :: y131 :: y132 :: y133 :: y134 :: y135 :: y136 :: y137 :: y138 :: y139 :: y140 :: y141 :: y142 :: y143 :: y144 :: y145 :: y146 :: y147 :: y148 :: y149 :: y150 :: y151 :: y152 :: y153 :: y154 :: y155 :: y156 :: y157 :: y158 :: y159 :: y160 :: y161 :: y162 :: y163 :: y164 :: y165 :: y166 :: y167 :: y168 :: y169 :: y170 :: y171 :: y172 :: y173 :: y174 :: y175 :: y176 :: y177 :: y178 :: y179 :: y180 :: y181 :: y182 :: y183 :: y184 :: y185 :: y186 :: y187 :: y188 :: []), []⟩ wx) : (c8 [1, 1, 1, 1, 1, 1, 1, 1, 1, 0, 1]).wp Tryd.prog (Exit.then K Q') ⟨List.toArray (x0 :: x1 :: x2 :: x3 :: .pointer (some ⟨g, 0, none⟩) :: .int .i64 (m : Int) :: .slice none 0 0 :: .int .i64 0 :: .int .i64 0 :: x9 :: x10 :: x11 :: x12 :: x13 :: x14 :: x15 :: x16 :: x17 :: x18 :: x19 :: x20 :: x21 :: x22 :: x23 :: x24 :: x25 :: x26 :: x27 :: x28 :: x29 :: x30 :: x31 :: x32 :: x33 :: x34 :: x35 :: x36 :: x37 :: x38 :: x39 :: x40 :: x41 :: x42 :: x43 :: x44 :: x45 :: x46 :: x47 :: x48 :: x49 :: x50 :: x51 :: x52 :: x53 :: x54 :: x55 :: x56 :: x57 :: x58 :: x59 :: x60 :: x61 :: x62 :: x63 :: x64 :: x65 :: x66 :: x67 :: x68 :: x69 :: x70 :: x71 :: x72 :: x73 :: x74 :: x75 :: x76 :: x77 :: x78 :: x79 :: x80 :: x81 :: x82 :: x83 :: x84 :: x85 :: x86 :: x87 :: x88 :: x89 :: x90 :: x91 :: x92 :: x93 :: x94 :: x95 :: x96 :: x97 :: x98 :: x99 :: x100 :: x101 :: x102 :: x103 :: x104 :: x105 :: x106 :: x107 :: x108 :: x109 :: x110 :: x111 :: x112 :: x113 :: x114 :: x115 :: x116 :: x117 :: x118 :: x119 :: x120 :: x121 :: x122 :: x123 :: x124 :: x125 :: x126 :: x127 :: x128 :: x129 :: x130 :: x131 :: x132 :: x133 :: x134 :: x135 :: x136 :: x137 :: x138 :: x139 :: x140 :: x141 :: x142 :: x143 :: x144 :: x145 :: x146 :: x147 :: x148 :: x149 :: x150 :: x151 :: x152 :: x153 :: x154 :: x155 :: x156 :: x157 :: x158 :: x159 :: x160 :: x161 :: x162 :: x163 :: x164 :: x165 :: x166 :: x167 :: x168 :: x169 :: x170 :: x171 :: x172 :: x173 :: x174 :: x175 :: x176 :: x177 :: x178 :: x179 :: x180 :: x181 :: x182 :: x183 :: x184 :: x185 :: x186 :: x187 :: x188 :: []), []⟩ wz := by
  have HK := Lib.hid hK
  clear hK
  conv => arg 2; whnf
  go_cut [6, 7, 8] from 9 (fun s6 s7 s8 wx => ∃ (ps : List (Ev × Value)) (a : Option Addr) (c : Nat) (e : Int) (cs : List UInt8), s6 = .slice a ps.length c ∧ ps.length ≤ 1000 ∧ Hid (Tp w g p cs e wx) ∧ Hid (OutSt (g + 1) ps a c wx) ∧ Hid ((e ≠ 0 ∧ ((e1 ≠ 0 ∧ e = e1) ∨ (e1 = 0 ∧ ∃ ev r, evsP m 0 r1 = (e, ev, r)))) ∨ (e = 0 ∧ e1 = 0 ∧ evsP m 0 r1 = (0, ps.map (·.1), cs))))
  case rest =>
    exact HK.out _ _ _ _ _ _ _ _ _ _ _ _ _ _ _ _ _ _ _ _ _ _ _ _ _ _ _ _ _ _ _ _ _ _ _ _ _ _ _ _ _ _ _ _ _ _ _ _ _ _ _ _ _ _ _ _ _ _ _ _ _ _ _ _ _ _ _ _ _ _ _ _ _ _ _ _ _ _ _ _ _ _ _ _ _ _ _ _ _ _ _ _ _ _ _ _ _ _ _ _ _ _ _ _ _ _ _ _ _ _ _ _ _ _ _ _ _ _ _ _ _ _ _ _ _ _ _ _ _ _ _ _ _ _ _ _ _ _ _ _ _ _ _ _ _ _ _ _ _ _ _ _ _ _ _ _ _ _ _ _ _ _ _ _ _ _ _ _ _ _ _ _ _ _ _ _ _ _ _ _ _ _ _ _ hcut
  case first =>
    clear HK
    go_wp2_with fail
    go_loopg [6, 7, 8] m (fun gh s6 s7 s8 wr => ∃ (i : Nat) (ps : List (Ev × Value)) (a : Option Addr) (c : Nat) (at_ e : Int) (cs : List UInt8), i ≤ m ∧ gh = m - i ∧ s8 = .int .i64 i ∧ s7 = .int .i64 at_ ∧ ps.length = i ∧ s6 = .slice a ps.length c ∧ Hid (Tp w g p cs e wr) ∧ Hid (OutSt (g + 1) ps a c wr) ∧ Hid ((e1 ≠ 0 → e = e1) ∧ (e1 = 0 → (e = 0 ∧ 0 ≤ at_ ∧ at_ ≤ i * 140737488355328 ∧ EvsGo m r1 i at_ cs (ps.map (·.1))) ∨ (e ≠ 0 ∧ ∃ ev r, evsP m 0 r1 = (e, ev, r)))))
    case atStart => exact ⟨0, [], none, 0, 0, e1, r1, Nat.zero_le _, by omega, rfl, rfl, rfl, rfl, HR2, Lib.hid (OutSt.nil _ _), Lib.hid ⟨fun _ => rfl, fun h => Or.inl ⟨h, by omega, by omega, EvsGo.start _ _⟩⟩⟩
    case round =>
      obtain ⟨i, ps, a, c, at_, e, cs, hi, rfl, rfl, rfl, hpl, rfl, HR, HO, HG⟩ := hrel
      have HPL := Lib.hid hpl
      have hpl2 : ps.length ≤ 1000 := by omega
      clear HR2 hpl
      have q2 := HR.out.c2.1
      have hlg := HR.out.lt
      by_cases hgo : i < m ∧ e = 0
      · obtain ⟨hil, rfl⟩ := hgo
        obtain rfl : e1 = 0 := by
          by_cases h : e1 = 0
          · exact h
          · have := HE0.out h; omega
        obtain ⟨hat0, hat1, hevs⟩ : 0 ≤ at_ ∧ at_ ≤ i * 140737488355328 ∧ EvsGo m r1 i at_ cs (ps.map (·.1)) := by
          rcases HG.out.2 rfl with ⟨_, h⟩ | ⟨h, _⟩
          · exact h
          · exact absurd rfl h
        have hb48 : at_ ≤ 1000 * 140737488355328 := by omega
        have HEV := Lib.hid hevs
        have HIL := Lib.hid hil
        clear hevs HG
        obtain ⟨e2, nn, r, hn2⟩ : ∃ e2 nn r, numP 0 0 cs = (e2, nn, r) := ⟨_, _, _, rfl⟩
        have hnl := numE_lt (e := 0) hn2
        have HNX := Lib.hid (next_gen w g p cs wr HR.out (e0 := 0) hn2)
        have HN2 := Lib.hid hn2
        clear hn2
        go_wp2_with fail
        refine HNX.out.mono ?_
        rintro en w3 ⟨rfl, hr3, hg3⟩
        have HR3 := Lib.hid hr3
        have HO3 := Lib.hid (HO.out.kept_lt hg3 (by omega))
        have q3 := hr3.c2.1
        have hlg3 := hr3.lt
        clear hr3 hg3 HO HR HNX q2
        by_cases he2 : e2 = 0
        · subst he2
          have hge0 : 0 ≤ (at_ + (nn : Int) / 4) := by omega
          have hle0 : (at_ + (nn : Int) / 4) ≤ ((i : Int) + 1) * 140737488355328 := by omega
          have hle1 : (at_ + (nn : Int) / 4) ≤ at_ + 140737488355328 := by omega
          have HAT := Lib.hid (show (at_ + (nn : Int) / 4) = at_ + ((nn / 4 : Nat) : Int) by omega)
          have hm0 : 0 ≤ (nn : Int) % 4 := by omega
          have hm3 : (nn : Int) % 4 ≤ 3 := by omega
          have HK := Lib.hid (show (nn : Int) % 4 = ((nn % 4 : Nat) : Int) by omega)
          have HX := Lib.hid (TSt.start (x0 := (at_ + (nn : Int) / 4)) (x1 := (nn : Int) % 4) HR3.out HO3.out)
          obtain ⟨y2, yf2, y0, y1, yf, l1, l2⟩ := HX.out.y
          have hne1 : ¬ g = w3.heap.size := by omega
          go_upto_if 75 with fail
          generalize w3.alloc (.cells #[.int .i64 (at_ + (nn : Int) / 4), .int .i64 ((nn : Int) % 4), .slice none 0 0] 54) = W4 at *
          generalize (nn : Int) % 4 = m4 at *
          generalize hXX : at_ + (nn : Int) / 4 = X at *
          generalize hgx0 : w3.heap.size = gx at *
          have HXX := Lib.hid hXX
          clear hgx0 y2 yf2 y0 y1 yf l1 l2 hne1 hXX
          refine ev_k0 HX ?_
          intros
          rename_i wc hcut
          clear HX
          obtain ⟨e5, HX, HE5⟩ := hcut
          obtain ⟨y2, yf2, y0, y1, yf, l1, l2⟩ := HX.out.y
          go_upto_if 81 with fail
          clear y2 yf2 y0 y1 yf l1 l2
          refine ev_k3 HX (fun h => (by rcases HE5.out with ⟨h1, _⟩ | ⟨_, h1⟩; omega; exact h1)) ?_
          intros
          rename_i wc3 hcut
          clear HX
          obtain ⟨e6, acc6, r6, HX, HE6⟩ := hcut
          have h6 : m4 = 2 → acc6 = [] ∧ e6 = 0 := by
            intro h
            rcases HE6.out with ⟨h1, _⟩ | ⟨_, h1, _, h2⟩
            · omega
            · exact ⟨h1, by rcases HE5.out with ⟨h3, _⟩ | ⟨_, h3⟩; omega; rw [h2, h3]⟩
          go_upto_block 2 with fail
          refine ev_blk HX h6 ?_
          intros
          rename_i s11 s12 s13 wc4 hcut
          clear HX h6
          obtain ⟨e7, acc, r7, HX, HE7⟩ := hcut
          have HFIN : Hid ((∀ z ∈ acc, I64 z) ∧ acc.length ≤ 16 ∧ ((e7 = 0 ∧ 0 ≤ X ∧ X ≤ ((i + 1 : Nat) : Int) * 140737488355328 ∧ EvsGo m r1 (i + 1) X r7 (ps.map (·.1) ++ [⟨X, m4, acc⟩])) ∨ (e7 ≠ 0 ∧ ∃ ev r, evsP m 0 r1 = (e7, ev, r)))) := Lib.hid (by
            have hX0 := HAT.out
            rcases HE7.out with ⟨h2, h64, h16, hq⟩ | ⟨h2, rfl, rfl, rfl⟩
            · have hk : nn % 4 = 2 := by have := HK.out; omega
              have hr6 : r6 = r := by rcases HE6.out with ⟨h1, _⟩ | ⟨_, _, h1, _⟩; omega; exact h1
              subst hr6
              refine ⟨h64, h16, ?_⟩
              rcases hq with ⟨rfl, hb⟩ | ⟨hne, d, hb⟩
              · refine Or.inl ⟨rfl, hge0, by push_cast; exact hle0, ?_⟩
                have hs := HEV.out.step hil (evP_2 (a := at_) HN2.out hk hb)
                rw [hX0, h2]; exact hs
              · obtain ⟨ev, hh⟩ := HEV.out.err hil (evP_2 (a := at_) HN2.out hk hb) hne
                exact Or.inr ⟨hne, ev, r7, hh⟩
            · rcases HE6.out with ⟨h3, z, hz, rfl⟩ | ⟨h3, rfl, rfl, rfl⟩
              · have hk : nn % 4 = 3 := by have := HK.out; omega
                have hzl := zag_lt (numE_lt (e := 0) hz)
                refine ⟨by intro y hy; rw [List.mem_singleton.1 hy]; unfold I64; omega, by simp, ?_⟩
                by_cases h0 : e7 = 0
                · subst h0
                  refine Or.inl ⟨rfl, hge0, by push_cast; exact hle0, ?_⟩
                  have hs := HEV.out.step hil (evP_3 (a := at_) HN2.out hk hz)
                  rw [hX0, h3]; exact hs
                · obtain ⟨ev, hh⟩ := HEV.out.err hil (evP_3 (a := at_) HN2.out hk hz) h0
                  exact Or.inr ⟨h0, ev, r7, hh⟩
              · refine ⟨by simp, by simp, ?_⟩
                rcases HE5.out with ⟨h, rfl⟩ | ⟨h, rfl⟩
                · obtain ⟨ev, hh⟩ := HEV.out.err hil (evP_0 (a := at_) HN2.out (by have := HK.out; omega)) (by decide)
                  exact Or.inr ⟨by decide, ev, r7, hh⟩
                · have h1 : m4 = 1 := by omega
                  have hs := HEV.out.step hil (evP_1 (a := at_) HN2.out (by have := HK.out; omega))
                  exact Or.inl ⟨rfl, hge0, by push_cast; exact hle0, by rw [hX0, h1]; exact hs⟩)
          have HI4 := Lib.hid (show I64 X ∧ I64 m4 from ⟨by unfold I64; omega, by unfold I64; omega⟩)
          clear HE7 HE6 HE5 HK HAT HXX HN2
          obtain ⟨y2, _, y0, y1, _, l1, l2⟩ := HX.out.y
          obtain ⟨aq, cq, hxq, hoq⟩ := HX.out.xb
          have z2 : wc4.cell? ⟨gx, 2, none⟩ = some (.slice aq acc.length cq) := cell_block hxq 2
          have HOQ := Lib.hid hoq
          have hgx := HX.out.hg
          have HRW := Lib.hid HX.out.out.row
          have h16 := HFIN.out.2.1
          clear hxq hoq hat0 hat1 hb48 hge0 hle0 hle1 hm0 hm3
          go_wp2_with (at_builtin; go_loud (refine wpList_push wc4 rfl (.tmp 145) (.tmp 147) 23 rfl (g + 1) 54 (.agg #[.int .i64 0, .int .i64 0, .slice none 0 0]) 3 40 Tryd.underlying23 info_ev rfl (by decide) [.int .i64 X, .int .i64 m4, .slice aq acc.length cq] rfl (by simp [Value.oneCell']) _ _ _ (by rfl) HRW.out (by rfl) (by simp) (by omega) (by omega) (by omega) ?_); intro g5 cp5 w5 hown5 hgrow5; have HW5 := Lib.hid hown5; have HGR5 := Lib.hid hgrow5; clear hown5 hgrow5)
          have HO6 := Lib.hid (HX.out.out.push (p := (⟨X, m4, acc⟩, .slice aq acc.length cq)) ⟨own_base HOQ.out (by omega), HFIN.out.1, HFIN.out.2.1, HI4.out⟩ HW5.out HGR5.out)
          have HR6 := Lib.hid (HX.out.tp.other HGR5.out (fun e => by have := HRW.out.lt _ e.symm; omega) (fun k hk => by have := HRW.out.lt _ hk; have := HX.out.tp.ge; omega))
          go_roundg (m - (i + 1))
          case measure => omega
          case rel => exact ⟨i + 1, ps ++ [(⟨X, m4, acc⟩, .slice aq acc.length cq)], _, _, X, e7, r7, by omega, rfl, by first | go_num | (have e := IntWalk.i64_in ((i : Int) + 1) (by omega); rw [e]; push_cast; rfl), rfl, by rw [List.length_append, HPL.out]; rfl, by rw [List.length_append]; rfl, HR6, HO6, Lib.hid ⟨fun h => absurd rfl h, fun _ => by rw [List.map_append]; exact HFIN.out.2.2⟩⟩
        · have hnb : (e2 != 0) = true := by rw [bne_iff_ne]; exact he2
          have HFIN := Lib.hid (show (e2 ≠ 0 ∧ (((0 : Int) ≠ 0 ∧ e2 = 0) ∨ ((0 : Int) = 0 ∧ ∃ ev r, evsP m 0 r1 = (e2, ev, r)))) ∨ (e2 = 0 ∧ (0 : Int) = 0 ∧ evsP m 0 r1 = (0, ps.map (·.1), r)) from by
            obtain ⟨ev, h⟩ := HEV.out.err hil (evP_e (a := at_) HN2.out he2) he2
            exact Or.inl ⟨he2, Or.inr ⟨rfl, ev, r, h⟩⟩)
          clear he2
          go_wp2_with fail
          go_meet
          exact ⟨ps, a, c, e2, r, rfl, hpl2, HR3, HO3, HFIN⟩
      · have HFIN := Lib.hid (show (e ≠ 0 ∧ ((e1 ≠ 0 ∧ e = e1) ∨ (e1 = 0 ∧ ∃ ev r, evsP m 0 r1 = (e, ev, r)))) ∨ (e = 0 ∧ e1 = 0 ∧ evsP m 0 r1 = (0, ps.map (·.1), cs)) from by
          by_cases h1 : e1 = 0
          · rcases HG.out.2 h1 with ⟨h0, _, _, hev⟩ | ⟨h0, ev, r, hh⟩
            · have him : i = m := by
                rcases Nat.lt_or_ge i m with h | h
                · exact absurd ⟨h, h0⟩ hgo
                · omega
              rw [him] at hev
              exact Or.inr ⟨h0, h1, hev.fin⟩
            · exact Or.inl ⟨h0, Or.inr ⟨h1, ev, r, hh⟩⟩
          · exact Or.inl ⟨by rw [HG.out.1 h1]; exact h1, Or.inl ⟨h1, HG.out.1 h1⟩⟩)
        by_cases hil : i < m
        · have he : e ≠ 0 := fun h => hgo ⟨hil, h⟩
          have heb : (e == 0) = false := by rw [beq_eq_false_iff_ne]; exact he
          clear hgo he
          go_wp2_with fail
          go_meet
          exact ⟨ps, a, c, e, cs, rfl, hpl2, HR, HO, HFIN⟩
        · clear hgo
          go_wp2_with fail
          go_meet
          exact ⟨ps, a, c, e, cs, rfl, hpl2, HR, HO, HFIN⟩

end Go.Proofs.YtiekilpddmdhnaaDoor
namespace Go.Proofs.YtiekilpddmdhnaaDoor
open Go Go.RowKit Go.ChangeShapes Go.WideShapes Go.Deep
set_option linter.unusedVariables false

set_option maxRecDepth 100000 in
theorem events_big (v : Value) (b : List UInt8) (w : World) (hf : BytesR w.heap.size w v b) (h : 60000 < b.length) : Calls Tryd.prog 8 #[v] w (DecPost b w) := by
  have HR := Lib.hid (show DecR b 1 [] from Or.inl ⟨h, rfl, rfl⟩)
  obtain ⟨a, cap, rfl, hl, hl2, hc⟩ := hf
  clear hc
  have hi : (60000 : Int) < (b.length : Int) := by omega
  go_enter Tryd.func8, Tryd.ntmps8
  go_wp2
  go_ret2
  exact DecPost.no HR.out (Below.refl _ _)
set_option maxRecDepth 100000 in
theorem events_short (v : Value) (b : List UInt8) (w : World) (hf : BytesR w.heap.size w v b) (h : b.length < 5) : Calls Tryd.prog 8 #[v] w (DecPost b w) := by
  have HR := Lib.hid (show DecR b 5 [] from Or.inr (Or.inl ⟨h, rfl, rfl⟩))
  obtain ⟨a, cap, rfl, hl, hl2, hc⟩ := hf
  clear hc
  have hi : (b.length : Int) < 5 := by omega
  go_enter Tryd.func8, Tryd.ntmps8
  go_wp2
  go_ret2
  exact DecPost.no HR.out (Below.refl _ _)
theorem Tp.below {w0 w w' : World} {g : Nat} {B bs : List UInt8} {e : Int} (h : Tp w0 g B bs e w) (hb : Below w.heap.size w w') : Tp w0 g B bs e w' := by
  obtain ⟨a, c, i, hx, hr⟩ := h.box
  exact ⟨⟨a, c, i, block_below hb hx h.lt, hr⟩, h.ge, h.b.trans (hb.mono h.b.size)⟩
theorem OutSt.below {B : Nat} {ps : List (Ev × Value)} {a : Option Addr} {c : Nat} {w w' : World} (h : OutSt B ps a c w) (hb : Below w.heap.size w w') : OutSt B ps a c w' :=
  ⟨own_below h.row hb (Nat.le_refl _), fun p hp => ⟨own_below (h.data p hp).1 hb (Nat.le_refl _), (h.data p hp).2⟩⟩
theorem bytes_tail4 {B : Nat} {w : World} {bb off n cap : Nat} {p : List UInt8} {d0 d1 d2 d3 : UInt8} (hf : BytesR B w (.slice (some ⟨bb, off, none⟩) (n + 4) cap) (p ++ [d0, d1, d2, d3])) (hp : p.length = n) : BytesR B w (.slice (some ⟨bb, off + n, none⟩) 4 (cap - n)) [d0, d1, d2, d3] := by
  subst hp
  obtain ⟨a', c', hv, hl, hl2, hc⟩ := hf
  injection hv with h1 h2 h3
  subst h1 h3
  rw [List.length_append] at hl2
  simp only [List.length_cons, List.length_nil] at hl2
  refine ⟨_, _, rfl, by simp, by simp; omega, fun j hj => ?_⟩
  have hj4 : j < 4 := by simpa using hj
  obtain ⟨b1, o1, vi, ha, hbb, q, hvi⟩ := hc (p.length + j) (by rw [List.length_append]; simp; omega)
  injection ha with ha
  injection ha with x1 x2
  subst x1 x2
  refine ⟨_, _, vi, rfl, hbb, by rw [Nat.add_assoc]; exact q, ?_⟩
  rw [List.getElem_append_right (by omega)] at hvi
  simpa using hvi
theorem bytes_inj {a b : List UInt8} (h : (⟨a.toArray⟩ : ByteArray) = ⟨b.toArray⟩) : a = b := by
  injection h with h
  have := congrArg Array.toList h
  simpa using this

set_option maxHeartbeats 16000000 in
set_option maxRecDepth 100000 in
theorem events_body (ad : Option Addr) (N n cap : Nat) (p : List UInt8) (d0 d1 d2 d3 : UInt8) (w : World) (hf : BytesR w.heap.size w (.slice ad N cap) (p ++ [d0, d1, d2, d3])) (hp : p.length = n) (hN : N = n + 4) (hn : 1 ≤ n) (hn2 : n ≤ 59996) : Calls Tryd.prog 8 #[.slice ad N cap] w (DecPost (p ++ [d0, d1, d2, d3]) w) := by
  have hb := bytes_take hf (k := n) (by rw [List.length_append]; omega)
  rw [show (p ++ [d0, d1, d2, d3]).take n = p by rw [← hp]; simp] at hb
  have HBP := Lib.hid hb
  rw [← hp] at hb
  have HSM := Lib.hid (fun (W : World) (hbl : Below w.heap.size w W) => sumOf_any _ p W (hb.to hbl.size (same_below hbl)))
  rw [hp] at HSM
  clear hb
  rw [hN] at hf
  obtain ⟨bb, off, rfl, hbb, hcap, _, _, _, _⟩ := bytes_last4 hf hp
  have HT4 := Lib.hid (bytes_tail4 hf hp)
  obtain ⟨sA, hsA⟩ : ∃ s : ByteArray, s = ⟨(sumB p).toArray⟩ := ⟨_, rfl⟩
  obtain ⟨sB, hsB⟩ : ∃ s : ByteArray, s = ⟨[d0, d1, d2, d3].toArray⟩ := ⟨_, rfl⟩
  have HSA := Lib.hid hsA
  have HSB := Lib.hid hsB
  have HDB := Lib.hid (fun (c : Int) (l : List Ev) (hs : sumB p = [d0, d1, d2, d3]) (h : BodyR p c l) => DecR.body hp hn hn2 hs h)
  have HDS := Lib.hid (fun (hs : sumB p ≠ [d0, d1, d2, d3]) => DecR.sum hp hn hn2 hs)
  have hs4 : (sumB p).length = 4 := rfl
  generalize hsum : sumB p = sP at *
  have HS4 := Lib.hid hs4
  have HSUM := Lib.hid hsum
  have HP := Lib.hid hp
  clear hp hf hsA hsB hs4 hsum
  have hN1 : (N : Int) - 4 = (n : Int) := by omega
  have hN2 : (N : Int) ≤ 60000 := by omega
  have hN3 : (5 : Int) ≤ (N : Int) := by omega
  have hN4 : n ≤ N := by omega
  have hN5 : N ≤ cap := by omega
  have hN6 : n ≤ cap := by omega
  have hN7 : N - n = 4 := by omega
  have hN8 : (n : Int) ≤ (N : Int) := by omega
  have hN9 : ¬ cap = n := by omega
  have hN10 : IntKind.i64.wrap ((N : Int) - 4) = (n : Int) := by rw [hN1]; exact IntWalk.i64_in _ (by omega)
  have hN11 : IntKind.i64.wrap (n : Int) = (n : Int) := IntWalk.i64_in _ (by omega)
  have hN12 : (0 : Int) ≤ (n : Int) := by omega
  have hN13 : (n : Int) ≤ (cap : Int) := by omega
  have hN14 : (N : Int) ≤ (cap : Int) := by omega
  clear hN hcap
  go_enter Tryd.func8, Tryd.ntmps8
  go_upto_region 5 with fail
  go_cut [33] (fun s33 wx => ∃ t : Bool, s33 = .bool t ∧ Hid ((t = true ∧ sA.toList ≠ sB.toList) ∨ (t = false ∧ sA.toList = sB.toList)) ∧ Hid (Below w.heap.size w wx))
  case first =>
    have hbd : Below w.heap.size w w.drew := below_drewN (Below.refl _ _) 1
    have HBD := Lib.hid hbd
    have HV0 := Lib.hid (conv_bytes (HT4.out.to hbd.size (same_below hbd)))
    rw [← HSB.out] at HV0
    have kB0 := HV0.out
    clear hbd HV0
    go_region_with (first
      | (go_at_call 23; refine (HSM.out _ HBD.out).mono ?_; rintro en w3 ⟨a3, c3, rfl, hown3, hb3⟩; rw [HS4.out] at hown3; rw [HS4.out]; have HB3 := Lib.hid (HBD.out.trans (hb3.mono HBD.out.size)); have hv3 := conv_bytes (HT4.out.to HB3.out.size (same_below HB3.out)); rw [← HSB.out] at hv3; have hw3 := conv_bytes (n := 4) (by have := bytes_of_own (a := a3) (c := c3) (bs := sP) (by rw [HS4.out]; exact hown3) (by rw [HS4.out]; omega); rw [HS4.out] at this; exact this); rw [← HSA.out] at hw3; clear hown3 hb3))
    all_goals (go_wp2_with fail; go_meet)
    all_goals (
      refine ⟨_, rfl, ?_, HB3⟩
      refine Lib.hid ?_
      by_cases hss : sA.toList = sB.toList
      · exact Or.inr ⟨by rw [hss]; simp, hss⟩
      · exact Or.inl ⟨by simpa using hss, hss⟩)
  case rest =>
    obtain ⟨t, rfl, HTT, HBC⟩ := hcut
    rcases HTT.out with ⟨rfl, hne⟩ | ⟨rfl, heq⟩
    · have HPO := Lib.hid (HDS.out (fun e => hne (by rw [HSA.out, HSB.out, e])))
      clear hne
      go_wp2
      go_ret2
      exact DecPost.no HPO.out HBC.out
    · have hs0 : sP = [d0, d1, d2, d3] := by rw [HSA.out, HSB.out, ByteArray.toList_mk, ByteArray.toList_mk] at heq; exact heq
      have HDB2 := Lib.hid (fun (c : Int) (l : List Ev) (h : BodyR p c l) => HDB.out c l hs0 h)
      clear heq
      have hcs := HBC.out.size
      have HB2 := Lib.hid (show Tp w wc.heap.size p p 0 (wc.alloc (.cells #[.slice (some ⟨bb, off, none⟩) n cap, .int .i64 0, .int .i64 0] 61 (0, 0))) from ⟨⟨_, cap, 0, by rw [HP.out]; exact alloc_at rfl, by rw [HP.out]; exact HBP.out, rfl, Nat.zero_le _⟩, hcs, HBC.out.alloc hcs _⟩)
      obtain ⟨e1, m, r1, hnum⟩ : ∃ e1 m r1, numP 0 0 p = (e1, m, r1) := ⟨_, _, _, rfl⟩
      have HNUM := Lib.hid hnum
      have HNN := Lib.hid (next_gen w wc.heap.size p p _ HB2.out (e0 := 0) hnum)
      have hml := numE_lt (e := 0) hnum
      clear hnum hs0 HDB HSM HT4 HSA HSB
      go_wp2_with fail
      refine HNN.out.mono ?_
      rintro en w2 ⟨rfl, hr2, hg2⟩
      have HR2 := Lib.hid hr2
      have hs2 := hr2.lt
      generalize hg : wc.heap.size = g at *
      clear hr2 hg2 HNN HB2
      by_cases hm : 1000 < m
      · have hm2 : (1000 : Int) < (m : Int) := by omega
        have HPO := Lib.hid (HDB2.out 1 [] ⟨e1, m, r1, HNUM.out, Or.inl ⟨hm, rfl, rfl⟩⟩)
        clear hm
        go_wp2
        go_ret2
        exact DecPost.no HPO.out HR2.out.b
      · have hm2 : (m : Int) ≤ 1000 := by omega
        have HE0 := Lib.hid (show e1 ≠ 0 → m = 0 from numP_err0 HNUM.out)
        clear hN1 hN2 hN3 hN4 hN5 hN6 hN7 hN8 hN9 hN10 hN11 hN12 hN13 hN14
        go_upto_block 0 with fail
        refine ev_loop HR2 HE0 (by omega) ?_
        intros
        rename_i s6 s7 s8 wc hcut
        obtain ⟨ps, a, c, e, cs, rfl, hpl2, HR, HO, HF⟩ := hcut
        obtain ⟨ab, cb, j, hxb, hbb2, hcs, hj⟩ := HR.out.box
        have q0 : wc.cell? ⟨g, 0, none⟩ = some (.slice ab p.length cb) := cell_block hxb 0
        have q1 : wc.cell? ⟨g, 1, none⟩ = some (.int .i64 j) := cell_block hxb 1
        have q2 : wc.cell? ⟨g, 2, none⟩ = some (.int .i64 e) := cell_block hxb 2
        have f2 := free_block hxb 2
        have lg := HR.out.lt
        clear hxb hbb2 HR2 hs2
        rcases HF.out with ⟨he, hcase⟩ | ⟨rfl, rfl, hfin⟩
        · have heb : (e == 0) = false := by rw [beq_eq_false_iff_ne]; exact he
          have hen : (e != 0) = true := by rw [bne_iff_ne]; exact he
          have HPO := Lib.hid (HDB2.out e [] ⟨e1, m, r1, HNUM.out, by
            rcases hcase with ⟨h1, h2⟩ | ⟨h1, ev, r, h2⟩
            · exact Or.inr (Or.inl ⟨by omega, h1, h2, rfl⟩)
            · exact Or.inr (Or.inr ⟨by omega, h1, e, ev, r, h2, Or.inl ⟨he, rfl, rfl⟩⟩)⟩)
          clear he hcase HF hcs
          go_wp2_with fail
          go_quiet (fail)
          go_wp2_with fail
          go_quiet (fail)
          go_wp2
          go_ret2
          exact DecPost.no HPO.out (below_drewN (below_drewN HR.out.b _) _)
        · by_cases hce : cs = []
          · subst hce
            have hjl : ¬ j < p.length := by
              intro h
              have := congrArg List.length hcs
              rw [List.length_drop] at this
              simp at this
              omega
            have hjd : decide ((j : Int) < (p.length : Int)) = false := by rw [decide_eq_false_iff_not]; omega
            have hjd' : decide (j < p.length) = false := by rw [decide_eq_false_iff_not]; exact hjl
            have HFIN := Lib.hid hfin
            have HFA := Lib.hid (fun (n : Nat) => evfault_any _ (ps.map (·.1)) (wc.drewN n) ((HO.out.drewN n).evs (by omega)))
            clear hfin HF hcs
            go_wp2_with fail
            go_quiet (fail)
            go_wp2_with fail
            refine (HFA.out _).mono ?_
            rintro en w5 ⟨d, hd, rfl, hb5⟩
            have HT5 := Lib.hid ((HR.out.drewN _).below hb5)
            have HO5 := Lib.hid ((HO.out.drewN _).below hb5)
            obtain ⟨t2, tf2⟩ := HT5.out.c2
            have lg5 := HT5.out.lt
            have HT6 := Lib.hid (HT5.out.err d)
            clear hb5 q0 q1 q2 f2 hjd hjd' hjl
            by_cases hd0 : d = 0
            · subst hd0
              have HPO := Lib.hid (HDB2.out 0 (ps.map (·.1)) ⟨0, m, r1, HNUM.out, Or.inr (Or.inr ⟨by omega, rfl, 0, _, [], HFIN.out, Or.inr (Or.inr ⟨rfl, rfl, hd, rfl⟩)⟩)⟩)
              have HO6 := Lib.hid (HO5.out.kept_lt (grown_set w5 g 2 (.int .i64 0)) (by omega))
              clear hd
              go_wp2
              go_ret2
              exact ⟨0, _, _, HPO.out, rfl, HO6.out.evs (by omega), HT6.out.b⟩
            · have hdn : (d != 0) = true := by rw [bne_iff_ne]; exact hd0
              have HPO := Lib.hid (HDB2.out d [] ⟨0, m, r1, HNUM.out, Or.inr (Or.inr ⟨by omega, rfl, 0, _, [], HFIN.out, Or.inr (Or.inr ⟨rfl, rfl, hd, by rw [if_neg hd0]⟩)⟩)⟩)
              have hcell := HT6.out.c2.1
              clear hd hd0
              go_wp2_with fail
              go_quiet (fail)
              go_wp2
              go_ret2
              exact DecPost.no HPO.out (below_drewN HT6.out.b _)
          · have hjl : j < p.length := by
              rcases Nat.lt_or_ge j p.length with h | h
              · exact h
              · exact absurd (by rw [hcs, List.drop_eq_nil_of_le h]) hce
            have hjd : decide ((j : Int) < (p.length : Int)) = true := by rw [decide_eq_true_iff]; omega
            have hjd' : decide (j < p.length) = true := by rw [decide_eq_true_iff]; exact hjl
            have HPO := Lib.hid (HDB2.out 4 [] ⟨0, m, r1, HNUM.out, Or.inr (Or.inr ⟨by omega, rfl, 0, _, cs, hfin, Or.inr (Or.inl ⟨rfl, hce, rfl, rfl⟩)⟩)⟩)
            clear hfin HF hcs hce
            go_wp2_with fail
            go_quiet (fail)
            go_wp2_with fail
            go_quiet (fail)
            go_wp2
            go_ret2
            exact DecPost.no HPO.out (below_drewN ((HR.out.drewN _).err 4).b _)

theorem eventsOf_any (v : Value) (b : List UInt8) (w : World) (hf : BytesR w.heap.size w v b) : Calls Tryd.prog 8 #[v] w (DecPost b w) := by
  by_cases h1 : 60000 < b.length
  · exact events_big v b w hf h1
  · by_cases h2 : b.length < 5
    · exact events_short v b w hf h2
    · obtain ⟨ad, cap, hv, hrest⟩ := id hf
      clear hrest
      subst hv
      obtain ⟨n, hn⟩ : ∃ n, b.length = n + 4 := ⟨b.length - 4, by omega⟩
      obtain ⟨d0, d1, d2, d3, hd⟩ := len4 (show (b.drop n).length = 4 by rw [List.length_drop]; omega)
      have hb : b = b.take n ++ [d0, d1, d2, d3] := by rw [← hd, List.take_append_drop]
      have hp : (b.take n).length = n := by rw [List.length_take]; omega
      generalize hN : b.length = N at *
      rw [hb] at hf ⊢
      exact events_body ad N n cap _ d0 d1 d2 d3 w hf hp hn (by omega) (by omega)
end Go.Proofs.YtiekilpddmdhnaaDoor
namespace Go.Proofs.YtiekilpddmdhnaaDoor
open Go Go.RowKit Go.ChangeShapes Go.WideShapes Go.ChangeAt
set_option linter.unusedVariables false

set_option maxHeartbeats 4000000 in
set_option maxRecDepth 100000 in
theorem tapefault_any (vi ve : Value) (img : List Int) (b : List UInt8) (cnt : Int) (w : World) (hi : Ints w.heap.size w vi img) (hb : BytesR w.heap.size w ve b) (hc : I64 cnt) : Calls Tryd.prog 11 #[.agg #[vi, ve, .int .i64 cnt]] w (ChkPost img b cnt w) := by
  have HI := Lib.hid hi
  have HB := Lib.hid hb
  obtain ⟨ai, ci, rfl, _⟩ := id hi
  obtain ⟨ae, ce, rfl, _⟩ := id hb
  clear hi hb
  have hnc : newC img = 0 ∨ newC img ≠ 0 := by omega
  generalize hcc : newC img = nc at hnc
  go_enter Tryd.func11, Tryd.ntmps11
  go_wp2_with fail
  refine (guestnew_all _ img _ (HI.out.to (by simp) (same_alloc _ _))).mono ?_
  rintro e w1 ⟨ar, cr, am, cm, ao, co, he, hown, hb1⟩
  rw [Mach.agg] at he
  rw [hcc] at he
  subst he
  have hx := block_below hb1 (g := w.heap.size) (alloc_at rfl) (by simp)
  have lt1 : w.heap.size < w1.heap.size := by have := hb1.size; simp at this; omega
  have q0 : w1.cell? ⟨w.heap.size, 0, none⟩ = some (.slice ai img.length ci) := cell_block hx 0
  have q1 : w1.cell? ⟨w.heap.size, 1, none⟩ = some (.slice ae b.length ce) := cell_block hx 1
  have q2 : w1.cell? ⟨w.heap.size, 2, none⟩ = some (.int .i64 cnt) := cell_block hx 2
  have HB1 := Lib.hid ((below_alloc w _).trans (hb1.mono (by simp)))
  have HBA := Lib.hid (fun O => (HB1.out).alloc (Nat.le_of_lt lt1) O)
  have HX := Lib.hid hx
  have HNC := Lib.hid hnc
  clear hx hb1 hown
  rcases HNC.out with h0 | h0
  · subst h0
    go_wp2_with (go_at_call 26; refine (in_or _ _ _ _).mono ?_; rintro e w' (⟨rfl, rfl, hlo, hhi⟩ | ⟨rfl, rfl, hno⟩))
    · have HR := Lib.hid (And.intro hlo hhi)
      clear hlo hhi
      go_wp2_with fail
      refine (eventsOf_any _ b _ (HB.out.to (HBA.out _).size (same_below (HBA.out _)))).mono ?_
      rintro e w2 ⟨d, l, vo, hdec, rfl, hev, hb2⟩
      have hx2 := block_below hb2 (g := w.heap.size) ((alloc_lt lt1).trans HX.out) (by simp; omega)
      have lt2 : w.heap.size < w2.heap.size := by have := hb2.size; simp at this; omega
      have p2 : w2.cell? ⟨w.heap.size, 2, none⟩ = some (.int .i64 cnt) := cell_block hx2 2
      have HB2 := Lib.hid ((HBA.out _).trans (hb2.mono (by simp; omega)))
      have HEV := Lib.hid hev
      have HDE := Lib.hid hdec
      clear hx2 hb2 q0 q1 q2
      by_cases hd : d = 0
      · subst hd
        have HMO := Lib.hid (fun i hi => dec_mono hdec (i := i) hi)
        have HLEN := Lib.hid (dec_canon hdec).2.ok.2
        clear hdec
        obtain ⟨al, cl, rfl, hll, _, hcell⟩ := hev
        have HC := Lib.hid hcell
        clear hcell
        have HNO := Lib.hid (show ∀ (i : Nat) (h : i < l.length), cnt ≤ l[i].at_ → ChkR img b cnt 9 [] from fun i h hle => Or.inr (Or.inr ⟨hcc, HR.out.1, HR.out.2, 0, _, HDE.out, Or.inr (Or.inl ⟨rfl, ⟨i, h, hle⟩, rfl, rfl⟩)⟩))
        have HYES := Lib.hid (show (∀ (i : Nat) (h : i < l.length), l[i].at_ < cnt) → ChkR img b cnt 0 l from fun h => Or.inr (Or.inr ⟨hcc, HR.out.1, HR.out.2, 0, _, HDE.out, Or.inr (Or.inr ⟨rfl, h, rfl, rfl⟩)⟩))
        have hlen := HLEN.out
        go_wp2_with fail
        go_loopg [7] l.length (fun gh s7 wr => ∃ k q : Nat, k ≤ l.length ∧ gh = l.length - k ∧ s7 = .int .i64 k ∧ wr = w2.drewN q ∧ Hid (∀ (i : Nat) (h : i < l.length), i < k → l[i].at_ < cnt))
        case atStart => exact ⟨0, 0, Nat.zero_le _, by omega, rfl, rfl, Lib.hid (fun i h h0 => absurd h0 (Nat.not_lt_zero _))⟩
        case round =>
          obtain ⟨k, q, hk, rfl, rfl, rfl, HALL⟩ := hrel
          by_cases hlt : k < l.length
          · obtain ⟨bb, off, cs, ha, hbb, hcs, hcell, dd, cd, hcs2, i1, i2, hint⟩ := HC.out k hlt
            subst ha hcs2
            have k0 : w2.cell? ⟨bb, off + k * 3, none⟩ = some (.int .i64 l[k].at_) := hcell 0 (by simp)
            have hk1 : (k : Int) < (l.length : Int) := by omega
            have hk0 : (0 : Int) ≤ (k : Int) := by omega
            have HNK := Lib.hid (HNO.out k hlt)
            by_cases hge : cnt ≤ l[k].at_
            · have HP := Lib.hid (HNK.out hge)
              have hged : decide (cnt ≤ l[k].at_) = true := decide_eq_true hge
              clear hcell hcs hint hge HNK
              generalize l[k] = x at *
              go_wp2_with fail
              go_quiet (fail)
              go_wp2
              go_ret2
              exact ChkPost.no HP.out (by first | exact below_drewN HB2.out _ | exact below_drewN (below_drewN HB2.out _) _)
            · have HA2 : Hid (∀ (i : Nat) (h : i < l.length), i < k + 1 → l[i].at_ < cnt) := Lib.hid (fun i h hi => by
                by_cases he : i = k
                · subst he; omega
                · exact HALL.out i h (by omega))
              have hged : decide (cnt ≤ l[k].at_) = false := decide_eq_false hge
              clear hcell hcs hint hge HNK
              generalize l[k] = x at *
              go_wp2_with fail
              go_quiet (fail)
              go_wp2
              go_roundg (l.length - (k + 1))
              case measure => omega
              case rel => exact ⟨k + 1, _, by omega, rfl, by go_num, rfl, HA2⟩
          · have HP := Lib.hid (HYES.out (fun i h => HALL.out i h (by omega)))
            go_wp2
            go_ret2
            exact ⟨0, l, _, HP.out, rfl, HEV.out.to (Nat.le_refl _) (same_below (below_drewN (Below.refl _ _) _)), below_drewN HB2.out _⟩
      · have hl0 := dec_err hdec hd
        subst hl0
        have HP := Lib.hid (show ChkR img b cnt d [] from Or.inr (Or.inr ⟨hcc, HR.out.1, HR.out.2, d, _, HDE.out, Or.inl ⟨hd, rfl, rfl⟩⟩))
        have hd1 : (d != 0) = true := by rw [bne_iff_ne]; exact hd
        clear hd hdec hev
        go_wp2
        go_ret2
        exact ChkPost.no HP.out HB2.out
    · have HP := Lib.hid (show ChkR img b cnt 2 [] from Or.inr (Or.inl ⟨hcc, by omega, rfl, rfl⟩))
      go_wp2
      go_ret2
      exact ChkPost.no HP.out (HBA.out _)
  · have HP := Lib.hid (show ChkR img b cnt nc [] from Or.inl ⟨by rw [hcc]; exact h0, hcc.symm, rfl⟩)
    have hd1 : (nc != 0) = true := by rw [bne_iff_ne]; exact h0
    have hd2 : (nc == 0) = false := by rw [beq_eq_false_iff_ne]; exact h0
    clear h0
    go_wp2
    go_ret2
    exact ChkPost.no HP.out (HBA.out _)
end Go.Proofs.YtiekilpddmdhnaaDoor
