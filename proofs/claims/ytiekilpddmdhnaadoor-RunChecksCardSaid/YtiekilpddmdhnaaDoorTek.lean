/- Piece of the walk of the document's EventsOf: kind 3. No condition beyond those of each row. -/
import Derived.Test.YtiekilpddmdhnaaDoorTea
import Derived.Handy
import Derived.StillTailTactics
import Derived.Deep.RegionWith
import Derived.Deep.RegionLaw
import Derived.Deep.CutBlock
import Derived.Deep.CutRange
import Derived.Deep.RegionHeld3
import Derived.Deep.LoopGhost
namespace Go.Proofs.YtiekilpddmdhnaaDoor
open Go Go.RowKit Go.ChangeShapes Go.WideShapes Go.Deep
set_option linter.unusedVariables false

set_option maxHeartbeats 8000000 in
set_option maxRecDepth 100000 in
theorem ev_k3 {w : World} {g gx : Nat} {p : List UInt8} {ps : List (Ev × Value)} {a : Option Addr} {c : Nat} {X m4 : Int} {r : List UInt8} {e5 : Int} {wz : World} {K : Act → World → Prop} {Q' : Exit → Act → World → Prop} {x0 x1 x2 x3 x5 x6 x7 x8 x9 x11 x12 x13 x14 x15 x16 x17 x18 x19 x20 x21 x22 x23 x24 x25 x26 x27 x28 x29 x30 x31 x32 x33 x34 x35 x36 x37 x38 x39 x40 x41 x42 x43 x44 x45 x46 x47 x48 x49 x50 x51 x52 x53 x54 x55 x56 x57 x58 x59 x60 x61 x62 x63 x64 x65 x66 x67 x68 x69 x70 x71 x72 x73 x74 x75 x76 x77 x78 x79 x80 x82 x83 x84 x85 x86 x87 x88 x89 x90 x91 x92 x93 x94 x95 x96 x97 x98 x99 x100 x101 x102 x103 x104 x105 x106 x107 x108 x109 x110 x111 x112 x113 x114 x115 x116 x117 x118 x119 x120 x121 x122 x123 x124 x125 x126 x127 x128 x129 x130 x131 x132 x133 x134 x135 x136 x137 x138 x139 x140 x141 x142 x143 x144 x145 x146 x147 x148 x149 x150 x151 x152 x153 x154 x155 x156 x157 x158 x159 x160 x161 x162 x163 x164 x165 x166 x167 x168 x169 x170 x171 x172 x173 x174 x175 x176 x177 x178 x179 x180 x181 x182 x183 x184 x185 x186 x187 x188 : Value} (HX : Hid (TSt w g gx p ps a c X m4 [] r e5 wz)) (h5 : m4 = 3 → e5 = 0) (hK : ∀ (y45 y46 y47 y48 y49 y50 y51 y52 y53 y54 y55 y56 y57 y58 y59 y60 y61 y62 y63 y64 y65 y66 y67 y68 y69 y70 y71 y72 y73 y74 y75 y76 y77 y78 y79 y80 y81 y82 y83 y84 y85 y86 y87 y88 y89 y90 y91 y92 y93 y94 y95 y96 y97 y98 y99 y100 y101 y102 y103 y104 y105 y106 y107 y108 y109 y110 y111 y112 y113 y114 y115 y116 y117 y118 y119 y120 y121 y122 y123 y124 y125 y126 y127 y128 y129 y130 y131 y132 y133 y134 y135 y136 y137 y138 y139 y140 y141 y142 y143 y144 y145 y146 y147 y148 : Value)  (wx : World), (∃ (e6 : Int) (acc : List Int) (r6 : List UInt8), Hid (TSt w g gx p ps a c X m4 acc r6 e6 wx) ∧ Hid ((m4 = 3 ∧ ∃ z, numP 0 0 r = (e6, z, r6) ∧ acc = [zag z]) ∨ (m4 ≠ 3 ∧ acc = [] ∧ r6 = r ∧ e6 = e5))) → K ⟨List.toArray (x0 :: x1 :: x2 :: x3 :: .pointer (some ⟨g, 0, none⟩) :: x5 :: x6 :: x7 :: x8 :: x9 :: .pointer (some ⟨gx, 0, none⟩) :: x11 :: x12 :: x13 :: x14 :: x15 :: x16 :: x17 :: x18 :: x19 :: x20 :: x21 :: x22 :: x23 :: x24 :: x25 :: x26 :: x27 :: x28 :: x29 :: x30 :: x31 :: x32 :: x33 :: x34 :: x35 :: x36 :: x37 :: x38 :: x39 :: x40 :: x41 :: x42 :: x43 :: x44 :: y45 :: y46 :: y47 :: y48 :: y49 :: y50 :: y51 :: y52 :: y53 :: y54 :: y55 :: y56 :: y57 :: y58 :: y59 :: y60 :: y61 :: y62 :: y63 :: y64 :: y65 :: y66 :: y67 :: y68 :: y69 :: y70 :: y71 :: y72 :: y73 :: y74 :: y75 :: y76 :: y77 :: y78 :: y79 :: y80 :: y81 :: y82 :: y83 :: y84 :: y85 :: y86 :: y87 :: y88 :: y89 :: y90 :: y91 :: y92 :: y93 :: y94 :: y95 :: y96 :: y97 :: y98 :: y99 :: y100 :: y101 :: y102 :: y103 :: y104 :: y105 :: y106 :: y107 :: y108 :: y109 :: y110 :: y111 :: y112 :: y113 :: y114 :: y115 :: y116 :: y117 :: y118 :: y119 :: y120 :: y121 :: y122 :: y123 :: y124 :: y125 :: y126 :: y127 :: y128 :: y129 :: y130 :: y131 :: y132 :: y133 :: y134 :: y135 :: y136 :: y137 :: y138 :: y139 :: y140 :: y141 :: y142 :: y143 :: y144 :: y145 :: y146 :: y147 :: y148 :: x149 :: x150 :: x151 :: x152 :: x153 :: x154 :: x155 :: x156 :: x157 :: x158 :: x159 :: x160 :: x161 :: x162 :: x163 :: x164 :: x165 :: x166 :: x167 :: x168 :: x169 :: x170 :: x171 :: x172 :: x173 :: x174 :: x175 :: x176 :: x177 :: x178 :: x179 :: x180 :: x181 :: x182 :: x183 :: x184 :: x185 :: x186 :: x187 :: x188 :: []), []⟩ wx) : (c8 [1, 1, 1, 1, 1, 1, 1, 1, 1, 0, 1, 0, 0, 1, 0, 0, 1, 1, 1, 1, 1, 0, 1]).wp Tryd.prog (Exit.then K Q') ⟨List.toArray (x0 :: x1 :: x2 :: x3 :: .pointer (some ⟨g, 0, none⟩) :: x5 :: x6 :: x7 :: x8 :: x9 :: .pointer (some ⟨gx, 0, none⟩) :: x11 :: x12 :: x13 :: x14 :: x15 :: x16 :: x17 :: x18 :: x19 :: x20 :: x21 :: x22 :: x23 :: x24 :: x25 :: x26 :: x27 :: x28 :: x29 :: x30 :: x31 :: x32 :: x33 :: x34 :: x35 :: x36 :: x37 :: x38 :: x39 :: x40 :: x41 :: x42 :: x43 :: x44 :: x45 :: x46 :: x47 :: x48 :: x49 :: x50 :: x51 :: x52 :: x53 :: x54 :: x55 :: x56 :: x57 :: x58 :: x59 :: x60 :: x61 :: x62 :: x63 :: x64 :: x65 :: x66 :: x67 :: x68 :: x69 :: x70 :: x71 :: x72 :: x73 :: x74 :: x75 :: x76 :: x77 :: x78 :: x79 :: x80 :: .bool (m4 == 3) :: x82 :: x83 :: x84 :: x85 :: x86 :: x87 :: x88 :: x89 :: x90 :: x91 :: x92 :: x93 :: x94 :: x95 :: x96 :: x97 :: x98 :: x99 :: x100 :: x101 :: x102 :: x103 :: x104 :: x105 :: x106 :: x107 :: x108 :: x109 :: x110 :: x111 :: x112 :: x113 :: x114 :: x115 :: x116 :: x117 :: x118 :: x119 :: x120 :: x121 :: x122 :: x123 :: x124 :: x125 :: x126 :: x127 :: x128 :: x129 :: x130 :: x131 :: x132 :: x133 :: x134 :: x135 :: x136 :: x137 :: x138 :: x139 :: x140 :: x141 :: x142 :: x143 :: x144 :: x145 :: x146 :: x147 :: x148 :: x149 :: x150 :: x151 :: x152 :: x153 :: x154 :: x155 :: x156 :: x157 :: x158 :: x159 :: x160 :: x161 :: x162 :: x163 :: x164 :: x165 :: x166 :: x167 :: x168 :: x169 :: x170 :: x171 :: x172 :: x173 :: x174 :: x175 :: x176 :: x177 :: x178 :: x179 :: x180 :: x181 :: x182 :: x183 :: x184 :: x185 :: x186 :: x187 :: x188 :: []), []⟩ wz := by
  have HK := Lib.hid hK
  clear hK
  conv => arg 2; whnf
  go_cut [] from 45 to 148 (fun  wx => ∃ (e6 : Int) (acc : List Int) (r6 : List UInt8), Hid (TSt w g gx p ps a c X m4 acc r6 e6 wx) ∧ Hid ((m4 = 3 ∧ ∃ z, numP 0 0 r = (e6, z, r6) ∧ acc = [zag z]) ∨ (m4 ≠ 3 ∧ acc = [] ∧ r6 = r ∧ e6 = e5)))
  case rest =>
    exact HK.out _ _ _ _ _ _ _ _ _ _ _ _ _ _ _ _ _ _ _ _ _ _ _ _ _ _ _ _ _ _ _ _ _ _ _ _ _ _ _ _ _ _ _ _ _ _ _ _ _ _ _ _ _ _ _ _ _ _ _ _ _ _ _ _ _ _ _ _ _ _ _ _ _ _ _ _ _ _ _ _ _ _ _ _ _ _ _ _ _ _ _ _ _ _ _ _ _ _ _ _ _ _ _ _ _ hcut
  case first =>
    clear HK
    obtain ⟨y2, yf2, y0, y1, yf, l1, l2⟩ := HX.out.y
    obtain ⟨aq0, cq0, hxq0, _⟩ := HX.out.xb
    have z2 : wz.cell? ⟨gx, 2, none⟩ = some (.slice aq0 0 cq0) := cell_block hxq0 2
    clear hxq0
    
    by_cases h3 : m4 = 3
    · obtain rfl : e5 = 0 := h5 h3
      obtain ⟨e3, z, r3, hz3⟩ : ∃ e3 z r3, numP 0 0 r = (e3, z, r3) := ⟨_, _, _, rfl⟩
      have hzl := zag_lt (numE_lt (e := 0) hz3)
      have HZG := Lib.hid (fun (W : World) (hw : Tp w g p r 0 W) => zig_gen w g p r W hw (e0 := 0) hz3)
      have HZ3 := Lib.hid hz3
      have HZZ : Hid (zag z = zag z) := Lib.hid rfl
      obtain ⟨v, hv⟩ : ∃ v, v = zag z := ⟨_, rfl⟩
      rw [← hv] at HZG hzl
      have HV := Lib.hid hv
      obtain ⟨hv1, hv2⟩ := hzl
      clear hz3 hv h5 HZZ
      subst h3
      go_wp2_with fail
      refine (HZG.out _ HX.out.tp).mono ?_
      rintro en w5 ⟨rfl, hr5, hg5⟩
      have HX := Lib.hid (HX.out.mv hr5 hg5)
      clear hr5 hg5 y2 yf2 y0 y1 yf l1 l2 z2
      obtain ⟨y2, yf2, y0, y1, yf, l1, l2⟩ := HX.out.y
      obtain ⟨aq0, cq0, hxq0, _⟩ := HX.out.xb
      have z2 : w5.cell? ⟨gx, 2, none⟩ = some (.slice aq0 0 cq0) := cell_block hxq0 2
      clear hxq0
    
      go_wp2_with fail
      have HX := Lib.hid (HX.out.row (w' := w5.alloc (.cells #[.int .i64 v] 3)) (r := none) (World.grownBy_alloc _ _ none) (fun k h => by cases h) (acc2 := [v]) (g1 := w5.heap.size) (cap := 1) (n2 := 1) rfl (World.ownsRow_lit (base := gx + 1) (e := 3) (size := 1) w5 #[.int .i64 v] 1 (by omega) (by unfold maxLen; omega) rfl))
      rw [World.setCell_alloc_past _ _ _ _ l2] at HX
      go_meet
      exact ⟨e3, [v], r3, HX, Lib.hid (Or.inl ⟨by first | rfl | trivial, z, HZ3.out, by rw [HV.out]⟩)⟩
    · have hm4b : (m4 == 3) = false := by rw [beq_eq_false_iff_ne]; exact h3
      have HH := Lib.hid h3
      clear h3 h5
      go_wp2_with fail
      go_meet
      exact ⟨e5, [], r, HX, Lib.hid (Or.inr ⟨HH.out, rfl, rfl, rfl⟩)⟩

end Go.Proofs.YtiekilpddmdhnaaDoor
