/- Piece of the walk of the document's EventsOf: a run's words. No condition beyond those of each row. -/
import Derived.Test.YtiekilpddmdhnaaDoorTea
import Derived.Handy
import Derived.StillTailTactics
import Derived.Deep.RegionWith
import Derived.Deep.RegionLaw
import Derived.Deep.CutBlock
import Derived.Deep.CutRange
import Derived.Deep.RegionHeld3
import Derived.Deep.LoopGhost
namespace Go.Proofs.YtiekilpddmdhnaaDoor
open Go Go.RowKit Go.ChangeShapes Go.WideShapes Go.Deep
set_option linter.unusedVariables false

set_option maxHeartbeats 8000000 in
set_option maxRecDepth 100000 in
theorem ev_rep {w : World} {g gx : Nat} {p : List UInt8} {ps : List (Ev × Value)} {a : Option Addr} {c : Nat} {X : Int} {acc : List Int} {rb : List UInt8} {k : Nat} {v : Int} {wz : World} {K : Act → World → Prop} {Q' : Exit → Act → World → Prop} {x0 x1 x2 x3 x5 x6 x7 x8 x9 x11 x14 x15 x16 x17 x18 x19 x20 x21 x22 x23 x24 x25 x26 x27 x28 x29 x30 x31 x32 x33 x34 x35 x36 x37 x38 x39 x40 x41 x42 x43 x44 x45 x46 x47 x48 x49 x50 x51 x52 x53 x54 x55 x56 x57 x58 x59 x60 x61 x62 x63 x64 x65 x66 x67 x68 x69 x70 x71 x72 x73 x74 x75 x76 x77 x78 x79 x80 x81 x82 x83 x84 x85 x86 x87 x88 x89 x90 x91 x92 x93 x94 x95 x96 x97 x98 x99 x100 x101 x102 x103 x104 x105 x106 x107 x108 x109 x110 x111 x112 x113 x114 x115 x116 x117 x118 x119 x120 x121 x122 x123 x124 x125 x126 x127 x128 x129 x130 x131 x132 x133 x134 x135 x136 x137 x138 x139 x140 x141 x142 x143 x144 x145 x146 x147 x148 x149 x150 x151 x152 x153 x154 x155 x156 x157 x158 x159 x160 x161 x162 x163 x164 x165 x166 x167 x168 x169 x170 x171 x172 x173 x174 x175 x176 x177 x178 x179 x180 x181 x182 x183 x184 x185 x186 x187 x188 : Value} (HX : Hid (TSt w g gx p ps a c X 2 acc rb 0 wz)) (hk : acc.length + k ≤ 16) (hK : ∀ (y86 y87 y88 y89 y90 y91 y92 y93 y94 y95 y96 y97 y98 y99 y100 y101 y102 y103 y104 y105 y106 y107 y108 y109 y110 y111 y112 y113 y114 y115 y116 y117 y118 y119 y120 y121 y122 y123 y124 y125 y126 y127 y128 y129 y130 y131 y132 y133 y134 y135 y136 y137 y138 y139 y140 y141 y142 y143 y144 : Value) (s12 : Value) (wx : World), (Hid (TSt w g gx p ps a c X 2 (accE acc k v 0) rb 0 wx)) → K ⟨List.toArray (x0 :: x1 :: x2 :: x3 :: .pointer (some ⟨g, 0, none⟩) :: x5 :: x6 :: x7 :: x8 :: x9 :: .pointer (some ⟨gx, 0, none⟩) :: x11 :: s12 :: .int .i64 v :: x14 :: x15 :: x16 :: x17 :: x18 :: x19 :: x20 :: x21 :: x22 :: x23 :: x24 :: x25 :: x26 :: x27 :: x28 :: x29 :: x30 :: x31 :: x32 :: x33 :: x34 :: x35 :: x36 :: x37 :: x38 :: x39 :: x40 :: x41 :: x42 :: x43 :: x44 :: x45 :: x46 :: x47 :: x48 :: x49 :: x50 :: x51 :: x52 :: x53 :: x54 :: x55 :: x56 :: x57 :: x58 :: x59 :: x60 :: x61 :: x62 :: x63 :: x64 :: x65 :: x66 :: x67 :: x68 :: x69 :: x70 :: x71 :: x72 :: x73 :: x74 :: x75 :: x76 :: x77 :: x78 :: x79 :: x80 :: x81 :: x82 :: x83 :: x84 :: x85 :: y86 :: y87 :: y88 :: y89 :: y90 :: y91 :: y92 :: y93 :: y94 :: y95 :: y96 :: y97 :: y98 :: y99 :: y100 :: y101 :: y102 :: y103 :: y104 :: y105 :: y106 :: y107 :: y108 :: y109 :: y110 :: y111 :: y112 :: y113 :: y114 :: y115 :: y116 :: y117 :: y118 :: y119 :: y120 :: y121 :: y122 :: y123 :: y124 :: y125 :: y126 :: y127 :: y128 :: y129 :: y130 :: y131 :: y132 :: y133 :: y134 :: y135 :: y136 :: y137 :: y138 :: y139 :: y140 :: y141 :: y142 :: y143 :: y144 :: x145 :: x146 :: x147 :: x148 :: x149 :: x150 :: x151 :: x152 :: x153 :: x154 :: x155 :: x156 :: x157 :: x158 :: x159 :: x160 :: x161 :: x162 :: x163 :: x164 :: x165 :: x166 :: x167 :: x168 :: x169 :: x170 :: x171 :: x172 :: x173 :: x174 :: x175 :: x176 :: x177 :: x178 :: x179 :: x180 :: x181 :: x182 :: x183 :: x184 :: x185 :: x186 :: x187 :: x188 :: []), []⟩ wx) : (c8 [1, 1, 1, 1, 1, 1, 1, 1, 1, 0, 1, 0, 0, 1, 0, 0, 1, 1, 1, 1, 1, 1, 1, 0, 0, 0, 1, 0, 1, 1, 1, 1, 0]).wp Tryd.prog (Exit.then K Q') ⟨List.toArray (x0 :: x1 :: x2 :: x3 :: .pointer (some ⟨g, 0, none⟩) :: x5 :: x6 :: x7 :: x8 :: x9 :: .pointer (some ⟨gx, 0, none⟩) :: x11 :: .int .i64 (k : Int) :: .int .i64 v :: x14 :: x15 :: x16 :: x17 :: x18 :: x19 :: x20 :: x21 :: x22 :: x23 :: x24 :: x25 :: x26 :: x27 :: x28 :: x29 :: x30 :: x31 :: x32 :: x33 :: x34 :: x35 :: x36 :: x37 :: x38 :: x39 :: x40 :: x41 :: x42 :: x43 :: x44 :: x45 :: x46 :: x47 :: x48 :: x49 :: x50 :: x51 :: x52 :: x53 :: x54 :: x55 :: x56 :: x57 :: x58 :: x59 :: x60 :: x61 :: x62 :: x63 :: x64 :: x65 :: x66 :: x67 :: x68 :: x69 :: x70 :: x71 :: x72 :: x73 :: x74 :: x75 :: x76 :: x77 :: x78 :: x79 :: x80 :: x81 :: x82 :: x83 :: x84 :: x85 :: x86 :: x87 :: x88 :: x89 :: x90 :: x91 :: x92 :: x93 :: x94 :: x95 :: x96 :: x97 :: x98 :: x99 :: x100 :: x101 :: x102 :: x103 :: x104 :: x105 :: x106 :: x107 :: x108 :: x109 :: x110 :: x111 :: x112 :: x113 :: x114 :: x115 :: x116 :: x117 :: x118 :: x119 :: x120 :: x121 :: x122 :: x123 :: x124 :: x125 :: x126 :: x127 :: x128 :: x129 :: x130 :: x131 :: x132 :: x133 :: x134 :: x135 :: x136 :: x137 :: x138 :: x139 :: x140 :: x141 :: x142 :: x143 :: x144 :: x145 :: x146 :: x147 :: x148 :: x149 :: x150 :: x151 :: x152 :: x153 :: x154 :: x155 :: x156 :: x157 :: x158 :: x159 :: x160 :: x161 :: x162 :: x163 :: x164 :: x165 :: x166 :: x167 :: x168 :: x169 :: x170 :: x171 :: x172 :: x173 :: x174 :: x175 :: x176 :: x177 :: x178 :: x179 :: x180 :: x181 :: x182 :: x183 :: x184 :: x185 :: x186 :: x187 :: x188 :: []), []⟩ wz := by
  have HK := Lib.hid hK
  clear hK
  conv => arg 2; whnf
  go_cut [12] from 86 to 144 (fun s12 wx => Hid (TSt w g gx p ps a c X 2 (accE acc k v 0) rb 0 wx))
  case rest =>
    exact HK.out _ _ _ _ _ _ _ _ _ _ _ _ _ _ _ _ _ _ _ _ _ _ _ _ _ _ _ _ _ _ _ _ _ _ _ _ _ _ _ _ _ _ _ _ _ _ _ _ _ _ _ _ _ _ _ _ _ _ _ _ _ hcut
  case first =>
    clear HK
    go_wp2_with fail
    go_loopg [12] k (fun gh s12 wq => ∃ j : Nat, j ≤ k ∧ gh = k - j ∧ s12 = .int .i64 ((k - j : Nat) : Int) ∧ Hid (TSt w g gx p ps a c X 2 (accE acc j v 0) rb 0 wq))
    case atStart => exact ⟨0, Nat.zero_le _, by omega, by simp, Lib.hid (by rw [accE_zero]; exact HX.out)⟩
    case round =>
      clear HX
      obtain ⟨j, hj, rfl, rfl, HX⟩ := hrel
      by_cases hjk : j < k
      · have hacl := accE_len acc j v 0
        have HM := Lib.hid (accE_more acc j v)
        generalize accE acc j v 0 = ac at *
        obtain ⟨y2, yf2, y0, y1, yf, l1, l2⟩ := HX.out.y
        obtain ⟨aq, cq, hxq, hoq⟩ := HX.out.xb
        have z2 : wr.cell? ⟨gx, 2, none⟩ = some (.slice aq ac.length cq) := cell_block hxq 2
        have HXQ := Lib.hid hxq
        have HOQ := Lib.hid hoq
        obtain ⟨q, hq⟩ : ∃ q : Nat, q = k - j := ⟨_, rfl⟩
        have hq1 : k - j = q := hq.symm
        have hq0 : (0 : Int) < (q : Int) := by omega
        have hac16 : ac.length ≤ 16 := by omega
        rw [hq1]
        have HQ1 := Lib.hid hq1
        have hq16 : q ≤ 16 := by omega
        clear hxq hoq hq hq1
        go_wp2_with (at_builtin; go_loud (refine wpList_push wr rfl (.tmp 139) (.tmp 141) 29 rfl (gx + 1) 3 (.int .i64 0) 1 8 Tryd.underlying29 info_int' rfl (by decide) [.int .i64 v] rfl (by simp [Value.oneCell']) _ _ _ (by rfl) HOQ.out (by rfl) rfl (by omega) (by omega) (by omega) ?_); intro g1 cp1 w1 hown1 hgrow1; have hx1 := block_grown hgrow1 HXQ.out (own_ne_block HOQ.out HXQ.out (by decide)); have z3 : w1.cell? ⟨gx, 2, none⟩ = some (.slice aq ac.length cq) := cell_block hx1 2; have fg1 := free_block hx1 2; have HN1 := Lib.hid hown1; have HG1 := Lib.hid hgrow1; clear hx1 hown1 hgrow1)
        have hps := HX.out.row HG1.out (fun k hk => by have := (HOQ.out.lt k hk).1; omega) (acc2 := ac ++ [v]) (n2 := ac.length + 1) (by simp) (by rw [List.map_append]; exact HN1.out)
        rw [HM.out] at hps
        go_roundg (k - (j + 1))
        case measure => have := HQ1.out; omega
        case rel => exact ⟨j + 1, by omega, rfl, by rw [show k - (j + 1) = q - 1 by have := HQ1.out; omega]; go_num, Lib.hid hps⟩
      · obtain rfl : j = k := by omega
        have hq0 : ((j - j : Nat) : Int) = 0 := by omega
        rw [hq0]
        go_wp2
        go_meet
        exact HX

end Go.Proofs.YtiekilpddmdhnaaDoor
