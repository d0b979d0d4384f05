/- Piece of the walk of the document's EventsOf: a run's test. No condition beyond those of each row. -/
import Derived.Test.YtiekilpddmdhnaaDoorTea
import Derived.Handy
import Derived.StillTailTactics
import Derived.Deep.RegionWith
import Derived.Deep.RegionLaw
import Derived.Deep.CutBlock
import Derived.Deep.CutRange
import Derived.Deep.RegionHeld3
import Derived.Deep.LoopGhost
namespace Go.Proofs.YtiekilpddmdhnaaDoor
open Go Go.RowKit Go.ChangeShapes Go.WideShapes Go.Deep
set_option linter.unusedVariables false

set_option maxHeartbeats 8000000 in
set_option maxRecDepth 100000 in
theorem ev_r29 {w : World} {g gx : Nat} {p : List UInt8} {ps : List (Ev × Value)} {a : Option Addr} {c : Nat} {X : Int} {acc : List Int} {rb : List UInt8} {k : Nat} {v : Int} {wz : World} {last : Int} {K : Act → World → Prop} {Q' : Exit → Act → World → Prop} {x0 x1 x2 x3 x5 x6 x7 x8 x9 x14 x15 x16 x17 x18 x19 x20 x21 x22 x23 x24 x25 x26 x27 x28 x29 x30 x31 x32 x33 x34 x35 x36 x37 x38 x39 x40 x41 x42 x43 x44 x45 x46 x47 x48 x49 x50 x51 x52 x53 x54 x55 x56 x57 x58 x59 x60 x61 x62 x63 x64 x65 x66 x67 x68 x69 x70 x71 x72 x73 x74 x75 x76 x77 x78 x79 x80 x81 x82 x83 x84 x85 x86 x87 x88 x89 x90 x91 x92 x93 x94 x95 x96 x97 x98 x99 x100 x101 x102 x103 x104 x105 x106 x107 x108 x109 x110 x111 x112 x113 x114 x115 x116 x117 x118 x119 x120 x121 x122 x123 x124 x125 x126 x127 x128 x129 x130 x131 x132 x133 x134 x135 x136 x137 x138 x139 x140 x141 x142 x143 x144 x145 x146 x147 x148 x149 x150 x151 x152 x153 x154 x155 x156 x157 x158 x159 x160 x161 x162 x163 x164 x165 x166 x167 x168 x169 x170 x171 x172 x173 x174 x175 x176 x177 x178 x179 x180 x181 x182 x183 x184 x185 x186 x187 x188 : Value} (HX : Hid (TSt w g gx p ps a c X 2 acc rb 0 wz)) (hl : acc.length < 16) (hk : k < 562949953421312) (hK : ∀ (y86 y87 y88 y89 y90 y91 y92 y93 y94 y95 y96 y97 y98 y99 y100 y101 y102 y103 y104 y105 y106 y107 y108 y109 y110 y111 y112 y113 y114 y115 y116 y117 y118 y119 y120 y121 y122 y123 y124 y125 y126 y127 y128 y129 y131 y132 y133 y134 y135 y136 y137 y138 y139 y140 y141 y142 y143 y144 : Value) (s130 : Value) (wx : World), (∃ t : Bool, s130 = .bool t ∧ Hid (t = true ↔ runBad acc k v last) ∧ wx = wz) → K ⟨List.toArray (x0 :: x1 :: x2 :: x3 :: .pointer (some ⟨g, 0, none⟩) :: x5 :: x6 :: x7 :: x8 :: x9 :: .pointer (some ⟨gx, 0, none⟩) :: .int .i64 last :: .int .i64 (k : Int) :: .int .i64 v :: x14 :: x15 :: x16 :: x17 :: x18 :: x19 :: x20 :: x21 :: x22 :: x23 :: x24 :: x25 :: x26 :: x27 :: x28 :: x29 :: x30 :: x31 :: x32 :: x33 :: x34 :: x35 :: x36 :: x37 :: x38 :: x39 :: x40 :: x41 :: x42 :: x43 :: x44 :: x45 :: x46 :: x47 :: x48 :: x49 :: x50 :: x51 :: x52 :: x53 :: x54 :: x55 :: x56 :: x57 :: x58 :: x59 :: x60 :: x61 :: x62 :: x63 :: x64 :: x65 :: x66 :: x67 :: x68 :: x69 :: x70 :: x71 :: x72 :: x73 :: x74 :: x75 :: x76 :: x77 :: x78 :: x79 :: x80 :: x81 :: x82 :: x83 :: x84 :: x85 :: y86 :: y87 :: y88 :: y89 :: y90 :: y91 :: y92 :: y93 :: y94 :: y95 :: y96 :: y97 :: y98 :: y99 :: y100 :: y101 :: y102 :: y103 :: y104 :: y105 :: y106 :: y107 :: y108 :: y109 :: y110 :: y111 :: y112 :: y113 :: y114 :: y115 :: y116 :: y117 :: y118 :: y119 :: y120 :: y121 :: y122 :: y123 :: y124 :: y125 :: y126 :: y127 :: y128 :: y129 :: s130 :: y131 :: y132 :: y133 :: y134 :: y135 :: y136 :: y137 :: y138 :: y139 :: y140 :: y141 :: y142 :: y143 :: y144 :: x145 :: x146 :: x147 :: x148 :: x149 :: x150 :: x151 :: x152 :: x153 :: x154 :: x155 :: x156 :: x157 :: x158 :: x159 :: x160 :: x161 :: x162 :: x163 :: x164 :: x165 :: x166 :: x167 :: x168 :: x169 :: x170 :: x171 :: x172 :: x173 :: x174 :: x175 :: x176 :: x177 :: x178 :: x179 :: x180 :: x181 :: x182 :: x183 :: x184 :: x185 :: x186 :: x187 :: x188 :: []), []⟩ wx) : (c8 [1, 1, 1, 1, 1, 1, 1, 1, 1, 0, 1, 0, 0, 1, 0, 0, 1, 1, 1, 1, 1, 1, 1, 0, 0, 0, 1, 0, 1, 1, 1, 0, 0]).wp Tryd.prog (Exit.then K Q') ⟨List.toArray (x0 :: x1 :: x2 :: x3 :: .pointer (some ⟨g, 0, none⟩) :: x5 :: x6 :: x7 :: x8 :: x9 :: .pointer (some ⟨gx, 0, none⟩) :: .int .i64 last :: .int .i64 (k : Int) :: .int .i64 v :: x14 :: x15 :: x16 :: x17 :: x18 :: x19 :: x20 :: x21 :: x22 :: x23 :: x24 :: x25 :: x26 :: x27 :: x28 :: x29 :: x30 :: x31 :: x32 :: x33 :: x34 :: x35 :: x36 :: x37 :: x38 :: x39 :: x40 :: x41 :: x42 :: x43 :: x44 :: x45 :: x46 :: x47 :: x48 :: x49 :: x50 :: x51 :: x52 :: x53 :: x54 :: x55 :: x56 :: x57 :: x58 :: x59 :: x60 :: x61 :: x62 :: x63 :: x64 :: x65 :: x66 :: x67 :: x68 :: x69 :: x70 :: x71 :: x72 :: x73 :: x74 :: x75 :: x76 :: x77 :: x78 :: x79 :: x80 :: x81 :: x82 :: x83 :: x84 :: x85 :: x86 :: x87 :: x88 :: x89 :: x90 :: x91 :: x92 :: x93 :: x94 :: x95 :: x96 :: x97 :: x98 :: x99 :: x100 :: x101 :: x102 :: x103 :: x104 :: x105 :: x106 :: x107 :: x108 :: x109 :: x110 :: x111 :: x112 :: x113 :: x114 :: x115 :: x116 :: x117 :: x118 :: x119 :: x120 :: x121 :: x122 :: x123 :: x124 :: x125 :: x126 :: x127 :: x128 :: x129 :: x130 :: x131 :: x132 :: x133 :: x134 :: x135 :: x136 :: x137 :: x138 :: x139 :: x140 :: x141 :: x142 :: x143 :: x144 :: x145 :: x146 :: x147 :: x148 :: x149 :: x150 :: x151 :: x152 :: x153 :: x154 :: x155 :: x156 :: x157 :: x158 :: x159 :: x160 :: x161 :: x162 :: x163 :: x164 :: x165 :: x166 :: x167 :: x168 :: x169 :: x170 :: x171 :: x172 :: x173 :: x174 :: x175 :: x176 :: x177 :: x178 :: x179 :: x180 :: x181 :: x182 :: x183 :: x184 :: x185 :: x186 :: x187 :: x188 :: []), []⟩ wz := by
  have HK := Lib.hid hK
  clear hK
  conv => arg 2; whnf
  go_cut [130] from 86 to 144 (fun s130 wx => ∃ t : Bool, s130 = .bool t ∧ Hid (t = true ↔ runBad acc k v last) ∧ wx = wz)
  case rest =>
    exact HK.out _ _ _ _ _ _ _ _ _ _ _ _ _ _ _ _ _ _ _ _ _ _ _ _ _ _ _ _ _ _ _ _ _ _ _ _ _ _ _ _ _ _ _ _ _ _ _ _ _ _ _ _ _ _ _ _ _ _ _ _ hcut
  case first =>
    clear HK
    obtain ⟨y2, yf2, y0, y1, yf, l1, l2⟩ := HX.out.y
    obtain ⟨aq0, cq0, hxq0, _⟩ := HX.out.xb
    have z2 : wz.cell? ⟨gx, 2, none⟩ = some (.slice aq0 acc.length cq0) := cell_block hxq0 2
    clear hxq0
    
    have hll : (acc.length : Int) < 16 := by omega
    have hw16 : (16 : Int) - (acc.length : Int) ≤ 16 := by omega
    by_cases hin : 1 ≤ k ∧ k ≤ 16 - acc.length
    · by_cases hrep : 0 < acc.length ∧ v = last
      · obtain ⟨hr0, rfl⟩ := hrep
        have HB := Lib.hid (show runBad acc k v v from Or.inr (Or.inr ⟨hr0, rfl⟩))
        have hvb : (v == v) = true := by simp
        have hr1' : (0 : Int) < (acc.length : Int) := by omega
        go_wp2_with fail
        refine (in_yes (k : Int) 1 (16 - (acc.length : Int)) wz (by omega)).mono ?_
        rintro en w7 ⟨rfl, rfl⟩
        clear hin hw16 hll hl
        go_wp2_with fail
        go_meet
        exact ⟨true, rfl, Lib.hid ⟨fun _ => HB.out, fun _ => rfl⟩, (by first | rfl | trivial)⟩
      · have hnb : ¬ runBad acc k v last := by
          rintro (h | h | h)
          · omega
          · omega
          · exact hrep h
        have HB := Lib.hid hnb
        have hor : acc.length = 0 ∨ (0 < acc.length ∧ v ≠ last) := by
          by_cases h : 0 < acc.length
          · exact Or.inr ⟨h, fun e => hrep ⟨h, e⟩⟩
          · exact Or.inl (by omega)
        clear hrep hnb
        rcases hor with h0 | ⟨h0, hvl⟩
        · have hpos : ¬ (0 : Int) < (acc.length : Int) := by omega
          clear h0
          go_wp2_with fail
          refine (in_yes (k : Int) 1 (16 - (acc.length : Int)) wz (by omega)).mono ?_
          rintro en w7 ⟨rfl, rfl⟩
          clear hin hw16 hll hl
          go_wp2_with fail
          go_meet
          exact ⟨false, rfl, Lib.hid ⟨fun h => (by cases h), fun h => absurd h HB.out⟩, (by first | rfl | trivial)⟩
        · have hvb : (v == last) = false := by rw [beq_eq_false_iff_ne]; exact hvl
          have hpos : (0 : Int) < (acc.length : Int) := by omega
          clear hvl
          go_wp2_with fail
          refine (in_yes (k : Int) 1 (16 - (acc.length : Int)) wz (by omega)).mono ?_
          rintro en w7 ⟨rfl, rfl⟩
          clear hin hw16 hll hl
          go_wp2_with fail
          go_meet
          exact ⟨false, rfl, Lib.hid ⟨fun h => (by cases h), fun h => absurd h HB.out⟩, (by first | rfl | trivial)⟩
    · have HB := Lib.hid (show runBad acc k v last from by rcases (show k < 1 ∨ 16 - acc.length < k by omega) with h | h; exact Or.inl h; exact Or.inr (Or.inl h))
      go_wp2_with fail
      refine (in_no (k : Int) 1 (16 - (acc.length : Int)) wz (by omega)).mono ?_
      rintro en w7 ⟨rfl, rfl⟩
      clear hin hw16 hll hl
      go_wp2_with fail
      go_meet
      exact ⟨true, rfl, Lib.hid ⟨fun _ => HB.out, fun _ => rfl⟩, (by first | rfl | trivial)⟩

end Go.Proofs.YtiekilpddmdhnaaDoor
