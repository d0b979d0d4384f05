/- Several texts joined, each with its own heading in the notes: Piece of the walk of the document's EventsOf: kind 0. Piece of the walk of the document's EventsOf: a run's test. Piece of the walk of the document's EventsOf: a run's words. A block's words in the document's EventsOf. Piece of the walk of the document's EventsOf: kind 3. No condition beyond those of each row. -/
import Derived.Test.YtiekilpddmdhnaaDoorYDe
import Derived.Handy
import Derived.StillTailTactics
import Derived.Deep.RegionWith
import Derived.Deep.RegionLaw
import Derived.Deep.CutBlock
import Derived.Deep.CutRange
import Derived.Deep.RegionHeld3
import Derived.Deep.LoopGhost
namespace Go.Proofs.YtiekilpddmdhnaaDoor
open Go Go.RowKit Go.ChangeShapes Go.WideShapes Go.Deep
set_option linter.unusedVariables false

def navE : List Nat → Code → Code
  | [], c => c
  | 0 :: p, .seq a _ => navE p a
  | 1 :: p, .seq _ b => navE p b
  | 0 :: p, .block _ c => navE p c
  | 0 :: p, .loop c => navE p c
  | 0 :: p, .scope c => navE p c
  | 0 :: p, .cond _ a _ => navE p a
  | 1 :: p, .cond _ _ b => navE p b
  | _, _ => .skip
/-- A statement of the function, by its way from the body. -/
noncomputable def c8 (p : List Nat) : Code := navE p (Tryd.f8.body.getD .skip)

set_option maxHeartbeats 8000000 in
set_option maxRecDepth 100000 in
theorem ev_k0 {w : World} {g gx : Nat} {p : List UInt8} {ps : List (Ev × Value)} {a : Option Addr} {c : Nat} {X m4 : Int} {r : List UInt8} {wz : World} {K : Act → World → Prop} {Q' : Exit → Act → World → Prop} {x0 x1 x2 x3 x5 x6 x7 x8 x9 x11 x12 x13 x14 x15 x16 x17 x18 x19 x20 x21 x22 x23 x24 x25 x26 x27 x28 x29 x30 x31 x32 x33 x34 x35 x36 x37 x38 x39 x40 x41 x42 x43 x44 x45 x46 x47 x48 x49 x50 x51 x52 x53 x54 x55 x56 x57 x58 x59 x60 x61 x62 x63 x64 x65 x66 x67 x68 x69 x70 x71 x72 x73 x74 x76 x77 x78 x79 x80 x81 x82 x83 x84 x85 x86 x87 x88 x89 x90 x91 x92 x93 x94 x95 x96 x97 x98 x99 x100 x101 x102 x103 x104 x105 x106 x107 x108 x109 x110 x111 x112 x113 x114 x115 x116 x117 x118 x119 x120 x121 x122 x123 x124 x125 x126 x127 x128 x129 x130 x131 x132 x133 x134 x135 x136 x137 x138 x139 x140 x141 x142 x143 x144 x145 x146 x147 x148 x149 x150 x151 x152 x153 x154 x155 x156 x157 x158 x159 x160 x161 x162 x163 x164 x165 x166 x167 x168 x169 x170 x171 x172 x173 x174 x175 x176 x177 x178 x179 x180 x181 x182 x183 x184 x185 x186 x187 x188 : Value} (HX : Hid (TSt w g gx p ps a c X m4 [] r 0 wz)) (hK : ∀ (y45 y46 y47 y48 y49 y50 y51 y52 y53 y54 y55 y56 y57 y58 y59 y60 y61 y62 y63 y64 y65 y66 y67 y68 y69 y70 y71 y72 y73 y74 y75 y76 y77 y78 y79 y80 y81 y82 y83 y84 y85 y86 y87 y88 y89 y90 y91 y92 y93 y94 y95 y96 y97 y98 y99 y100 y101 y102 y103 y104 y105 y106 y107 y108 y109 y110 y111 y112 y113 y114 y115 y116 y117 y118 y119 y120 y121 y122 y123 y124 y125 y126 y127 y128 y129 y130 y131 y132 y133 y134 y135 y136 y137 y138 y139 y140 y141 y142 y143 y144 y145 y146 y147 y148 : Value)  (wx : World), (∃ e5 : Int, Hid (TSt w g gx p ps a c X m4 [] r e5 wx) ∧ Hid ((m4 = 0 ∧ e5 = 3) ∨ (m4 ≠ 0 ∧ e5 = 0))) → K ⟨List.toArray (x0 :: x1 :: x2 :: x3 :: .pointer (some ⟨g, 0, none⟩) :: x5 :: x6 :: x7 :: x8 :: x9 :: .pointer (some ⟨gx, 0, none⟩) :: x11 :: x12 :: x13 :: x14 :: x15 :: x16 :: x17 :: x18 :: x19 :: x20 :: x21 :: x22 :: x23 :: x24 :: x25 :: x26 :: x27 :: x28 :: x29 :: x30 :: x31 :: x32 :: x33 :: x34 :: x35 :: x36 :: x37 :: x38 :: x39 :: x40 :: x41 :: x42 :: x43 :: x44 :: y45 :: y46 :: y47 :: y48 :: y49 :: y50 :: y51 :: y52 :: y53 :: y54 :: y55 :: y56 :: y57 :: y58 :: y59 :: y60 :: y61 :: y62 :: y63 :: y64 :: y65 :: y66 :: y67 :: y68 :: y69 :: y70 :: y71 :: y72 :: y73 :: y74 :: y75 :: y76 :: y77 :: y78 :: y79 :: y80 :: y81 :: y82 :: y83 :: y84 :: y85 :: y86 :: y87 :: y88 :: y89 :: y90 :: y91 :: y92 :: y93 :: y94 :: y95 :: y96 :: y97 :: y98 :: y99 :: y100 :: y101 :: y102 :: y103 :: y104 :: y105 :: y106 :: y107 :: y108 :: y109 :: y110 :: y111 :: y112 :: y113 :: y114 :: y115 :: y116 :: y117 :: y118 :: y119 :: y120 :: y121 :: y122 :: y123 :: y124 :: y125 :: y126 :: y127 :: y128 :: y129 :: y130 :: y131 :: y132 :: y133 :: y134 :: y135 :: y136 :: y137 :: y138 :: y139 :: y140 :: y141 :: y142 :: y143 :: y144 :: y145 :: y146 :: y147 :: y148 :: x149 :: x150 :: x151 :: x152 :: x153 :: x154 :: x155 :: x156 :: x157 :: x158 :: x159 :: x160 :: x161 :: x162 :: x163 :: x164 :: x165 :: x166 :: x167 :: x168 :: x169 :: x170 :: x171 :: x172 :: x173 :: x174 :: x175 :: x176 :: x177 :: x178 :: x179 :: x180 :: x181 :: x182 :: x183 :: x184 :: x185 :: x186 :: x187 :: x188 :: []), []⟩ wx) : (c8 [1, 1, 1, 1, 1, 1, 1, 1, 1, 0, 1, 0, 0, 1, 0, 0, 1, 1, 1, 1, 0, 1]).wp Tryd.prog (Exit.then K Q') ⟨List.toArray (x0 :: x1 :: x2 :: x3 :: .pointer (some ⟨g, 0, none⟩) :: x5 :: x6 :: x7 :: x8 :: x9 :: .pointer (some ⟨gx, 0, none⟩) :: x11 :: x12 :: x13 :: x14 :: x15 :: x16 :: x17 :: x18 :: x19 :: x20 :: x21 :: x22 :: x23 :: x24 :: x25 :: x26 :: x27 :: x28 :: x29 :: x30 :: x31 :: x32 :: x33 :: x34 :: x35 :: x36 :: x37 :: x38 :: x39 :: x40 :: x41 :: x42 :: x43 :: x44 :: x45 :: x46 :: x47 :: x48 :: x49 :: x50 :: x51 :: x52 :: x53 :: x54 :: x55 :: x56 :: x57 :: x58 :: x59 :: x60 :: x61 :: x62 :: x63 :: x64 :: x65 :: x66 :: x67 :: x68 :: x69 :: x70 :: x71 :: x72 :: x73 :: x74 :: .bool (m4 == 0) :: x76 :: x77 :: x78 :: x79 :: x80 :: x81 :: x82 :: x83 :: x84 :: x85 :: x86 :: x87 :: x88 :: x89 :: x90 :: x91 :: x92 :: x93 :: x94 :: x95 :: x96 :: x97 :: x98 :: x99 :: x100 :: x101 :: x102 :: x103 :: x104 :: x105 :: x106 :: x107 :: x108 :: x109 :: x110 :: x111 :: x112 :: x113 :: x114 :: x115 :: x116 :: x117 :: x118 :: x119 :: x120 :: x121 :: x122 :: x123 :: x124 :: x125 :: x126 :: x127 :: x128 :: x129 :: x130 :: x131 :: x132 :: x133 :: x134 :: x135 :: x136 :: x137 :: x138 :: x139 :: x140 :: x141 :: x142 :: x143 :: x144 :: x145 :: x146 :: x147 :: x148 :: x149 :: x150 :: x151 :: x152 :: x153 :: x154 :: x155 :: x156 :: x157 :: x158 :: x159 :: x160 :: x161 :: x162 :: x163 :: x164 :: x165 :: x166 :: x167 :: x168 :: x169 :: x170 :: x171 :: x172 :: x173 :: x174 :: x175 :: x176 :: x177 :: x178 :: x179 :: x180 :: x181 :: x182 :: x183 :: x184 :: x185 :: x186 :: x187 :: x188 :: []), []⟩ wz := by
  have HK := Lib.hid hK
  clear hK
  conv => arg 2; whnf
  go_cut [] from 45 to 148 (fun  wx => ∃ e5 : Int, Hid (TSt w g gx p ps a c X m4 [] r e5 wx) ∧ Hid ((m4 = 0 ∧ e5 = 3) ∨ (m4 ≠ 0 ∧ e5 = 0)))
  case rest =>
    exact HK.out _ _ _ _ _ _ _ _ _ _ _ _ _ _ _ _ _ _ _ _ _ _ _ _ _ _ _ _ _ _ _ _ _ _ _ _ _ _ _ _ _ _ _ _ _ _ _ _ _ _ _ _ _ _ _ _ _ _ _ _ _ _ _ _ _ _ _ _ _ _ _ _ _ _ _ _ _ _ _ _ _ _ _ _ _ _ _ _ _ _ _ _ _ _ _ _ _ _ _ _ _ _ _ _ _ hcut
  case first =>
    clear HK
    obtain ⟨y2, yf2, y0, y1, yf, l1, l2⟩ := HX.out.y
    obtain ⟨aq0, cq0, hxq0, _⟩ := HX.out.xb
    have z2 : wz.cell? ⟨gx, 2, none⟩ = some (.slice aq0 0 cq0) := cell_block hxq0 2
    clear hxq0
    
    by_cases h0 : m4 = 0
    · subst h0
      go_wp2_with fail
      go_meet
      exact ⟨3, Lib.hid (HX.out.err 3), Lib.hid (by simp)⟩
    · have hm4b : (m4 == 0) = false := by rw [beq_eq_false_iff_ne]; exact h0
      have HH := Lib.hid h0
      clear h0
      go_wp2_with fail
      go_meet
      exact ⟨0, HX, Lib.hid (Or.inr ⟨HH.out, rfl⟩)⟩

end Go.Proofs.YtiekilpddmdhnaaDoor
namespace Go.Proofs.YtiekilpddmdhnaaDoor
open Go Go.RowKit Go.ChangeShapes Go.WideShapes Go.Deep
set_option linter.unusedVariables false

set_option maxHeartbeats 8000000 in
set_option maxRecDepth 100000 in
theorem ev_r29 {w : World} {g gx : Nat} {p : List UInt8} {ps : List (Ev × Value)} {a : Option Addr} {c : Nat} {X : Int} {acc : List Int} {rb : List UInt8} {k : Nat} {v : Int} {wz : World} {last : Int} {K : Act → World → Prop} {Q' : Exit → Act → World → Prop} {x0 x1 x2 x3 x5 x6 x7 x8 x9 x14 x15 x16 x17 x18 x19 x20 x21 x22 x23 x24 x25 x26 x27 x28 x29 x30 x31 x32 x33 x34 x35 x36 x37 x38 x39 x40 x41 x42 x43 x44 x45 x46 x47 x48 x49 x50 x51 x52 x53 x54 x55 x56 x57 x58 x59 x60 x61 x62 x63 x64 x65 x66 x67 x68 x69 x70 x71 x72 x73 x74 x75 x76 x77 x78 x79 x80 x81 x82 x83 x84 x85 x86 x87 x88 x89 x90 x91 x92 x93 x94 x95 x96 x97 x98 x99 x100 x101 x102 x103 x104 x105 x106 x107 x108 x109 x110 x111 x112 x113 x114 x115 x116 x117 x118 x119 x120 x121 x122 x123 x124 x125 x126 x127 x128 x129 x130 x131 x132 x133 x134 x135 x136 x137 x138 x139 x140 x141 x142 x143 x144 x145 x146 x147 x148 x149 x150 x151 x152 x153 x154 x155 x156 x157 x158 x159 x160 x161 x162 x163 x164 x165 x166 x167 x168 x169 x170 x171 x172 x173 x174 x175 x176 x177 x178 x179 x180 x181 x182 x183 x184 x185 x186 x187 x188 : Value} (HX : Hid (TSt w g gx p ps a c X 2 acc rb 0 wz)) (hl : acc.length < 16) (hk : k < 562949953421312) (hK : ∀ (y86 y87 y88 y89 y90 y91 y92 y93 y94 y95 y96 y97 y98 y99 y100 y101 y102 y103 y104 y105 y106 y107 y108 y109 y110 y111 y112 y113 y114 y115 y116 y117 y118 y119 y120 y121 y122 y123 y124 y125 y126 y127 y128 y129 y131 y132 y133 y134 y135 y136 y137 y138 y139 y140 y141 y142 y143 y144 : Value) (s130 : Value) (wx : World), (∃ t : Bool, s130 = .bool t ∧ Hid (t = true ↔ runBad acc k v last) ∧ wx = wz) → K ⟨List.toArray (x0 :: x1 :: x2 :: x3 :: .pointer (some ⟨g, 0, none⟩) :: x5 :: x6 :: x7 :: x8 :: x9 :: .pointer (some ⟨gx, 0, none⟩) :: .int .i64 last :: .int .i64 (k : Int) :: .int .i64 v :: x14 :: x15 :: x16 :: x17 :: x18 :: x19 :: x20 :: x21 :: x22 :: x23 :: x24 :: x25 :: x26 :: x27 :: x28 :: x29 :: x30 :: x31 :: x32 :: x33 :: x34 :: x35 :: x36 :: x37 :: x38 :: x39 :: x40 :: x41 :: x42 :: x43 :: x44 :: x45 :: x46 :: x47 :: x48 :: x49 :: x50 :: x51 :: x52 :: x53 :: x54 :: x55 :: x56 :: x57 :: x58 :: x59 :: x60 :: x61 :: x62 :: x63 :: x64 :: x65 :: x66 :: x67 :: x68 :: x69 :: x70 :: x71 :: x72 :: x73 :: x74 :: x75 :: x76 :: x77 :: x78 :: x79 :: x80 :: x81 :: x82 :: x83 :: x84 :: x85 :: y86 :: y87 :: y88 :: y89 :: y90 :: y91 :: y92 :: y93 :: y94 :: y95 :: y96 :: y97 :: y98 :: y99 :: y100 :: y101 :: y102 :: y103 :: y104 :: y105 :: y106 :: y107 :: y108 :: y109 :: y110 :: y111 :: y112 :: y113 :: y114 :: y115 :: y116 :: y117 :: y118 :: y119 :: y120 :: y121 :: y122 :: y123 :: y124 :: y125 :: y126 :: y127 :: y128 :: y129 :: s130 :: y131 :: y132 :: y133 :: y134 :: y135 :: y136 :: y137 :: y138 :: y139 :: y140 :: y141 :: y142 :: y143 :: y144 :: x145 :: x146 :: x147 :: x148 :: x149 :: x150 :: x151 :: x152 :: x153 :: x154 :: x155 :: x156 :: x157 :: x158 :: x159 :: x160 :: x161 :: x162 :: x163 :: x164 :: x165 :: x166 :: x167 :: x168 :: x169 :: x170 :: x171 :: x172 :: x173 :: x174 :: x175 :: x176 :: x177 :: x178 :: x179 :: x180 :: x181 :: x182 :: x183 :: x184 :: x185 :: x186 :: x187 :: x188 :: []), []⟩ wx) : (c8 [1, 1, 1, 1, 1, 1, 1, 1, 1, 0, 1, 0, 0, 1, 0, 0, 1, 1, 1, 1, 1, 1, 1, 0, 0, 0, 1, 0, 1, 1, 1, 0, 0]).wp Tryd.prog (Exit.then K Q') ⟨List.toArray (x0 :: x1 :: x2 :: x3 :: .pointer (some ⟨g, 0, none⟩) :: x5 :: x6 :: x7 :: x8 :: x9 :: .pointer (some ⟨gx, 0, none⟩) :: .int .i64 last :: .int .i64 (k : Int) :: .int .i64 v :: x14 :: x15 :: x16 :: x17 :: x18 :: x19 :: x20 :: x21 :: x22 :: x23 :: x24 :: x25 :: x26 :: x27 :: x28 :: x29 :: x30 :: x31 :: x32 :: x33 :: x34 :: x35 :: x36 :: x37 :: x38 :: x39 :: x40 :: x41 :: x42 :: x43 :: x44 :: x45 :: x46 :: x47 :: x48 :: x49 :: x50 :: x51 :: x52 :: x53 :: x54 :: x55 :: x56 :: x57 :: x58 :: x59 :: x60 :: x61 :: x62 :: x63 :: x64 :: x65 :: x66 :: x67 :: x68 :: x69 :: x70 :: x71 :: x72 :: x73 :: x74 :: x75 :: x76 :: x77 :: x78 :: x79 :: x80 :: x81 :: x82 :: x83 :: x84 :: x85 :: x86 :: x87 :: x88 :: x89 :: x90 :: x91 :: x92 :: x93 :: x94 :: x95 :: x96 :: x97 :: x98 :: x99 :: x100 :: x101 :: x102 :: x103 :: x104 :: x105 :: x106 :: x107 :: x108 :: x109 :: x110 :: x111 :: x112 :: x113 :: x114 :: x115 :: x116 :: x117 :: x118 :: x119 :: x120 :: x121 :: x122 :: x123 :: x124 :: x125 :: x126 :: x127 :: x128 :: x129 :: x130 :: x131 :: x132 :: x133 :: x134 :: x135 :: x136 :: x137 :: x138 :: x139 :: x140 :: x141 :: x142 :: x143 :: x144 :: x145 :: x146 :: x147 :: x148 :: x149 :: x150 :: x151 :: x152 :: x153 :: x154 :: x155 :: x156 :: x157 :: x158 :: x159 :: x160 :: x161 :: x162 :: x163 :: x164 :: x165 :: x166 :: x167 :: x168 :: x169 :: x170 :: x171 :: x172 :: x173 :: x174 :: x175 :: x176 :: x177 :: x178 :: x179 :: x180 :: x181 :: x182 :: x183 :: x184 :: x185 :: x186 :: x187 :: x188 :: []), []⟩ wz := by
  have HK := Lib.hid hK
  clear hK
  conv => arg 2; whnf
  go_cut [130] from 86 to 144 (fun s130 wx => ∃ t : Bool, s130 = .bool t ∧ Hid (t = true ↔ runBad acc k v last) ∧ wx = wz)
  case rest =>
    exact HK.out _ _ _ _ _ _ _ _ _ _ _ _ _ _ _ _ _ _ _ _ _ _ _ _ _ _ _ _ _ _ _ _ _ _ _ _ _ _ _ _ _ _ _ _ _ _ _ _ _ _ _ _ _ _ _ _ _ _ _ _ hcut
  case first =>
    clear HK
    obtain ⟨y2, yf2, y0, y1, yf, l1, l2⟩ := HX.out.y
    obtain ⟨aq0, cq0, hxq0, _⟩ := HX.out.xb
    have z2 : wz.cell? ⟨gx, 2, none⟩ = some (.slice aq0 acc.length cq0) := cell_block hxq0 2
    clear hxq0
    
    have hll : (acc.length : Int) < 16 := by omega
    have hw16 : (16 : Int) - (acc.length : Int) ≤ 16 := by omega
    by_cases hin : 1 ≤ k ∧ k ≤ 16 - acc.length
    · by_cases hrep : 0 < acc.length ∧ v = last
      · obtain ⟨hr0, rfl⟩ := hrep
        have HB := Lib.hid (show runBad acc k v v from Or.inr (Or.inr ⟨hr0, rfl⟩))
        have hvb : (v == v) = true := by simp
        have hr1' : (0 : Int) < (acc.length : Int) := by omega
        go_wp2_with fail
        refine (in_yes (k : Int) 1 (16 - (acc.length : Int)) wz (by omega)).mono ?_
        rintro en w7 ⟨rfl, rfl⟩
        clear hin hw16 hll hl
        go_wp2_with fail
        go_meet
        exact ⟨true, rfl, Lib.hid ⟨fun _ => HB.out, fun _ => rfl⟩, (by first | rfl | trivial)⟩
      · have hnb : ¬ runBad acc k v last := by
          rintro (h | h | h)
          · omega
          · omega
          · exact hrep h
        have HB := Lib.hid hnb
        have hor : acc.length = 0 ∨ (0 < acc.length ∧ v ≠ last) := by
          by_cases h : 0 < acc.length
          · exact Or.inr ⟨h, fun e => hrep ⟨h, e⟩⟩
          · exact Or.inl (by omega)
        clear hrep hnb
        rcases hor with h0 | ⟨h0, hvl⟩
        · have hpos : ¬ (0 : Int) < (acc.length : Int) := by omega
          clear h0
          go_wp2_with fail
          refine (in_yes (k : Int) 1 (16 - (acc.length : Int)) wz (by omega)).mono ?_
          rintro en w7 ⟨rfl, rfl⟩
          clear hin hw16 hll hl
          go_wp2_with fail
          go_meet
          exact ⟨false, rfl, Lib.hid ⟨fun h => (by cases h), fun h => absurd h HB.out⟩, (by first | rfl | trivial)⟩
        · have hvb : (v == last) = false := by rw [beq_eq_false_iff_ne]; exact hvl
          have hpos : (0 : Int) < (acc.length : Int) := by omega
          clear hvl
          go_wp2_with fail
          refine (in_yes (k : Int) 1 (16 - (acc.length : Int)) wz (by omega)).mono ?_
          rintro en w7 ⟨rfl, rfl⟩
          clear hin hw16 hll hl
          go_wp2_with fail
          go_meet
          exact ⟨false, rfl, Lib.hid ⟨fun h => (by cases h), fun h => absurd h HB.out⟩, (by first | rfl | trivial)⟩
    · have HB := Lib.hid (show runBad acc k v last from by rcases (show k < 1 ∨ 16 - acc.length < k by omega) with h | h; exact Or.inl h; exact Or.inr (Or.inl h))
      go_wp2_with fail
      refine (in_no (k : Int) 1 (16 - (acc.length : Int)) wz (by omega)).mono ?_
      rintro en w7 ⟨rfl, rfl⟩
      clear hin hw16 hll hl
      go_wp2_with fail
      go_meet
      exact ⟨true, rfl, Lib.hid ⟨fun _ => HB.out, fun _ => rfl⟩, (by first | rfl | trivial)⟩

end Go.Proofs.YtiekilpddmdhnaaDoor
namespace Go.Proofs.YtiekilpddmdhnaaDoor
open Go Go.RowKit Go.ChangeShapes Go.WideShapes Go.Deep
set_option linter.unusedVariables false

set_option maxHeartbeats 8000000 in
set_option maxRecDepth 100000 in
theorem ev_rep {w : World} {g gx : Nat} {p : List UInt8} {ps : List (Ev × Value)} {a : Option Addr} {c : Nat} {X : Int} {acc : List Int} {rb : List UInt8} {k : Nat} {v : Int} {wz : World} {K : Act → World → Prop} {Q' : Exit → Act → World → Prop} {x0 x1 x2 x3 x5 x6 x7 x8 x9 x11 x14 x15 x16 x17 x18 x19 x20 x21 x22 x23 x24 x25 x26 x27 x28 x29 x30 x31 x32 x33 x34 x35 x36 x37 x38 x39 x40 x41 x42 x43 x44 x45 x46 x47 x48 x49 x50 x51 x52 x53 x54 x55 x56 x57 x58 x59 x60 x61 x62 x63 x64 x65 x66 x67 x68 x69 x70 x71 x72 x73 x74 x75 x76 x77 x78 x79 x80 x81 x82 x83 x84 x85 x86 x87 x88 x89 x90 x91 x92 x93 x94 x95 x96 x97 x98 x99 x100 x101 x102 x103 x104 x105 x106 x107 x108 x109 x110 x111 x112 x113 x114 x115 x116 x117 x118 x119 x120 x121 x122 x123 x124 x125 x126 x127 x128 x129 x130 x131 x132 x133 x134 x135 x136 x137 x138 x139 x140 x141 x142 x143 x144 x145 x146 x147 x148 x149 x150 x151 x152 x153 x154 x155 x156 x157 x158 x159 x160 x161 x162 x163 x164 x165 x166 x167 x168 x169 x170 x171 x172 x173 x174 x175 x176 x177 x178 x179 x180 x181 x182 x183 x184 x185 x186 x187 x188 : Value} (HX : Hid (TSt w g gx p ps a c X 2 acc rb 0 wz)) (hk : acc.length + k ≤ 16) (hK : ∀ (y86 y87 y88 y89 y90 y91 y92 y93 y94 y95 y96 y97 y98 y99 y100 y101 y102 y103 y104 y105 y106 y107 y108 y109 y110 y111 y112 y113 y114 y115 y116 y117 y118 y119 y120 y121 y122 y123 y124 y125 y126 y127 y128 y129 y130 y131 y132 y133 y134 y135 y136 y137 y138 y139 y140 y141 y142 y143 y144 : Value) (s12 : Value) (wx : World), (Hid (TSt w g gx p ps a c X 2 (accE acc k v 0) rb 0 wx)) → K ⟨List.toArray (x0 :: x1 :: x2 :: x3 :: .pointer (some ⟨g, 0, none⟩) :: x5 :: x6 :: x7 :: x8 :: x9 :: .pointer (some ⟨gx, 0, none⟩) :: x11 :: s12 :: .int .i64 v :: x14 :: x15 :: x16 :: x17 :: x18 :: x19 :: x20 :: x21 :: x22 :: x23 :: x24 :: x25 :: x26 :: x27 :: x28 :: x29 :: x30 :: x31 :: x32 :: x33 :: x34 :: x35 :: x36 :: x37 :: x38 :: x39 :: x40 :: x41 :: x42 :: x43 :: x44 :: x45 :: x46 :: x47 :: x48 :: x49 :: x50 :: x51 :: x52 :: x53 :: x54 :: x55 :: x56 :: x57 :: x58 :: x59 :: x60 :: x61 :: x62 :: x63 :: x64 :: x65 :: x66 :: x67 :: x68 :: x69 :: x70 :: x71 :: x72 :: x73 :: x74 :: x75 :: x76 :: x77 :: x78 :: x79 :: x80 :: x81 :: x82 :: x83 :: x84 :: x85 :: y86 :: y87 :: y88 :: y89 :: y90 :: y91 :: y92 :: y93 :: y94 :: y95 :: y96 :: y97 :: y98 :: y99 :: y100 :: y101 :: y102 :: y103 :: y104 :: y105 :: y106 :: y107 :: y108 :: y109 :: y110 :: y111 :: y112 :: y113 :: y114 :: y115 :: y116 :: y117 :: y118 :: y119 :: y120 :: y121 :: y122 :: y123 :: y124 :: y125 :: y126 :: y127 :: y128 :: y129 :: y130 :: y131 :: y132 :: y133 :: y134 :: y135 :: y136 :: y137 :: y138 :: y139 :: y140 :: y141 :: y142 :: y143 :: y144 :: x145 :: x146 :: x147 :: x148 :: x149 :: x150 :: x151 :: x152 :: x153 :: x154 :: x155 :: x156 :: x157 :: x158 :: x159 :: x160 :: x161 :: x162 :: x163 :: x164 :: x165 :: x166 :: x167 :: x168 :: x169 :: x170 :: x171 :: x172 :: x173 :: x174 :: x175 :: x176 :: x177 :: x178 :: x179 :: x180 :: x181 :: x182 :: x183 :: x184 :: x185 :: x186 :: x187 :: x188 :: []), []⟩ wx) : (c8 [1, 1, 1, 1, 1, 1, 1, 1, 1, 0, 1, 0, 0, 1, 0, 0, 1, 1, 1, 1, 1, 1, 1, 0, 0, 0, 1, 0, 1, 1, 1, 1, 0]).wp Tryd.prog (Exit.then K Q') ⟨List.toArray (x0 :: x1 :: x2 :: x3 :: .pointer (some ⟨g, 0, none⟩) :: x5 :: x6 :: x7 :: x8 :: x9 :: .pointer (some ⟨gx, 0, none⟩) :: x11 :: .int .i64 (k : Int) :: .int .i64 v :: x14 :: x15 :: x16 :: x17 :: x18 :: x19 :: x20 :: x21 :: x22 :: x23 :: x24 :: x25 :: x26 :: x27 :: x28 :: x29 :: x30 :: x31 :: x32 :: x33 :: x34 :: x35 :: x36 :: x37 :: x38 :: x39 :: x40 :: x41 :: x42 :: x43 :: x44 :: x45 :: x46 :: x47 :: x48 :: x49 :: x50 :: x51 :: x52 :: x53 :: x54 :: x55 :: x56 :: x57 :: x58 :: x59 :: x60 :: x61 :: x62 :: x63 :: x64 :: x65 :: x66 :: x67 :: x68 :: x69 :: x70 :: x71 :: x72 :: x73 :: x74 :: x75 :: x76 :: x77 :: x78 :: x79 :: x80 :: x81 :: x82 :: x83 :: x84 :: x85 :: x86 :: x87 :: x88 :: x89 :: x90 :: x91 :: x92 :: x93 :: x94 :: x95 :: x96 :: x97 :: x98 :: x99 :: x100 :: x101 :: x102 :: x103 :: x104 :: x105 :: x106 :: x107 :: x108 :: x109 :: x110 :: x111 :: x112 :: x113 :: x114 :: x115 :: x116 :: x117 :: x118 :: x119 :: x120 :: x121 :: x122 :: x123 :: x124 :: x125 :: x126 :: x127 :: x128 :: x129 :: x130 :: x131 :: x132 :: x133 :: x134 :: x135 :: x136 :: x137 :: x138 :: x139 :: x140 :: x141 :: x142 :: x143 :: x144 :: x145 :: x146 :: x147 :: x148 :: x149 :: x150 :: x151 :: x152 :: x153 :: x154 :: x155 :: x156 :: x157 :: x158 :: x159 :: x160 :: x161 :: x162 :: x163 :: x164 :: x165 :: x166 :: x167 :: x168 :: x169 :: x170 :: x171 :: x172 :: x173 :: x174 :: x175 :: x176 :: x177 :: x178 :: x179 :: x180 :: x181 :: x182 :: x183 :: x184 :: x185 :: x186 :: x187 :: x188 :: []), []⟩ wz := by
  have HK := Lib.hid hK
  clear hK
  conv => arg 2; whnf
  go_cut [12] from 86 to 144 (fun s12 wx => Hid (TSt w g gx p ps a c X 2 (accE acc k v 0) rb 0 wx))
  case rest =>
    exact HK.out _ _ _ _ _ _ _ _ _ _ _ _ _ _ _ _ _ _ _ _ _ _ _ _ _ _ _ _ _ _ _ _ _ _ _ _ _ _ _ _ _ _ _ _ _ _ _ _ _ _ _ _ _ _ _ _ _ _ _ _ _ hcut
  case first =>
    clear HK
    go_wp2_with fail
    go_loopg [12] k (fun gh s12 wq => ∃ j : Nat, j ≤ k ∧ gh = k - j ∧ s12 = .int .i64 ((k - j : Nat) : Int) ∧ Hid (TSt w g gx p ps a c X 2 (accE acc j v 0) rb 0 wq))
    case atStart => exact ⟨0, Nat.zero_le _, by omega, by simp, Lib.hid (by rw [accE_zero]; exact HX.out)⟩
    case round =>
      clear HX
      obtain ⟨j, hj, rfl, rfl, HX⟩ := hrel
      by_cases hjk : j < k
      · have hacl := accE_len acc j v 0
        have HM := Lib.hid (accE_more acc j v)
        generalize accE acc j v 0 = ac at *
        obtain ⟨y2, yf2, y0, y1, yf, l1, l2⟩ := HX.out.y
        obtain ⟨aq, cq, hxq, hoq⟩ := HX.out.xb
        have z2 : wr.cell? ⟨gx, 2, none⟩ = some (.slice aq ac.length cq) := cell_block hxq 2
        have HXQ := Lib.hid hxq
        have HOQ := Lib.hid hoq
        obtain ⟨q, hq⟩ : ∃ q : Nat, q = k - j := ⟨_, rfl⟩
        have hq1 : k - j = q := hq.symm
        have hq0 : (0 : Int) < (q : Int) := by omega
        have hac16 : ac.length ≤ 16 := by omega
        rw [hq1]
        have HQ1 := Lib.hid hq1
        have hq16 : q ≤ 16 := by omega
        clear hxq hoq hq hq1
        go_wp2_with (at_builtin; go_loud (refine wpList_push wr rfl (.tmp 139) (.tmp 141) 29 rfl (gx + 1) 3 (.int .i64 0) 1 8 Tryd.underlying29 info_int' rfl (by decide) [.int .i64 v] rfl (by simp [Value.oneCell']) _ _ _ (by rfl) HOQ.out (by rfl) rfl (by omega) (by omega) (by omega) ?_); intro g1 cp1 w1 hown1 hgrow1; have hx1 := block_grown hgrow1 HXQ.out (own_ne_block HOQ.out HXQ.out (by decide)); have z3 : w1.cell? ⟨gx, 2, none⟩ = some (.slice aq ac.length cq) := cell_block hx1 2; have fg1 := free_block hx1 2; have HN1 := Lib.hid hown1; have HG1 := Lib.hid hgrow1; clear hx1 hown1 hgrow1)
        have hps := HX.out.row HG1.out (fun k hk => by have := (HOQ.out.lt k hk).1; omega) (acc2 := ac ++ [v]) (n2 := ac.length + 1) (by simp) (by rw [List.map_append]; exact HN1.out)
        rw [HM.out] at hps
        go_roundg (k - (j + 1))
        case measure => have := HQ1.out; omega
        case rel => exact ⟨j + 1, by omega, rfl, by rw [show k - (j + 1) = q - 1 by have := HQ1.out; omega]; go_num, Lib.hid hps⟩
      · obtain rfl : j = k := by omega
        have hq0 : ((j - j : Nat) : Int) = 0 := by omega
        rw [hq0]
        go_wp2
        go_meet
        exact HX

end Go.Proofs.YtiekilpddmdhnaaDoor
namespace Go.Proofs.YtiekilpddmdhnaaDoor
open Go Go.RowKit Go.ChangeShapes Go.WideShapes Go.Deep
set_option linter.unusedVariables false

set_option maxHeartbeats 8000000 in
set_option maxRecDepth 100000 in
theorem ev_blk {w : World} {g gx : Nat} {p : List UInt8} {ps : List (Ev × Value)} {a : Option Addr} {c : Nat} {X m4 : Int} {acc6 : List Int} {r6 : List UInt8} {e6 : Int} {wz : World} {K : Act → World → Prop} {Q' : Exit → Act → World → Prop} {x0 x1 x2 x3 x5 x6 x7 x8 x9 x12 x13 x14 x15 x16 x17 x18 x19 x20 x21 x22 x23 x24 x25 x26 x27 x28 x29 x30 x31 x32 x33 x34 x35 x36 x37 x38 x39 x40 x41 x42 x43 x44 x45 x46 x47 x48 x49 x50 x51 x52 x53 x54 x55 x56 x57 x58 x59 x60 x61 x62 x63 x64 x65 x66 x67 x68 x69 x70 x71 x72 x73 x74 x75 x76 x77 x78 x79 x80 x81 x82 x83 x84 x85 x86 x87 x88 x89 x90 x91 x92 x93 x94 x95 x96 x97 x98 x99 x100 x101 x102 x103 x104 x105 x106 x107 x108 x109 x110 x111 x112 x113 x114 x115 x116 x117 x118 x119 x120 x121 x122 x123 x124 x125 x126 x127 x128 x129 x130 x131 x132 x133 x134 x135 x136 x137 x138 x139 x140 x141 x142 x143 x144 x145 x146 x147 x148 x149 x150 x151 x152 x153 x154 x155 x156 x157 x158 x159 x160 x161 x162 x163 x164 x165 x166 x167 x168 x169 x170 x171 x172 x173 x174 x175 x176 x177 x178 x179 x180 x181 x182 x183 x184 x185 x186 x187 x188 : Value} (HX : Hid (TSt w g gx p ps a c X m4 acc6 r6 e6 wz)) (h6 : m4 = 2 → acc6 = [] ∧ e6 = 0) (hK : ∀ (y45 y46 y47 y48 y49 y50 y51 y52 y53 y54 y55 y56 y57 y58 y59 y60 y61 y62 y63 y64 y65 y66 y67 y68 y69 y70 y71 y72 y73 y74 y75 y76 y77 y78 y79 y80 y81 y82 y83 y84 y85 y86 y87 y88 y89 y90 y91 y92 y93 y94 y95 y96 y97 y98 y99 y100 y101 y102 y103 y104 y105 y106 y107 y108 y109 y110 y111 y112 y113 y114 y115 y116 y117 y118 y119 y120 y121 y122 y123 y124 y125 y126 y127 y128 y129 y130 y131 y132 y133 y134 y135 y136 y137 y138 y139 y140 y141 y142 y143 y144 y145 y146 y147 y148 : Value) (s11 s12 s13 : Value) (wx : World), (∃ (e7 : Int) (acc : List Int) (r7 : List UInt8), Hid (TSt w g gx p ps a c X m4 acc r7 e7 wx) ∧ Hid ((m4 = 2 ∧ (∀ z ∈ acc, I64 z) ∧ acc.length ≤ 16 ∧ ((e7 = 0 ∧ blkP 16 [] 0 r6 = (0, acc, r7)) ∨ (e7 ≠ 0 ∧ ∃ d, blkP 16 [] 0 r6 = (e7, d, r7)))) ∨ (m4 ≠ 2 ∧ acc = acc6 ∧ r7 = r6 ∧ e7 = e6))) → K ⟨List.toArray (x0 :: x1 :: x2 :: x3 :: .pointer (some ⟨g, 0, none⟩) :: x5 :: x6 :: x7 :: x8 :: x9 :: .pointer (some ⟨gx, 0, none⟩) :: s11 :: s12 :: s13 :: x14 :: x15 :: x16 :: x17 :: x18 :: x19 :: x20 :: x21 :: x22 :: x23 :: x24 :: x25 :: x26 :: x27 :: x28 :: x29 :: x30 :: x31 :: x32 :: x33 :: x34 :: x35 :: x36 :: x37 :: x38 :: x39 :: x40 :: x41 :: x42 :: x43 :: x44 :: y45 :: y46 :: y47 :: y48 :: y49 :: y50 :: y51 :: y52 :: y53 :: y54 :: y55 :: y56 :: y57 :: y58 :: y59 :: y60 :: y61 :: y62 :: y63 :: y64 :: y65 :: y66 :: y67 :: y68 :: y69 :: y70 :: y71 :: y72 :: y73 :: y74 :: y75 :: y76 :: y77 :: y78 :: y79 :: y80 :: y81 :: y82 :: y83 :: y84 :: y85 :: y86 :: y87 :: y88 :: y89 :: y90 :: y91 :: y92 :: y93 :: y94 :: y95 :: y96 :: y97 :: y98 :: y99 :: y100 :: y101 :: y102 :: y103 :: y104 :: y105 :: y106 :: y107 :: y108 :: y109 :: y110 :: y111 :: y112 :: y113 :: y114 :: y115 :: y116 :: y117 :: y118 :: y119 :: y120 :: y121 :: y122 :: y123 :: y124 :: y125 :: y126 :: y127 :: y128 :: y129 :: y130 :: y131 :: y132 :: y133 :: y134 :: y135 :: y136 :: y137 :: y138 :: y139 :: y140 :: y141 :: y142 :: y143 :: y144 :: y145 :: y146 :: y147 :: y148 :: x149 :: x150 :: x151 :: x152 :: x153 :: x154 :: x155 :: x156 :: x157 :: x158 :: x159 :: x160 :: x161 :: x162 :: x163 :: x164 :: x165 :: x166 :: x167 :: x168 :: x169 :: x170 :: x171 :: x172 :: x173 :: x174 :: x175 :: x176 :: x177 :: x178 :: x179 :: x180 :: x181 :: x182 :: x183 :: x184 :: x185 :: x186 :: x187 :: x188 :: []), []⟩ wx) : (c8 [1, 1, 1, 1, 1, 1, 1, 1, 1, 0, 1, 0, 0, 1, 0, 0, 1, 1, 1, 1, 1, 1, 1, 0]).wp Tryd.prog (Exit.then K Q') ⟨List.toArray (x0 :: x1 :: x2 :: x3 :: .pointer (some ⟨g, 0, none⟩) :: x5 :: x6 :: x7 :: x8 :: x9 :: .pointer (some ⟨gx, 0, none⟩) :: .int .i64 0 :: x12 :: x13 :: x14 :: x15 :: x16 :: x17 :: x18 :: x19 :: x20 :: x21 :: x22 :: x23 :: x24 :: x25 :: x26 :: x27 :: x28 :: x29 :: x30 :: x31 :: x32 :: x33 :: x34 :: x35 :: x36 :: x37 :: x38 :: x39 :: x40 :: x41 :: x42 :: x43 :: x44 :: x45 :: x46 :: x47 :: x48 :: x49 :: x50 :: x51 :: x52 :: x53 :: x54 :: x55 :: x56 :: x57 :: x58 :: x59 :: x60 :: x61 :: x62 :: x63 :: x64 :: x65 :: x66 :: x67 :: x68 :: x69 :: x70 :: x71 :: x72 :: x73 :: x74 :: x75 :: x76 :: x77 :: x78 :: x79 :: x80 :: x81 :: x82 :: x83 :: x84 :: x85 :: x86 :: x87 :: x88 :: x89 :: x90 :: x91 :: x92 :: x93 :: x94 :: x95 :: x96 :: x97 :: x98 :: x99 :: x100 :: x101 :: x102 :: x103 :: x104 :: x105 :: x106 :: x107 :: x108 :: x109 :: x110 :: x111 :: x112 :: x113 :: x114 :: x115 :: x116 :: x117 :: x118 :: x119 :: x120 :: x121 :: x122 :: x123 :: x124 :: x125 :: x126 :: x127 :: x128 :: x129 :: x130 :: x131 :: x132 :: x133 :: x134 :: x135 :: x136 :: x137 :: x138 :: x139 :: x140 :: x141 :: x142 :: x143 :: x144 :: x145 :: x146 :: x147 :: x148 :: x149 :: x150 :: x151 :: x152 :: x153 :: x154 :: x155 :: x156 :: x157 :: x158 :: x159 :: x160 :: x161 :: x162 :: x163 :: x164 :: x165 :: x166 :: x167 :: x168 :: x169 :: x170 :: x171 :: x172 :: x173 :: x174 :: x175 :: x176 :: x177 :: x178 :: x179 :: x180 :: x181 :: x182 :: x183 :: x184 :: x185 :: x186 :: x187 :: x188 :: []), []⟩ wz := by
  have HK := Lib.hid hK
  clear hK
  conv => arg 2; whnf
  go_cut [11, 12, 13] from 45 to 148 (fun s11 s12 s13 wx => ∃ (e7 : Int) (acc : List Int) (r7 : List UInt8), Hid (TSt w g gx p ps a c X m4 acc r7 e7 wx) ∧ Hid ((m4 = 2 ∧ (∀ z ∈ acc, I64 z) ∧ acc.length ≤ 16 ∧ ((e7 = 0 ∧ blkP 16 [] 0 r6 = (0, acc, r7)) ∨ (e7 ≠ 0 ∧ ∃ d, blkP 16 [] 0 r6 = (e7, d, r7)))) ∨ (m4 ≠ 2 ∧ acc = acc6 ∧ r7 = r6 ∧ e7 = e6)))
  case rest =>
    exact HK.out _ _ _ _ _ _ _ _ _ _ _ _ _ _ _ _ _ _ _ _ _ _ _ _ _ _ _ _ _ _ _ _ _ _ _ _ _ _ _ _ _ _ _ _ _ _ _ _ _ _ _ _ _ _ _ _ _ _ _ _ _ _ _ _ _ _ _ _ _ _ _ _ _ _ _ _ _ _ _ _ _ _ _ _ _ _ _ _ _ _ _ _ _ _ _ _ _ _ _ _ _ _ _ _ _ _ _ _ hcut
  case first =>
    clear HK
    by_cases h2 : m4 = 2
    · obtain ⟨rfl, rfl⟩ := h6 h2
      clear h6
      subst h2
      obtain ⟨y2, yf2, y0, y1, yf, l1, l2⟩ := HX.out.y
      obtain ⟨aq0, cq0, hxq0, _⟩ := HX.out.xb
      have z2 : wz.cell? ⟨gx, 2, none⟩ = some (.slice aq0 0 cq0) := cell_block hxq0 2
      clear hxq0
    
      go_wp2_with fail
      go_loopg [11, 12, 13] 16 (fun gh s11 s12 s13 wq => ∃ (f : Nat) (acc : List Int) (last : Int) (ct : List UInt8), gh = f + 0 ∧ s11 = .int .i64 last ∧ Hid (BlkIn r6 f acc last 0 ct) ∧ Hid (TSt w g gx p ps a c X 2 acc ct 0 wq))
      case atStart => exact ⟨16, [], 0, r6, rfl, rfl, Lib.hid (BlkIn.start r6), HX⟩
      case round =>
        clear HX y2 yf2 y0 y1 yf l1 l2 z2
        obtain ⟨f, acc, last, ct, hgf, rfl, HBI, HX⟩ := hrel
        rw [Nat.add_zero] at hgf
        have HGF := Lib.hid hgf
        clear hgf
        have hlen := HBI.out.len
        have HI64 := Lib.hid HBI.out.i64
        by_cases hl : acc.length < 16
        · have hlo := HBI.out.lo
          have hhi := HBI.out.hi
          have hfu := HBI.out.fuel rfl
          have hf16 := HBI.out.f16
          have hlast1 : -9007199254740992 ≤ last := by omega
          have hlast2 : last ≤ 9007199254740992 := by omega
          clear hlo hhi hfu
          obtain ⟨e3, k, ra, hn1⟩ : ∃ e3 k ra, numP 0 0 ct = (e3, k, ra) := ⟨_, _, _, rfl⟩
          obtain ⟨e4, z, rb, hz⟩ : ∃ e4 z rb, numE e3 ra = (e4, z, rb) := ⟨_, _, _, rfl⟩
          have hkk := numE_lt (e := 0) hn1
          have hzz := zag_lt (numE_lt hz)
          have HBS := Lib.hid (fun (e5 : Int) (h5 : RunE acc k (last + zag z) last e4 e5) => HBI.out.step hl hn1 hz h5)
          have HN1 := Lib.hid (fun (W : World) (hw : Tp w g p ct 0 W) => next_gen w g p ct W hw (e0 := 0) hn1)
          have HZ := Lib.hid (fun (W : World) (hw : Tp w g p ra e3 W) => zig_gen w g p ra W hw hz)
          clear hn1 hz HBI
          generalize zag z = zz at *
          obtain ⟨hz1, hz2⟩ := hzz
          have hll : (acc.length : Int) < 16 := by omega
          obtain ⟨y2, yf2, y0, y1, yf, l1, l2⟩ := HX.out.y
          obtain ⟨aq0, cq0, hxq0, _⟩ := HX.out.xb
          have z2 : wr.cell? ⟨gx, 2, none⟩ = some (.slice aq0 acc.length cq0) := cell_block hxq0 2
          clear hxq0
    
          go_upto_region 26 with fail
          go_wp2_with fail
          refine (HN1.out _ HX.out.tp).mono ?_
          rintro en w5 ⟨rfl, hr5, hg5⟩
          have HX := Lib.hid (HX.out.mv hr5 hg5)
          clear hr5 hg5
          clear y2 yf2 y0 y1 yf l1 l2 z2
          obtain ⟨y2, yf2, y0, y1, yf, l1, l2⟩ := HX.out.y
          obtain ⟨aq0, cq0, hxq0, _⟩ := HX.out.xb
          have z2 : w5.cell? ⟨gx, 2, none⟩ = some (.slice aq0 acc.length cq0) := cell_block hxq0 2
          clear hxq0
    
          go_wp2_with fail
          refine (HZ.out _ HX.out.tp).mono ?_
          rintro en w6 ⟨rfl, hr6, hg6⟩
          have HX := Lib.hid (HX.out.mv hr6 hg6)
          clear hr6 hg6
          clear y2 yf2 y0 y1 yf l1 l2 z2
          obtain ⟨y2, yf2, y0, y1, yf, l1, l2⟩ := HX.out.y
          obtain ⟨aq0, cq0, hxq0, _⟩ := HX.out.xb
          have z2 : w6.cell? ⟨gx, 2, none⟩ = some (.slice aq0 acc.length cq0) := cell_block hxq0 2
          clear hxq0
    
          have hvv1 : -9570149208162304 ≤ last + zz := by omega
          have hvv2 : last + zz ≤ 9570149208162304 := by omega
          go_upto_region 28 with fail
          generalize last + zz = v at *
          have HAC := Lib.hid (show (∀ z ∈ acc, I64 z) ∧ acc.length ≤ 16 from ⟨HI64.out, by omega⟩)
          by_cases he4 : e4 = 0
          · subst he4
            go_upto_region 29 with fail
            clear y2 yf2 y0 y1 yf l1 l2 z2
            refine ev_r29 HX hl hkk ?_
            intros
            rename_i s130 wc hcut
            obtain ⟨t, rfl, HT, rfl⟩ := hcut
            by_cases hb : runBad acc k v last
            · have htt : t = true := HT.out.2 hb
              subst htt
              have HE := Lib.hid (show RunE acc k v last 0 4 from Or.inr (Or.inl ⟨rfl, hb, rfl⟩))
              have HERR := Lib.hid (show (4 : Int) ≠ 0 ∧ ∃ d, blkP 16 [] 0 r6 = ((4 : Int), d, rb) from ⟨by decide, (HBS.out 4 HE.out).1.err (by decide)⟩)
              clear hb HT HE HBS
              obtain ⟨y2, yf2, y0, y1, yf, l1, l2⟩ := HX.out.y
              obtain ⟨aq0, cq0, hxq0, _⟩ := HX.out.xb
              have z2 : wc.cell? ⟨gx, 2, none⟩ = some (.slice aq0 acc.length cq0) := cell_block hxq0 2
              clear hxq0
    
              have HX := Lib.hid (HX.out.err 4)
              go_wp2_with fail
              go_meet
              exact ⟨4, acc, rb, HX, Lib.hid (Or.inl ⟨(by first | rfl | trivial), HAC.out.1, HAC.out.2, Or.inr HERR.out⟩)⟩
            · have htt : t = false := by cases t with
                | false => rfl
                | true => exact absurd (HT.out.1 rfl) hb
              subst htt
              have HE := Lib.hid (show RunE acc k v last 0 0 from Or.inr (Or.inr ⟨rfl, hb, rfl⟩))
              have hbs := HBS.out 0 HE.out
              have HBN := Lib.hid hbs.1
              have HF0 := Lib.hid hbs.2
              have hk16 : acc.length + k ≤ 16 := by
                rcases Nat.lt_or_ge (16 - acc.length) k with h | h
                · exact absurd (Or.inr (Or.inl h)) hb
                · omega
              clear hbs HBS hb HE HT
              go_upto_block 4 with fail
              refine ev_rep HX hk16 ?_
              intros
              rename_i s12 wq hcut
              clear HX
              have HX := Lib.hid hcut.out
              clear hcut
              go_wp2_with fail
              go_roundg (f - 1)
              case measure => have := HGF.out; have := HF0.out; omega
              case rel => exact ⟨f - 1, _, v, rb, rfl, rfl, HBN, HX⟩
          · have hen : (e4 != 0) = true := by rw [bne_iff_ne]; exact he4
            have HE := Lib.hid (show RunE acc k v last e4 e4 from Or.inl ⟨he4, rfl⟩)
            have HERR := Lib.hid (show (e4 : Int) ≠ 0 ∧ ∃ d, blkP 16 [] 0 r6 = ((e4 : Int), d, rb) from ⟨he4, (HBS.out e4 HE.out).1.err he4⟩)
            clear he4 HE HBS
            go_wp2_with fail
            go_meet
            exact ⟨e4, acc, rb, HX, Lib.hid (Or.inl ⟨(by first | rfl | trivial), HAC.out.1, HAC.out.2, Or.inr HERR.out⟩)⟩
        · have hl16 : acc.length = 16 := by omega
          have HFB := Lib.hid (HBI.out.fin hl)
          have hd : ¬ (acc.length : Int) < 16 := by omega
          have HAC := Lib.hid (show (∀ z ∈ acc, I64 z) ∧ acc.length ≤ 16 from ⟨HI64.out, by omega⟩)
          clear hl hl16
          obtain ⟨y2, yf2, y0, y1, yf, l1, l2⟩ := HX.out.y
          obtain ⟨aq0, cq0, hxq0, _⟩ := HX.out.xb
          have z2 : wr.cell? ⟨gx, 2, none⟩ = some (.slice aq0 acc.length cq0) := cell_block hxq0 2
          clear hxq0
    
          go_wp2_with fail
          go_meet
          exact ⟨0, acc, ct, HX, Lib.hid (Or.inl ⟨(by first | rfl | trivial), HAC.out.1, HAC.out.2, Or.inl ⟨rfl, HFB.out⟩⟩)⟩
    · have h2b : (m4 == 2) = false := by rw [beq_eq_false_iff_ne]; exact h2
      have HFIN := Lib.hid h2
      obtain ⟨y2, yf2, y0, y1, yf, l1, l2⟩ := HX.out.y
      obtain ⟨aq0, cq0, hxq0, _⟩ := HX.out.xb
      have z2 : wz.cell? ⟨gx, 2, none⟩ = some (.slice aq0 acc6.length cq0) := cell_block hxq0 2
      clear hxq0
    
      clear h2 h6
      go_wp2_with fail
      go_rounds 1
      all_goals go_meet
      all_goals exact ⟨e6, acc6, r6, HX, Lib.hid (Or.inr ⟨HFIN.out, rfl, rfl, rfl⟩)⟩

end Go.Proofs.YtiekilpddmdhnaaDoor
namespace Go.Proofs.YtiekilpddmdhnaaDoor
open Go Go.RowKit Go.ChangeShapes Go.WideShapes Go.Deep
set_option linter.unusedVariables false

set_option maxHeartbeats 8000000 in
set_option maxRecDepth 100000 in
theorem ev_k3 {w : World} {g gx : Nat} {p : List UInt8} {ps : List (Ev × Value)} {a : Option Addr} {c : Nat} {X m4 : Int} {r : List UInt8} {e5 : Int} {wz : World} {K : Act → World → Prop} {Q' : Exit → Act → World → Prop} {x0 x1 x2 x3 x5 x6 x7 x8 x9 x11 x12 x13 x14 x15 x16 x17 x18 x19 x20 x21 x22 x23 x24 x25 x26 x27 x28 x29 x30 x31 x32 x33 x34 x35 x36 x37 x38 x39 x40 x41 x42 x43 x44 x45 x46 x47 x48 x49 x50 x51 x52 x53 x54 x55 x56 x57 x58 x59 x60 x61 x62 x63 x64 x65 x66 x67 x68 x69 x70 x71 x72 x73 x74 x75 x76 x77 x78 x79 x80 x82 x83 x84 x85 x86 x87 x88 x89 x90 x91 x92 x93 x94 x95 x96 x97 x98 x99 x100 x101 x102 x103 x104 x105 x106 x107 x108 x109 x110 x111 x112 x113 x114 x115 x116 x117 x118 x119 x120 x121 x122 x123 x124 x125 x126 x127 x128 x129 x130 x131 x132 x133 x134 x135 x136 x137 x138 x139 x140 x141 x142 x143 x144 x145 x146 x147 x148 x149 x150 x151 x152 x153 x154 x155 x156 x157 x158 x159 x160 x161 x162 x163 x164 x165 x166 x167 x168 x169 x170 x171 x172 x173 x174 x175 x176 x177 x178 x179 x180 x181 x182 x183 x184 x185 x186 x187 x188 : Value} (HX : Hid (TSt w g gx p ps a c X m4 [] r e5 wz)) (h5 : m4 = 3 → e5 = 0) (hK : ∀ (y45 y46 y47 y48 y49 y50 y51 y52 y53 y54 y55 y56 y57 y58 y59 y60 y61 y62 y63 y64 y65 y66 y67 y68 y69 y70 y71 y72 y73 y74 y75 y76 y77 y78 y79 y80 y81 y82 y83 y84 y85 y86 y87 y88 y89 y90 y91 y92 y93 y94 y95 y96 y97 y98 y99 y100 y101 y102 y103 y104 y105 y106 y107 y108 y109 y110 y111 y112 y113 y114 y115 y116 y117 y118 y119 y120 y121 y122 y123 y124 y125 y126 y127 y128 y129 y130 y131 y132 y133 y134 y135 y136 y137 y138 y139 y140 y141 y142 y143 y144 y145 y146 y147 y148 : Value)  (wx : World), (∃ (e6 : Int) (acc : List Int) (r6 : List UInt8), Hid (TSt w g gx p ps a c X m4 acc r6 e6 wx) ∧ Hid ((m4 = 3 ∧ ∃ z, numP 0 0 r = (e6, z, r6) ∧ acc = [zag z]) ∨ (m4 ≠ 3 ∧ acc = [] ∧ r6 = r ∧ e6 = e5))) → K ⟨List.toArray (x0 :: x1 :: x2 :: x3 :: .pointer (some ⟨g, 0, none⟩) :: x5 :: x6 :: x7 :: x8 :: x9 :: .pointer (some ⟨gx, 0, none⟩) :: x11 :: x12 :: x13 :: x14 :: x15 :: x16 :: x17 :: x18 :: x19 :: x20 :: x21 :: x22 :: x23 :: x24 :: x25 :: x26 :: x27 :: x28 :: x29 :: x30 :: x31 :: x32 :: x33 :: x34 :: x35 :: x36 :: x37 :: x38 :: x39 :: x40 :: x41 :: x42 :: x43 :: x44 :: y45 :: y46 :: y47 :: y48 :: y49 :: y50 :: y51 :: y52 :: y53 :: y54 :: y55 :: y56 :: y57 :: y58 :: y59 :: y60 :: y61 :: y62 :: y63 :: y64 :: y65 :: y66 :: y67 :: y68 :: y69 :: y70 :: y71 :: y72 :: y73 :: y74 :: y75 :: y76 :: y77 :: y78 :: y79 :: y80 :: y81 :: y82 :: y83 :: y84 :: y85 :: y86 :: y87 :: y88 :: y89 :: y90 :: y91 :: y92 :: y93 :: y94 :: y95 :: y96 :: y97 :: y98 :: y99 :: y100 :: y101 :: y102 :: y103 :: y104 :: y105 :: y106 :: y107 :: y108 :: y109 :: y110 :: y111 :: y112 :: y113 :: y114 :: y115 :: y116 :: y117 :: y118 :: y119 :: y120 :: y121 :: y122 :: y123 :: y124 :: y125 :: y126 :: y127 :: y128 :: y129 :: y130 :: y131 :: y132 :: y133 :: y134 :: y135 :: y136 :: y137 :: y138 :: y139 :: y140 :: y141 :: y142 :: y143 :: y144 :: y145 :: y146 :: y147 :: y148 :: x149 :: x150 :: x151 :: x152 :: x153 :: x154 :: x155 :: x156 :: x157 :: x158 :: x159 :: x160 :: x161 :: x162 :: x163 :: x164 :: x165 :: x166 :: x167 :: x168 :: x169 :: x170 :: x171 :: x172 :: x173 :: x174 :: x175 :: x176 :: x177 :: x178 :: x179 :: x180 :: x181 :: x182 :: x183 :: x184 :: x185 :: x186 :: x187 :: x188 :: []), []⟩ wx) : (c8 [1, 1, 1, 1, 1, 1, 1, 1, 1, 0, 1, 0, 0, 1, 0, 0, 1, 1, 1, 1, 1, 0, 1]).wp Tryd.prog (Exit.then K Q') ⟨List.toArray (x0 :: x1 :: x2 :: x3 :: .pointer (some ⟨g, 0, none⟩) :: x5 :: x6 :: x7 :: x8 :: x9 :: .pointer (some ⟨gx, 0, none⟩) :: x11 :: x12 :: x13 :: x14 :: x15 :: x16 :: x17 :: x18 :: x19 :: x20 :: x21 :: x22 :: x23 :: x24 :: x25 :: x26 :: x27 :: x28 :: x29 :: x30 :: x31 :: x32 :: x33 :: x34 :: x35 :: x36 :: x37 :: x38 :: x39 :: x40 :: x41 :: x42 :: x43 :: x44 :: x45 :: x46 :: x47 :: x48 :: x49 :: x50 :: x51 :: x52 :: x53 :: x54 :: x55 :: x56 :: x57 :: x58 :: x59 :: x60 :: x61 :: x62 :: x63 :: x64 :: x65 :: x66 :: x67 :: x68 :: x69 :: x70 :: x71 :: x72 :: x73 :: x74 :: x75 :: x76 :: x77 :: x78 :: x79 :: x80 :: .bool (m4 == 3) :: x82 :: x83 :: x84 :: x85 :: x86 :: x87 :: x88 :: x89 :: x90 :: x91 :: x92 :: x93 :: x94 :: x95 :: x96 :: x97 :: x98 :: x99 :: x100 :: x101 :: x102 :: x103 :: x104 :: x105 :: x106 :: x107 :: x108 :: x109 :: x110 :: x111 :: x112 :: x113 :: x114 :: x115 :: x116 :: x117 :: x118 :: x119 :: x120 :: x121 :: x122 :: x123 :: x124 :: x125 :: x126 :: x127 :: x128 :: x129 :: x130 :: x131 :: x132 :: x133 :: x134 :: x135 :: x136 :: x137 :: x138 :: x139 :: x140 :: x141 :: x142 :: x143 :: x144 :: x145 :: x146 :: x147 :: x148 :: x149 :: x150 :: x151 :: x152 :: x153 :: x154 :: x155 :: x156 :: x157 :: x158 :: x159 :: x160 :: x161 :: x162 :: x163 :: x164 :: x165 :: x166 :: x167 :: x168 :: x169 :: x170 :: x171 :: x172 :: x173 :: x174 :: x175 :: x176 :: x177 :: x178 :: x179 :: x180 :: x181 :: x182 :: x183 :: x184 :: x185 :: x186 :: x187 :: x188 :: []), []⟩ wz := by
  have HK := Lib.hid hK
  clear hK
  conv => arg 2; whnf
  go_cut [] from 45 to 148 (fun  wx => ∃ (e6 : Int) (acc : List Int) (r6 : List UInt8), Hid (TSt w g gx p ps a c X m4 acc r6 e6 wx) ∧ Hid ((m4 = 3 ∧ ∃ z, numP 0 0 r = (e6, z, r6) ∧ acc = [zag z]) ∨ (m4 ≠ 3 ∧ acc = [] ∧ r6 = r ∧ e6 = e5)))
  case rest =>
    exact HK.out _ _ _ _ _ _ _ _ _ _ _ _ _ _ _ _ _ _ _ _ _ _ _ _ _ _ _ _ _ _ _ _ _ _ _ _ _ _ _ _ _ _ _ _ _ _ _ _ _ _ _ _ _ _ _ _ _ _ _ _ _ _ _ _ _ _ _ _ _ _ _ _ _ _ _ _ _ _ _ _ _ _ _ _ _ _ _ _ _ _ _ _ _ _ _ _ _ _ _ _ _ _ _ _ _ hcut
  case first =>
    clear HK
    obtain ⟨y2, yf2, y0, y1, yf, l1, l2⟩ := HX.out.y
    obtain ⟨aq0, cq0, hxq0, _⟩ := HX.out.xb
    have z2 : wz.cell? ⟨gx, 2, none⟩ = some (.slice aq0 0 cq0) := cell_block hxq0 2
    clear hxq0
    
    by_cases h3 : m4 = 3
    · obtain rfl : e5 = 0 := h5 h3
      obtain ⟨e3, z, r3, hz3⟩ : ∃ e3 z r3, numP 0 0 r = (e3, z, r3) := ⟨_, _, _, rfl⟩
      have hzl := zag_lt (numE_lt (e := 0) hz3)
      have HZG := Lib.hid (fun (W : World) (hw : Tp w g p r 0 W) => zig_gen w g p r W hw (e0 := 0) hz3)
      have HZ3 := Lib.hid hz3
      have HZZ : Hid (zag z = zag z) := Lib.hid rfl
      obtain ⟨v, hv⟩ : ∃ v, v = zag z := ⟨_, rfl⟩
      rw [← hv] at HZG hzl
      have HV := Lib.hid hv
      obtain ⟨hv1, hv2⟩ := hzl
      clear hz3 hv h5 HZZ
      subst h3
      go_wp2_with fail
      refine (HZG.out _ HX.out.tp).mono ?_
      rintro en w5 ⟨rfl, hr5, hg5⟩
      have HX := Lib.hid (HX.out.mv hr5 hg5)
      clear hr5 hg5 y2 yf2 y0 y1 yf l1 l2 z2
      obtain ⟨y2, yf2, y0, y1, yf, l1, l2⟩ := HX.out.y
      obtain ⟨aq0, cq0, hxq0, _⟩ := HX.out.xb
      have z2 : w5.cell? ⟨gx, 2, none⟩ = some (.slice aq0 0 cq0) := cell_block hxq0 2
      clear hxq0
    
      go_wp2_with fail
      have HX := Lib.hid (HX.out.row (w' := w5.alloc (.cells #[.int .i64 v] 3)) (r := none) (World.grownBy_alloc _ _ none) (fun k h => by cases h) (acc2 := [v]) (g1 := w5.heap.size) (cap := 1) (n2 := 1) rfl (World.ownsRow_lit (base := gx + 1) (e := 3) (size := 1) w5 #[.int .i64 v] 1 (by omega) (by unfold maxLen; omega) rfl))
      rw [World.setCell_alloc_past _ _ _ _ l2] at HX
      go_meet
      exact ⟨e3, [v], r3, HX, Lib.hid (Or.inl ⟨by first | rfl | trivial, z, HZ3.out, by rw [HV.out]⟩)⟩
    · have hm4b : (m4 == 3) = false := by rw [beq_eq_false_iff_ne]; exact h3
      have HH := Lib.hid h3
      clear h3 h5
      go_wp2_with fail
      go_meet
      exact ⟨e5, [], r, HX, Lib.hid (Or.inr ⟨HH.out, rfl, rfl, rfl⟩)⟩

end Go.Proofs.YtiekilpddmdhnaaDoor
