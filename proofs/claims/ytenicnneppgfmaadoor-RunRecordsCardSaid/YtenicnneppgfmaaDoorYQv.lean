/- Several texts joined, each with its own heading in the notes: The document's look-ahead by two values. The document's step in place; a block is asked. No condition beyond those of each row. -/
import Derived.Test.YtenicnneppgfmaaDoorYQr
import Derived.Test.YtenicnneppgfmaaDoorYQt
import Derived.Test.YtenicnneppgfmaaDoorYSti
import Derived.Test.YtenicnneppgfmaaDoorYGc
import Derived.Test.YtenicnneppgfmaaDoorYSu
import Derived.Handy
import Derived.StillTailTactics
import Derived.Deep.RegionWith
import Derived.Deep.RegionLaw
import Derived.Deep.CutBlock
import Derived.Deep.CutRange
import Derived.Deep.RegionHeld3
import Derived.Deep.LoopGhost
namespace Go.Proofs.YtenicnneppgfmaaDoor
open Go Go.RowKit Go.ChangeShapes Go.WideShapes Go.Deep
set_option linter.unusedVariables false
attribute [local go_sem ↓] Go.wp_at_zero Go.wp_at_succ

/-- The guest's slices read as the guest. -/
theorem ZA.reads {w0 w : World} {D : Nat → Prop} {gr cr mb cm : Nat} {m : Mach} {ao : Option Addr} {co : Nat} (h : ZA w0 D gr cr mb cm m ao co w) (hok : MOk m) : Ints w.heap.size w (.slice (some ⟨gr, 0, none⟩) 8 cr) m.regs ∧ Ints w.heap.size w (.slice (some ⟨mb, 0, none⟩) 256 cm) m.mem ∧ Ints w.heap.size w (.slice ao m.out.length co) m.out :=
  ⟨ints_of_owns (by rw [hok.regs]; exact h.regs) (by rw [hok.regs]; omega) (fun z hz => (words_of hok.wr z hz).i64), ints_of_owns (by rw [hok.mem]; exact h.mem) (by rw [hok.mem]; omega) (fun z hz => (words_of hok.wm z hz).i64), ints_of_owns h.out (by have := hok.out; omega) (fun z hz => (words_of hok.wo z hz).i64)⟩
/-- A box whose first cell is a row of eight registers. -/
def LookS (xb : Nat) (zs : List Int) (w : World) : Prop := ∃ (gx cx : Nat) (cs : Array Value), w.heap[xb]? = some (.cells cs 30 (0, 0)) ∧ cs[0]? = some (.slice (some ⟨gx, 0, none⟩) 8 cx) ∧ w.ownsRow 0 3 1 (.slice (some ⟨gx, 0, none⟩) 8 cx) 8 (zs.map (Value.int .i64))
theorem LookS.below {xb : Nat} {zs : List Int} {w w' : World} (h : LookS xb zs w) (hb : Below w.heap.size w w') : LookS xb zs w' := by
  obtain ⟨gx, cx, cs, h1, h2, h3⟩ := h
  exact ⟨gx, cx, cs, block_below hb h1 (Array.getElem?_eq_some_iff.1 h1).1, h2, own_below h3 hb (Nat.le_refl _)⟩
theorem take_ne {xs ys : List Int} {i : Nat} (h : i < xs.length) (k : i < ys.length) : (xs.take (i + 1) != ys.take (i + 1)) = ((xs.take i != ys.take i) || (xs[i] != ys[i])) := by
  rw [List.take_add_one, List.take_add_one, List.getElem?_eq_getElem h, List.getElem?_eq_getElem k, Option.toList_some, Option.toList_some]
  rw [Bool.eq_iff_iff, Bool.or_eq_true, bne_iff_ne, bne_iff_ne, bne_iff_ne]
  constructor
  · intro q
    by_cases e : xs.take i = ys.take i
    · refine Or.inr (fun e2 => q ?_)
      rw [e, e2]
    · exact Or.inl e
  · intro q e
    have e2 := List.append_inj e (by simp; omega)
    rcases q with q | q
    · exact q e2.1
    · have := e2.2
      injection this with this
      exact q this

set_option maxHeartbeats 8000000 in
set_option maxRecDepth 100000 in
theorem rr_look1 {w0 wz : World} {gb gr cr mb cm : Nat} {m : Mach} {ps : List (Ev × Value)} {aa : Option Addr} {ca : Nat} {k : Int} {blk : List Int} {ak : Option Addr} {ck : Nat} {irq : Bool} {on : Mach × Int} {K : Act → World → Prop} {Q' : Exit → Act → World → Prop} {x0 x1 x2 x3 x4 x5 x6 x7 x8 x10 x12 x13 x14 x17 x19 x20 x21 x22 x23 x24 x25 x26 x27 x28 x29 x30 x31 x32 x33 x34 x35 x36 x37 x38 x39 x40 x41 x42 x43 x44 x45 x46 x47 x48 x49 x50 x51 x52 x53 x54 x55 x56 x57 x58 x59 x60 x61 x62 x63 x64 x65 x66 x67 x68 x69 x70 x71 x72 x73 x74 x75 x76 x77 x78 x79 x80 x81 x82 x83 x84 x85 x86 x87 x88 x89 x90 x91 x92 x93 x94 x95 x96 x97 x98 x99 x100 x101 x102 x103 x104 x105 x106 x107 x108 x109 x110 x111 x112 x113 x114 x115 x116 x117 x118 x119 x120 x121 x122 x123 x124 x125 x126 x127 x128 x129 x130 x131 x132 x133 x134 x135 x136 x137 x138 x139 x140 x141 x142 x143 x144 x145 x146 x147 x148 x149 x150 x151 x152 x153 x154 x155 x156 x157 x158 x159 x160 x161 x162 x163 x164 x165 x166 x167 x168 x169 x170 x171 x172 x173 x174 x175 x176 x177 x178 x179 x180 x181 x182 x183 x184 x185 x186 x187 x188 x189 x190 x191 x192 x193 x194 x195 x196 x197 x198 x199 x200 x201 x202 x203 x204 x205 x206 x207 x208 x209 x210 x211 x212 x213 x214 x215 : Value} (HD : Hid (DrB w0 gb gr cr mb cm m ps aa ca blk ak ck wz)) (HOK : Hid (MOk m)) (HCT : Hid (m.count < 1099511627776)) (HBL : Hid ((blk.length = 0 ∨ blk.length = 16) ∧ ∀ z ∈ blk, WordZ z)) (HON : Hid (stepM m irq blk 1 = on)) (hK : ∀ (y49 y50 y51 y52 y53 y54 y55 y56 y57 y58 y59 y60 y61 y62 y63 y64 y65 y66 y67 y68 y69 y70 y71 y72 y73 y74 y75 y76 y77 y78 y79 y80 y81 y82 y83 y84 y85 y86 y87 y88 y89 y90 y91 y92 y93 y94 y95 y96 y97 y98 y99 y100 y101 y102 y103 y104 y105 y106 y107 y108 y109 y110 y111 y112 y113 y114 y115 y116 y117 y118 y119 y120 y121 y122 y123 y124 y125 y126 y127 y128 y129 y130 y131 y132 y133 y134 y135 y136 y137 y138 y139 y140 y141 y142 y143 y144 y145 y146 y147 y148 y149 y150 y151 y152 y153 y154 y155 y156 y157 y158 y159 y160 y161 y162 y163 y164 y165 y166 y167 y168 y169 y170 y171 y172 y173 y174 y175 y176 y177 y178 y179 y180 y181 y182 y183 y184 y185 y186 y187 y188 y189 y190 y191 y192 y193 y194 y195 y196 y197 y198 : Value) (s19 s20 : Value) (wx : World), (∃ xb, s19 = .pointer (some ⟨xb, 0, none⟩) ∧ Hid (Below wz.heap.size wz wx) ∧ Hid (LookS xb on.1.regs wx)) → K ⟨List.toArray (x0 :: x1 :: x2 :: x3 :: x4 :: x5 :: x6 :: x7 :: x8 :: .pointer (some ⟨gb, 0, none⟩) :: x10 :: .slice aa ps.length ca :: x12 :: x13 :: x14 :: .int .i64 k :: .bool irq :: x17 :: .slice ak blk.length ck :: s19 :: s20 :: x21 :: x22 :: x23 :: x24 :: x25 :: x26 :: x27 :: x28 :: x29 :: x30 :: x31 :: x32 :: x33 :: x34 :: x35 :: x36 :: x37 :: x38 :: x39 :: x40 :: x41 :: x42 :: x43 :: x44 :: x45 :: x46 :: x47 :: x48 :: y49 :: y50 :: y51 :: y52 :: y53 :: y54 :: y55 :: y56 :: y57 :: y58 :: y59 :: y60 :: y61 :: y62 :: y63 :: y64 :: y65 :: y66 :: y67 :: y68 :: y69 :: y70 :: y71 :: y72 :: y73 :: y74 :: y75 :: y76 :: y77 :: y78 :: y79 :: y80 :: y81 :: y82 :: y83 :: y84 :: y85 :: y86 :: y87 :: y88 :: y89 :: y90 :: y91 :: y92 :: y93 :: y94 :: y95 :: y96 :: y97 :: y98 :: y99 :: y100 :: y101 :: y102 :: y103 :: y104 :: y105 :: y106 :: y107 :: y108 :: y109 :: y110 :: y111 :: y112 :: y113 :: y114 :: y115 :: y116 :: y117 :: y118 :: y119 :: y120 :: y121 :: y122 :: y123 :: y124 :: y125 :: y126 :: y127 :: y128 :: y129 :: y130 :: y131 :: y132 :: y133 :: y134 :: y135 :: y136 :: y137 :: y138 :: y139 :: y140 :: y141 :: y142 :: y143 :: y144 :: y145 :: y146 :: y147 :: y148 :: y149 :: y150 :: y151 :: y152 :: y153 :: y154 :: y155 :: y156 :: y157 :: y158 :: y159 :: y160 :: y161 :: y162 :: y163 :: y164 :: y165 :: y166 :: y167 :: y168 :: y169 :: y170 :: y171 :: y172 :: y173 :: y174 :: y175 :: y176 :: y177 :: y178 :: y179 :: y180 :: y181 :: y182 :: y183 :: y184 :: y185 :: y186 :: y187 :: y188 :: y189 :: y190 :: y191 :: y192 :: y193 :: y194 :: y195 :: y196 :: y197 :: y198 :: x199 :: x200 :: x201 :: x202 :: x203 :: x204 :: x205 :: x206 :: x207 :: x208 :: x209 :: x210 :: x211 :: x212 :: x213 :: x214 :: x215 :: []), []⟩ wx) : (c13 [1, 1, 1, 1, 1, 1, 1, 1, 1, 0, 1, 0, 0, 1, 0, 0, 1, 1, 1, 1, 1, 0]).wp Tryd.prog (Exit.then K Q') ⟨List.toArray (x0 :: x1 :: x2 :: x3 :: x4 :: x5 :: x6 :: x7 :: x8 :: .pointer (some ⟨gb, 0, none⟩) :: x10 :: .slice aa ps.length ca :: x12 :: x13 :: x14 :: .int .i64 k :: .bool irq :: x17 :: .slice ak blk.length ck :: x19 :: x20 :: x21 :: x22 :: x23 :: x24 :: x25 :: x26 :: x27 :: x28 :: x29 :: x30 :: x31 :: x32 :: x33 :: x34 :: x35 :: x36 :: x37 :: x38 :: x39 :: x40 :: x41 :: x42 :: x43 :: x44 :: x45 :: x46 :: x47 :: x48 :: x49 :: x50 :: x51 :: x52 :: x53 :: x54 :: x55 :: x56 :: x57 :: x58 :: x59 :: x60 :: x61 :: x62 :: x63 :: x64 :: x65 :: x66 :: x67 :: x68 :: x69 :: x70 :: x71 :: x72 :: x73 :: x74 :: x75 :: x76 :: x77 :: x78 :: x79 :: x80 :: x81 :: x82 :: x83 :: x84 :: x85 :: x86 :: x87 :: x88 :: x89 :: x90 :: x91 :: x92 :: x93 :: x94 :: x95 :: x96 :: x97 :: x98 :: x99 :: x100 :: x101 :: x102 :: x103 :: x104 :: x105 :: x106 :: x107 :: x108 :: x109 :: x110 :: x111 :: x112 :: x113 :: x114 :: x115 :: x116 :: x117 :: x118 :: x119 :: x120 :: x121 :: x122 :: x123 :: x124 :: x125 :: x126 :: x127 :: x128 :: x129 :: x130 :: x131 :: x132 :: x133 :: x134 :: x135 :: x136 :: x137 :: x138 :: x139 :: x140 :: x141 :: x142 :: x143 :: x144 :: x145 :: x146 :: x147 :: x148 :: x149 :: x150 :: x151 :: x152 :: x153 :: x154 :: x155 :: x156 :: x157 :: x158 :: x159 :: x160 :: x161 :: x162 :: x163 :: x164 :: x165 :: x166 :: x167 :: x168 :: x169 :: x170 :: x171 :: x172 :: x173 :: x174 :: x175 :: x176 :: x177 :: x178 :: x179 :: x180 :: x181 :: x182 :: x183 :: x184 :: x185 :: x186 :: x187 :: x188 :: x189 :: x190 :: x191 :: x192 :: x193 :: x194 :: x195 :: x196 :: x197 :: x198 :: x199 :: x200 :: x201 :: x202 :: x203 :: x204 :: x205 :: x206 :: x207 :: x208 :: x209 :: x210 :: x211 :: x212 :: x213 :: x214 :: x215 :: []), []⟩ wz := by
  have HK := Lib.hid hK
  clear hK
  conv => arg 2; whnf
  go_cut [19, 20] from 49 to 198 (fun s19 s20 wx => ∃ xb, s19 = .pointer (some ⟨xb, 0, none⟩) ∧ Hid (Below wz.heap.size wz wx) ∧ Hid (LookS xb on.1.regs wx))
  case rest =>
    exact HK.out _ _ _ _ _ _ _ _ _ _ _ _ _ _ _ _ _ _ _ _ _ _ _ _ _ _ _ _ _ _ _ _ _ _ _ _ _ _ _ _ _ _ _ _ _ _ _ _ _ _ _ _ _ _ _ _ _ _ _ _ _ _ _ _ _ _ _ _ _ _ _ _ _ _ _ _ _ _ _ _ _ _ _ _ _ _ _ _ _ _ _ _ _ _ _ _ _ _ _ _ _ _ _ _ _ _ _ _ _ _ _ _ _ _ _ _ _ _ _ _ _ _ _ _ _ _ _ _ _ _ _ _ _ _ _ _ _ _ _ _ _ _ _ _ _ _ _ _ _ _ _ _ _ hcut
  case first =>
    clear HK
    obtain ⟨ao, co, hs, hrow, hap⟩ := HD.out
    have HBX := Lib.hid hs.box
    have HRW := Lib.hid hrow
    have hreads := hs.za.reads HOK.out
    have HCP := Lib.hid (gcopy_any m (some ⟨gr, 0, none⟩) (some ⟨mb, 0, none⟩) ao cr cm co wz (by rw [HOK.out.regs]; exact hreads.1) (by rw [HOK.out.mem]; exact hreads.2.1) hreads.2.2)
    rw [HOK.out.regs, HOK.out.mem] at HCP
    have p0 : wz.cell? ⟨gb, 0, none⟩ = some (.slice (some ⟨gr, 0, none⟩) 8 cr) := cell_block HBX.out 0
    have p1 : wz.cell? ⟨gb, 1, none⟩ = some (.int .i64 m.pc) := cell_block HBX.out 1
    have p2 : wz.cell? ⟨gb, 2, none⟩ = some (.int .i64 m.back) := cell_block HBX.out 2
    have p3 : wz.cell? ⟨gb, 3, none⟩ = some (.bool m.ints) := cell_block HBX.out 3
    have p4 : wz.cell? ⟨gb, 4, none⟩ = some (.bool m.wait) := cell_block HBX.out 4
    have p5 : wz.cell? ⟨gb, 5, none⟩ = some (.int .i64 m.table) := cell_block HBX.out 5
    have p6 : wz.cell? ⟨gb, 6, none⟩ = some (.int .i64 m.count) := cell_block HBX.out 6
    have p7 : wz.cell? ⟨gb, 7, none⟩ = some (.int .i64 m.fin) := cell_block HBX.out 7
    have p8 : wz.cell? ⟨gb, 8, none⟩ = some (.slice (some ⟨mb, 0, none⟩) 256 cm) := cell_block HBX.out 8
    have p9 : wz.cell? ⟨gb, 9, none⟩ = some (.slice ao m.out.length co) := cell_block HBX.out 9
    have p10 : wz.cell? ⟨gb, 10, none⟩ = some (.int .i64 m.ready) := cell_block HBX.out 10
    have p11 : wz.cell? ⟨gb, 11, none⟩ = some (.int .i64 m.want) := cell_block HBX.out 11
    have lgb : gb < wz.heap.size := (Array.getElem?_eq_some_iff.1 HBX.out).1
    clear hs hrow hap hreads
    go_wp2_with fail
    refine HCP.out.mono ?_
    rintro e w2 ⟨ar2, cr2, am2, cm2, ao2, co2, rfl, hown, hb2⟩
    rw [Mach.agg]
    have h8 := HOK.out.regs
    have h256 := HOK.out.mem
    obtain ⟨gx, mx, rfl, rfl, hza⟩ := za_start HOK.out hown hb2
    rw [h8, h256]
    have HST := Lib.hid (stepped_any m wz (fun _ => False) gx cr2 mx cm2 ao2 co2 irq ak blk ck 1 w2 hza HOK.out HCT.out HBL.out.1 HBL.out.2 (by unfold WordZ; omega) (fun w' ho => ints_of_owns (own_below HRW.out (ho.below (B := wz.heap.size) (fun g q => q.elim) (Nat.le_refl _)) (Nat.le_refl _)) (by have := HBL.out.1; omega) (fun z hz => (HBL.out.2 z hz).i64)))
    rw [HON.out] at HST
    clear hown hb2 h8 h256 hza HCP lgb p0 p1 p2 p3 p4 p5 p6 p7 p8 p9 p10 p11
    go_wp2_with fail
    refine HST.out.mono ?_
    rintro e w5 ⟨ao5, co5, rfl, hz5⟩
    have HB5 := Lib.hid (hz5.old.below (B := wz.heap.size) (fun g q => q.elim) (Nat.le_refl _))
    have HR5 := Lib.hid hz5.regs
    have hsz5 := hz5.old.size
    clear hz5 HST
    go_wp2_with fail
    go_meet
    exact ⟨_, rfl, Lib.hid (HB5.out.alloc hsz5 _), Lib.hid ⟨gx, cr2, _, alloc_at rfl, rfl, own_below HR5.out (below_alloc _ _) (Nat.le_refl _)⟩⟩

set_option maxHeartbeats 8000000 in
set_option maxRecDepth 100000 in
theorem rr_look2 {w0 wz : World} {gb gr cr mb cm : Nat} {m : Mach} {ps : List (Ev × Value)} {aa : Option Addr} {ca : Nat} {k : Int} {blk : List Int} {ak : Option Addr} {ck : Nat} {irq : Bool} {on : Mach × Int} {K : Act → World → Prop} {Q' : Exit → Act → World → Prop} {x0 x1 x2 x3 x4 x5 x6 x7 x8 x10 x12 x13 x14 x17 x19 x20 x21 x22 x23 x24 x25 x26 x27 x28 x29 x30 x31 x32 x33 x34 x35 x36 x37 x38 x39 x40 x41 x42 x43 x44 x45 x46 x47 x48 x49 x50 x51 x52 x53 x54 x55 x56 x57 x58 x59 x60 x61 x62 x63 x64 x65 x66 x67 x68 x69 x70 x71 x72 x73 x74 x75 x76 x77 x78 x79 x80 x81 x82 x83 x84 x85 x86 x87 x88 x89 x90 x91 x92 x93 x94 x95 x96 x97 x98 x99 x100 x101 x102 x103 x104 x105 x106 x107 x108 x109 x110 x111 x112 x113 x114 x115 x116 x117 x118 x119 x120 x121 x122 x123 x124 x125 x126 x127 x128 x129 x130 x131 x132 x133 x134 x135 x136 x137 x138 x139 x140 x141 x142 x143 x144 x145 x146 x147 x148 x149 x150 x151 x152 x153 x154 x155 x156 x157 x158 x159 x160 x161 x162 x163 x164 x165 x166 x167 x168 x169 x170 x171 x172 x173 x174 x175 x176 x177 x178 x179 x180 x181 x182 x183 x184 x185 x186 x187 x188 x189 x190 x191 x192 x193 x194 x195 x196 x197 x198 x199 x200 x201 x202 x203 x204 x205 x206 x207 x208 x209 x210 x211 x212 x213 x214 x215 : Value} (HD : Hid (DrB w0 gb gr cr mb cm m ps aa ca blk ak ck wz)) (HOK : Hid (MOk m)) (HCT : Hid (m.count < 1099511627776)) (HBL : Hid ((blk.length = 0 ∨ blk.length = 16) ∧ ∀ z ∈ blk, WordZ z)) (HON : Hid (stepM m irq blk 2 = on)) (hK : ∀ (y49 y50 y51 y52 y53 y54 y55 y56 y57 y58 y59 y60 y61 y62 y63 y64 y65 y66 y67 y68 y69 y70 y71 y72 y73 y74 y75 y76 y77 y78 y79 y80 y81 y82 y83 y84 y85 y86 y87 y88 y89 y90 y91 y92 y93 y94 y95 y96 y97 y98 y99 y100 y101 y102 y103 y104 y105 y106 y107 y108 y109 y110 y111 y112 y113 y114 y115 y116 y117 y118 y119 y120 y121 y122 y123 y124 y125 y126 y127 y128 y129 y130 y131 y132 y133 y134 y135 y136 y137 y138 y139 y140 y141 y142 y143 y144 y145 y146 y147 y148 y149 y150 y151 y152 y153 y154 y155 y156 y157 y158 y159 y160 y161 y162 y163 y164 y165 y166 y167 y168 y169 y170 y171 y172 y173 y174 y175 y176 y177 y178 y179 y180 y181 y182 y183 y184 y185 y186 y187 y188 y189 y190 y191 y192 y193 y194 y195 y196 y197 y198 : Value) (s21 s22 : Value) (wx : World), (∃ xb, s21 = .pointer (some ⟨xb, 0, none⟩) ∧ Hid (Below wz.heap.size wz wx) ∧ Hid (LookS xb on.1.regs wx)) → K ⟨List.toArray (x0 :: x1 :: x2 :: x3 :: x4 :: x5 :: x6 :: x7 :: x8 :: .pointer (some ⟨gb, 0, none⟩) :: x10 :: .slice aa ps.length ca :: x12 :: x13 :: x14 :: .int .i64 k :: .bool irq :: x17 :: .slice ak blk.length ck :: x19 :: x20 :: s21 :: s22 :: x23 :: x24 :: x25 :: x26 :: x27 :: x28 :: x29 :: x30 :: x31 :: x32 :: x33 :: x34 :: x35 :: x36 :: x37 :: x38 :: x39 :: x40 :: x41 :: x42 :: x43 :: x44 :: x45 :: x46 :: x47 :: x48 :: y49 :: y50 :: y51 :: y52 :: y53 :: y54 :: y55 :: y56 :: y57 :: y58 :: y59 :: y60 :: y61 :: y62 :: y63 :: y64 :: y65 :: y66 :: y67 :: y68 :: y69 :: y70 :: y71 :: y72 :: y73 :: y74 :: y75 :: y76 :: y77 :: y78 :: y79 :: y80 :: y81 :: y82 :: y83 :: y84 :: y85 :: y86 :: y87 :: y88 :: y89 :: y90 :: y91 :: y92 :: y93 :: y94 :: y95 :: y96 :: y97 :: y98 :: y99 :: y100 :: y101 :: y102 :: y103 :: y104 :: y105 :: y106 :: y107 :: y108 :: y109 :: y110 :: y111 :: y112 :: y113 :: y114 :: y115 :: y116 :: y117 :: y118 :: y119 :: y120 :: y121 :: y122 :: y123 :: y124 :: y125 :: y126 :: y127 :: y128 :: y129 :: y130 :: y131 :: y132 :: y133 :: y134 :: y135 :: y136 :: y137 :: y138 :: y139 :: y140 :: y141 :: y142 :: y143 :: y144 :: y145 :: y146 :: y147 :: y148 :: y149 :: y150 :: y151 :: y152 :: y153 :: y154 :: y155 :: y156 :: y157 :: y158 :: y159 :: y160 :: y161 :: y162 :: y163 :: y164 :: y165 :: y166 :: y167 :: y168 :: y169 :: y170 :: y171 :: y172 :: y173 :: y174 :: y175 :: y176 :: y177 :: y178 :: y179 :: y180 :: y181 :: y182 :: y183 :: y184 :: y185 :: y186 :: y187 :: y188 :: y189 :: y190 :: y191 :: y192 :: y193 :: y194 :: y195 :: y196 :: y197 :: y198 :: x199 :: x200 :: x201 :: x202 :: x203 :: x204 :: x205 :: x206 :: x207 :: x208 :: x209 :: x210 :: x211 :: x212 :: x213 :: x214 :: x215 :: []), []⟩ wx) : (c13 [1, 1, 1, 1, 1, 1, 1, 1, 1, 0, 1, 0, 0, 1, 0, 0, 1, 1, 1, 1, 1, 1, 0]).wp Tryd.prog (Exit.then K Q') ⟨List.toArray (x0 :: x1 :: x2 :: x3 :: x4 :: x5 :: x6 :: x7 :: x8 :: .pointer (some ⟨gb, 0, none⟩) :: x10 :: .slice aa ps.length ca :: x12 :: x13 :: x14 :: .int .i64 k :: .bool irq :: x17 :: .slice ak blk.length ck :: x19 :: x20 :: x21 :: x22 :: x23 :: x24 :: x25 :: x26 :: x27 :: x28 :: x29 :: x30 :: x31 :: x32 :: x33 :: x34 :: x35 :: x36 :: x37 :: x38 :: x39 :: x40 :: x41 :: x42 :: x43 :: x44 :: x45 :: x46 :: x47 :: x48 :: x49 :: x50 :: x51 :: x52 :: x53 :: x54 :: x55 :: x56 :: x57 :: x58 :: x59 :: x60 :: x61 :: x62 :: x63 :: x64 :: x65 :: x66 :: x67 :: x68 :: x69 :: x70 :: x71 :: x72 :: x73 :: x74 :: x75 :: x76 :: x77 :: x78 :: x79 :: x80 :: x81 :: x82 :: x83 :: x84 :: x85 :: x86 :: x87 :: x88 :: x89 :: x90 :: x91 :: x92 :: x93 :: x94 :: x95 :: x96 :: x97 :: x98 :: x99 :: x100 :: x101 :: x102 :: x103 :: x104 :: x105 :: x106 :: x107 :: x108 :: x109 :: x110 :: x111 :: x112 :: x113 :: x114 :: x115 :: x116 :: x117 :: x118 :: x119 :: x120 :: x121 :: x122 :: x123 :: x124 :: x125 :: x126 :: x127 :: x128 :: x129 :: x130 :: x131 :: x132 :: x133 :: x134 :: x135 :: x136 :: x137 :: x138 :: x139 :: x140 :: x141 :: x142 :: x143 :: x144 :: x145 :: x146 :: x147 :: x148 :: x149 :: x150 :: x151 :: x152 :: x153 :: x154 :: x155 :: x156 :: x157 :: x158 :: x159 :: x160 :: x161 :: x162 :: x163 :: x164 :: x165 :: x166 :: x167 :: x168 :: x169 :: x170 :: x171 :: x172 :: x173 :: x174 :: x175 :: x176 :: x177 :: x178 :: x179 :: x180 :: x181 :: x182 :: x183 :: x184 :: x185 :: x186 :: x187 :: x188 :: x189 :: x190 :: x191 :: x192 :: x193 :: x194 :: x195 :: x196 :: x197 :: x198 :: x199 :: x200 :: x201 :: x202 :: x203 :: x204 :: x205 :: x206 :: x207 :: x208 :: x209 :: x210 :: x211 :: x212 :: x213 :: x214 :: x215 :: []), []⟩ wz := by
  have HK := Lib.hid hK
  clear hK
  conv => arg 2; whnf
  go_cut [21, 22] from 49 to 198 (fun s21 s22 wx => ∃ xb, s21 = .pointer (some ⟨xb, 0, none⟩) ∧ Hid (Below wz.heap.size wz wx) ∧ Hid (LookS xb on.1.regs wx))
  case rest =>
    exact HK.out _ _ _ _ _ _ _ _ _ _ _ _ _ _ _ _ _ _ _ _ _ _ _ _ _ _ _ _ _ _ _ _ _ _ _ _ _ _ _ _ _ _ _ _ _ _ _ _ _ _ _ _ _ _ _ _ _ _ _ _ _ _ _ _ _ _ _ _ _ _ _ _ _ _ _ _ _ _ _ _ _ _ _ _ _ _ _ _ _ _ _ _ _ _ _ _ _ _ _ _ _ _ _ _ _ _ _ _ _ _ _ _ _ _ _ _ _ _ _ _ _ _ _ _ _ _ _ _ _ _ _ _ _ _ _ _ _ _ _ _ _ _ _ _ _ _ _ _ _ _ _ _ _ hcut
  case first =>
    clear HK
    obtain ⟨ao, co, hs, hrow, hap⟩ := HD.out
    have HBX := Lib.hid hs.box
    have HRW := Lib.hid hrow
    have hreads := hs.za.reads HOK.out
    have HCP := Lib.hid (gcopy_any m (some ⟨gr, 0, none⟩) (some ⟨mb, 0, none⟩) ao cr cm co wz (by rw [HOK.out.regs]; exact hreads.1) (by rw [HOK.out.mem]; exact hreads.2.1) hreads.2.2)
    rw [HOK.out.regs, HOK.out.mem] at HCP
    have p0 : wz.cell? ⟨gb, 0, none⟩ = some (.slice (some ⟨gr, 0, none⟩) 8 cr) := cell_block HBX.out 0
    have p1 : wz.cell? ⟨gb, 1, none⟩ = some (.int .i64 m.pc) := cell_block HBX.out 1
    have p2 : wz.cell? ⟨gb, 2, none⟩ = some (.int .i64 m.back) := cell_block HBX.out 2
    have p3 : wz.cell? ⟨gb, 3, none⟩ = some (.bool m.ints) := cell_block HBX.out 3
    have p4 : wz.cell? ⟨gb, 4, none⟩ = some (.bool m.wait) := cell_block HBX.out 4
    have p5 : wz.cell? ⟨gb, 5, none⟩ = some (.int .i64 m.table) := cell_block HBX.out 5
    have p6 : wz.cell? ⟨gb, 6, none⟩ = some (.int .i64 m.count) := cell_block HBX.out 6
    have p7 : wz.cell? ⟨gb, 7, none⟩ = some (.int .i64 m.fin) := cell_block HBX.out 7
    have p8 : wz.cell? ⟨gb, 8, none⟩ = some (.slice (some ⟨mb, 0, none⟩) 256 cm) := cell_block HBX.out 8
    have p9 : wz.cell? ⟨gb, 9, none⟩ = some (.slice ao m.out.length co) := cell_block HBX.out 9
    have p10 : wz.cell? ⟨gb, 10, none⟩ = some (.int .i64 m.ready) := cell_block HBX.out 10
    have p11 : wz.cell? ⟨gb, 11, none⟩ = some (.int .i64 m.want) := cell_block HBX.out 11
    have lgb : gb < wz.heap.size := (Array.getElem?_eq_some_iff.1 HBX.out).1
    clear hs hrow hap hreads
    go_wp2_with fail
    refine HCP.out.mono ?_
    rintro e w2 ⟨ar2, cr2, am2, cm2, ao2, co2, rfl, hown, hb2⟩
    rw [Mach.agg]
    have h8 := HOK.out.regs
    have h256 := HOK.out.mem
    obtain ⟨gx, mx, rfl, rfl, hza⟩ := za_start HOK.out hown hb2
    rw [h8, h256]
    have HST := Lib.hid (stepped_any m wz (fun _ => False) gx cr2 mx cm2 ao2 co2 irq ak blk ck 2 w2 hza HOK.out HCT.out HBL.out.1 HBL.out.2 (by unfold WordZ; omega) (fun w' ho => ints_of_owns (own_below HRW.out (ho.below (B := wz.heap.size) (fun g q => q.elim) (Nat.le_refl _)) (Nat.le_refl _)) (by have := HBL.out.1; omega) (fun z hz => (HBL.out.2 z hz).i64)))
    rw [HON.out] at HST
    clear hown hb2 h8 h256 hza HCP lgb p0 p1 p2 p3 p4 p5 p6 p7 p8 p9 p10 p11
    go_wp2_with fail
    refine HST.out.mono ?_
    rintro e w5 ⟨ao5, co5, rfl, hz5⟩
    have HB5 := Lib.hid (hz5.old.below (B := wz.heap.size) (fun g q => q.elim) (Nat.le_refl _))
    have HR5 := Lib.hid hz5.regs
    have hsz5 := hz5.old.size
    clear hz5 HST
    go_wp2_with fail
    go_meet
    exact ⟨_, rfl, Lib.hid (HB5.out.alloc hsz5 _), Lib.hid ⟨gx, cr2, _, alloc_at rfl, rfl, own_below HR5.out (below_alloc _ _) (Nat.le_refl _)⟩⟩

set_option maxHeartbeats 8000000 in
set_option maxRecDepth 100000 in
theorem rr_asks {wz : World} {xb yb : Nat} {xs ys : List Int} {tt : Bool} {K : Act → World → Prop} {Q' : Exit → Act → World → Prop} {x0 x1 x2 x3 x4 x5 x6 x7 x8 x9 x10 x11 x12 x13 x14 x15 x16 x17 x18 x20 x22 x23 x26 x27 x28 x29 x30 x31 x32 x33 x34 x35 x36 x37 x38 x39 x40 x41 x42 x43 x44 x45 x46 x47 x48 x49 x50 x51 x52 x53 x54 x55 x56 x57 x58 x59 x60 x61 x62 x63 x64 x65 x66 x67 x68 x69 x70 x71 x72 x73 x74 x75 x76 x77 x78 x79 x80 x81 x82 x83 x84 x85 x86 x87 x88 x89 x90 x91 x92 x93 x94 x95 x96 x97 x98 x99 x100 x101 x102 x103 x104 x105 x106 x107 x108 x109 x110 x111 x112 x113 x114 x115 x116 x117 x118 x119 x120 x121 x122 x123 x124 x125 x126 x127 x128 x129 x130 x131 x132 x133 x134 x135 x136 x137 x138 x139 x140 x141 x142 x143 x144 x145 x146 x147 x148 x149 x150 x151 x152 x153 x154 x155 x156 x157 x158 x159 x160 x161 x162 x163 x164 x165 x166 x167 x168 x169 x170 x171 x172 x173 x174 x175 x176 x177 x178 x179 x180 x181 x182 x183 x184 x185 x186 x187 x188 x189 x190 x191 x192 x193 x194 x195 x196 x197 x198 x199 x200 x201 x202 x203 x204 x205 x206 x207 x208 x209 x210 x211 x212 x213 x214 x215 : Value} (HX : Hid (LookS xb xs wz)) (HY : Hid (LookS yb ys wz)) (HL : Hid (xs.length = 8 ∧ ys.length = 8)) (HTT : Hid ((xs != ys) = tt)) (hK : ∀ (y49 y50 y51 y52 y53 y54 y55 y56 y57 y58 y59 y60 y61 y62 y63 y64 y65 y66 y67 y68 y69 y70 y71 y72 y73 y74 y75 y76 y77 y78 y79 y80 y81 y82 y83 y84 y85 y86 y87 y88 y89 y90 y91 y92 y93 y94 y95 y96 y97 y98 y99 y100 y101 y102 y103 y104 y105 y106 y107 y108 y109 y110 y111 y112 y113 y114 y115 y116 y117 y118 y119 y120 y121 y122 y123 y124 y125 y126 y127 y128 y129 y130 y131 y132 y133 y134 y135 y136 y137 y138 y139 y140 y141 y142 y143 y144 y145 y146 y147 y148 y149 y150 y151 y152 y153 y154 y155 y156 y157 y158 y159 y160 y161 y162 y163 y164 y165 y166 y167 y168 y169 y170 y171 y172 y173 y174 y175 y176 y177 y178 y179 y180 y181 y182 y183 y184 y185 y186 y187 y188 y189 y190 y191 y192 y193 y194 y195 y196 y197 y198 : Value) (s24 s25 : Value) (wx : World), (s24 = .bool tt ∧ Hid (Below wz.heap.size wz wx)) → K ⟨List.toArray (x0 :: x1 :: x2 :: x3 :: x4 :: x5 :: x6 :: x7 :: x8 :: x9 :: x10 :: x11 :: x12 :: x13 :: x14 :: x15 :: x16 :: x17 :: x18 :: .pointer (some ⟨xb, 0, none⟩) :: x20 :: .pointer (some ⟨yb, 0, none⟩) :: x22 :: x23 :: s24 :: s25 :: x26 :: x27 :: x28 :: x29 :: x30 :: x31 :: x32 :: x33 :: x34 :: x35 :: x36 :: x37 :: x38 :: x39 :: x40 :: x41 :: x42 :: x43 :: x44 :: x45 :: x46 :: x47 :: x48 :: y49 :: y50 :: y51 :: y52 :: y53 :: y54 :: y55 :: y56 :: y57 :: y58 :: y59 :: y60 :: y61 :: y62 :: y63 :: y64 :: y65 :: y66 :: y67 :: y68 :: y69 :: y70 :: y71 :: y72 :: y73 :: y74 :: y75 :: y76 :: y77 :: y78 :: y79 :: y80 :: y81 :: y82 :: y83 :: y84 :: y85 :: y86 :: y87 :: y88 :: y89 :: y90 :: y91 :: y92 :: y93 :: y94 :: y95 :: y96 :: y97 :: y98 :: y99 :: y100 :: y101 :: y102 :: y103 :: y104 :: y105 :: y106 :: y107 :: y108 :: y109 :: y110 :: y111 :: y112 :: y113 :: y114 :: y115 :: y116 :: y117 :: y118 :: y119 :: y120 :: y121 :: y122 :: y123 :: y124 :: y125 :: y126 :: y127 :: y128 :: y129 :: y130 :: y131 :: y132 :: y133 :: y134 :: y135 :: y136 :: y137 :: y138 :: y139 :: y140 :: y141 :: y142 :: y143 :: y144 :: y145 :: y146 :: y147 :: y148 :: y149 :: y150 :: y151 :: y152 :: y153 :: y154 :: y155 :: y156 :: y157 :: y158 :: y159 :: y160 :: y161 :: y162 :: y163 :: y164 :: y165 :: y166 :: y167 :: y168 :: y169 :: y170 :: y171 :: y172 :: y173 :: y174 :: y175 :: y176 :: y177 :: y178 :: y179 :: y180 :: y181 :: y182 :: y183 :: y184 :: y185 :: y186 :: y187 :: y188 :: y189 :: y190 :: y191 :: y192 :: y193 :: y194 :: y195 :: y196 :: y197 :: y198 :: x199 :: x200 :: x201 :: x202 :: x203 :: x204 :: x205 :: x206 :: x207 :: x208 :: x209 :: x210 :: x211 :: x212 :: x213 :: x214 :: x215 :: []), []⟩ wx) : (c13 [1, 1, 1, 1, 1, 1, 1, 1, 1, 0, 1, 0, 0, 1, 0, 0, 1, 1, 1, 1, 1, 1, 1, 1, 1, 0, 1]).wp Tryd.prog (Exit.then K Q') ⟨List.toArray (x0 :: x1 :: x2 :: x3 :: x4 :: x5 :: x6 :: x7 :: x8 :: x9 :: x10 :: x11 :: x12 :: x13 :: x14 :: x15 :: x16 :: x17 :: x18 :: .pointer (some ⟨xb, 0, none⟩) :: x20 :: .pointer (some ⟨yb, 0, none⟩) :: x22 :: x23 :: .bool false :: .int .i64 0 :: x26 :: x27 :: x28 :: x29 :: x30 :: x31 :: x32 :: x33 :: x34 :: x35 :: x36 :: x37 :: x38 :: x39 :: x40 :: x41 :: x42 :: x43 :: x44 :: x45 :: x46 :: x47 :: x48 :: x49 :: x50 :: x51 :: x52 :: x53 :: x54 :: x55 :: x56 :: x57 :: x58 :: x59 :: x60 :: x61 :: x62 :: x63 :: x64 :: x65 :: x66 :: x67 :: x68 :: x69 :: x70 :: x71 :: x72 :: x73 :: x74 :: x75 :: x76 :: x77 :: x78 :: x79 :: x80 :: x81 :: x82 :: x83 :: x84 :: x85 :: x86 :: x87 :: x88 :: x89 :: x90 :: x91 :: x92 :: x93 :: x94 :: x95 :: x96 :: x97 :: x98 :: x99 :: x100 :: x101 :: x102 :: x103 :: x104 :: x105 :: x106 :: x107 :: x108 :: x109 :: x110 :: x111 :: x112 :: x113 :: x114 :: x115 :: x116 :: x117 :: x118 :: x119 :: x120 :: x121 :: x122 :: x123 :: x124 :: x125 :: x126 :: x127 :: x128 :: x129 :: x130 :: x131 :: x132 :: x133 :: x134 :: x135 :: x136 :: x137 :: x138 :: x139 :: x140 :: x141 :: x142 :: x143 :: x144 :: x145 :: x146 :: x147 :: x148 :: x149 :: x150 :: x151 :: x152 :: x153 :: x154 :: x155 :: x156 :: x157 :: x158 :: x159 :: x160 :: x161 :: x162 :: x163 :: x164 :: x165 :: x166 :: x167 :: x168 :: x169 :: x170 :: x171 :: x172 :: x173 :: x174 :: x175 :: x176 :: x177 :: x178 :: x179 :: x180 :: x181 :: x182 :: x183 :: x184 :: x185 :: x186 :: x187 :: x188 :: x189 :: x190 :: x191 :: x192 :: x193 :: x194 :: x195 :: x196 :: x197 :: x198 :: x199 :: x200 :: x201 :: x202 :: x203 :: x204 :: x205 :: x206 :: x207 :: x208 :: x209 :: x210 :: x211 :: x212 :: x213 :: x214 :: x215 :: []), []⟩ wz := by
  have HK := Lib.hid hK
  clear hK
  conv => arg 2; whnf
  go_cut [24, 25] from 49 to 198 (fun s24 s25 wx => s24 = .bool tt ∧ Hid (Below wz.heap.size wz wx))
  case rest =>
    exact HK.out _ _ _ _ _ _ _ _ _ _ _ _ _ _ _ _ _ _ _ _ _ _ _ _ _ _ _ _ _ _ _ _ _ _ _ _ _ _ _ _ _ _ _ _ _ _ _ _ _ _ _ _ _ _ _ _ _ _ _ _ _ _ _ _ _ _ _ _ _ _ _ _ _ _ _ _ _ _ _ _ _ _ _ _ _ _ _ _ _ _ _ _ _ _ _ _ _ _ _ _ _ _ _ _ _ _ _ _ _ _ _ _ _ _ _ _ _ _ _ _ _ _ _ _ _ _ _ _ _ _ _ _ _ _ _ _ _ _ _ _ _ _ _ _ _ _ _ _ _ _ _ _ _ hcut
  case first =>
    clear HK
    go_wp2_with fail
    go_loopg [24, 25] 8 (fun gh s24 s25 wr => ∃ (i : Nat) (q : Bool), i ≤ 8 ∧ gh = 8 - i ∧ s25 = .int .i64 i ∧ s24 = .bool q ∧ Hid ((xs.take i != ys.take i) = q) ∧ Hid (Below wz.heap.size wz wr))
    case atStart => exact ⟨0, false, Nat.zero_le _, by omega, rfl, rfl, Lib.hid (by simp), Lib.hid (Below.refl _ _)⟩
    case round =>
      obtain ⟨i, q, hi, rfl, rfl, rfl, HQ, HBW⟩ := hrel
      obtain ⟨gx, cx, cs, hx, hx0, hxr⟩ := HX.out.below HBW.out
      obtain ⟨gy, cy, ds, hy, hy0, hyr⟩ := HY.out.below HBW.out
      by_cases hlt : i < 8
      · have hxl : i < xs.length := by have := HL.out.1; omega
        have hyl : i < ys.length := by have := HL.out.2; omega
        have HN := Lib.hid (take_ne hxl hyl)
        have u0 : wr.cell? ⟨xb, 0, none⟩ = some (.slice (some ⟨gx, 0, none⟩) 8 cx) := by rw [cell_block hx 0]; exact hx0
        have v0 : wr.cell? ⟨yb, 0, none⟩ = some (.slice (some ⟨gy, 0, none⟩) 8 cy) := by rw [cell_block hy 0]; exact hy0
        have lx : xb < wr.heap.size := (Array.getElem?_eq_some_iff.1 hx).1
        have ly : yb < wr.heap.size := (Array.getElem?_eq_some_iff.1 hy).1
        have lgx : gx < wr.heap.size := (hxr.lt gx rfl).2
        have lgy : gy < wr.heap.size := (hyr.lt gy rfl).2
        have k1 : wr.cell? ⟨gx, i, none⟩ = some (.int .i64 xs[i]) := by
          rw [hxr.cellAt i (by omega), List.getElem?_map, List.getElem?_eq_getElem hxl]; rfl
        have k2 : wr.cell? ⟨gy, i, none⟩ = some (.int .i64 ys[i]) := by
          rw [hyr.cellAt i (by omega), List.getElem?_map, List.getElem?_eq_getElem hyl]; rfl
        have hi1 : (i : Int) < 8 := by omega
        have hi0 : (0 : Int) ≤ (i : Int) := by omega
        generalize xs[i] = z at *
        generalize ys[i] = z2 at *
        clear hxl hyl hx hx0 hxr hy hy0 hyr
        obtain ⟨t2, ht2⟩ : ∃ t2, (z != z2) = t2 := ⟨_, rfl⟩
        have HT2 := Lib.hid ht2
        clear ht2
        cases q with
        | true =>
          go_wp2_with fail
          go_quiet (fail)
          go_wp2_with fail
          go_roundg (8 - (i + 1))
          case measure => omega
          case rel => exact ⟨i + 1, true, by omega, rfl, by go_num, rfl, Lib.hid (by rw [HN.out, HQ.out]; rfl), Lib.hid (below_drewN HBW.out _)⟩
        | false =>
          go_wp2_with fail
          go_quiet (fail)
          go_wp2_with fail
          go_roundg (8 - (i + 1))
          case measure => omega
          case rel => exact ⟨i + 1, t2, by omega, rfl, by go_num, by first | rfl | rw [HT2.out], Lib.hid (by rw [HN.out, HQ.out, HT2.out]; rfl), Lib.hid (below_drewN HBW.out _)⟩
      · obtain rfl : i = 8 := by omega
        have HE := Lib.hid (show q = tt from by rw [← HQ.out, ← HTT.out, List.take_of_length_le (by have := HL.out.1; omega), List.take_of_length_le (by have := HL.out.2; omega)])
        clear hlt hx hx0 hxr hy hy0 hyr
        go_wp2_with fail
        go_meet
        exact ⟨by rw [HE.out], HBW⟩

end Go.Proofs.YtenicnneppgfmaaDoor
namespace Go.Proofs.YtenicnneppgfmaaDoor
open Go Go.RowKit Go.ChangeShapes Go.WideShapes Go.Deep
set_option linter.unusedVariables false
attribute [local go_sem ↓] Go.wp_at_zero Go.wp_at_succ

theorem own_ne_of {w : World} {base base' : Nat} {e e' : TypeId} {size size' : Nat} {v v' : Value} {n n' : Nat} {xs xs' : List Value} (h : w.ownsRow base e size v n xs) (h' : w.ownsRow base' e' size' v' n' xs') (he : e ≠ e') {q : Nat} (h1 : v.ownBlock = some q) (h2 : v'.ownBlock = some q) : False := by
  rcases own_ne h h' he with k | k
  · rw [h1] at k; cases k
  · exact k (h1.trans h2.symm)
/-- The boxes of a guest that is written anew, cell by cell. -/
theorem DrS.anew {w0 w w5 : World} {gb gr cr mb cm : Nat} {m : Mach} {ao : Option Addr} {co : Nat} {ps : List (Ev × Value)} {aa : Option Addr} {ca : Nat} {on : Mach × Int} {ao2 : Option Addr} {co2 : Nat} (h : DrS w0 gb gr cr mb cm m ao co ps aa ca w) (hz5 : ZA w (Dz gr mb ao m.out.length co) gr cr mb cm on.1 ao2 co2 w5) : w5.heap[gb]? = some (.cells #[.slice (some ⟨gr, 0, none⟩) 8 cr, .int .i64 m.pc, .int .i64 m.back, .bool m.ints, .bool m.wait, .int .i64 m.table, .int .i64 m.count, .int .i64 m.fin, .slice (some ⟨mb, 0, none⟩) 256 cm, .slice ao m.out.length co, .int .i64 m.ready, .int .i64 m.want] 30 (0, 0)) ∧ DrS w0 gb gr cr mb cm on.1 ao2 co2 ps aa ca ((((((((((((w5.setCell ⟨gb, 0, none⟩ (.slice (some ⟨gr, 0, none⟩) 8 cr)).setCell ⟨gb, 1, none⟩ (.int .i64 on.1.pc)).setCell ⟨gb, 2, none⟩ (.int .i64 on.1.back)).setCell ⟨gb, 3, none⟩ (.bool on.1.ints)).setCell ⟨gb, 4, none⟩ (.bool on.1.wait)).setCell ⟨gb, 5, none⟩ (.int .i64 on.1.table)).setCell ⟨gb, 6, none⟩ (.int .i64 on.1.count)).setCell ⟨gb, 7, none⟩ (.int .i64 on.1.fin)).setCell ⟨gb, 8, none⟩ (.slice (some ⟨mb, 0, none⟩) 256 cm)).setCell ⟨gb, 9, none⟩ (.slice ao2 on.1.out.length co2)).setCell ⟨gb, 10, none⟩ (.int .i64 on.1.ready)).setCell ⟨gb, 11, none⟩ (.int .i64 on.1.want)) := by
  have hnd := h.za.nd h.box (by decide)
  have hb5 := hz5.old.at h.box hnd
  refine ⟨hb5, ?_⟩
  have HGE := Lib.hid h.ge
  have hall : OutSt w0.heap.size ps aa ca w5 := h.all.outF hz5.old (fun q hq hd => by
    rcases hd with hd | hd | hd
    · exact own_ne_of h.za.regs h.all.row (by decide) (by rw [hd]; rfl) hq
    · exact own_ne_of h.za.mem h.all.row (by decide) (by rw [hd]; rfl) hq
    · exact own_ne_of h.za.out h.all.row (by decide) hd hq) h.dat
  have hlt : ∀ p ∈ ps, ∀ q, p.2.ownBlock = some q → q < w.heap.size := fun p hp q hq => ((h.all.data p hp).1.lt q hq).2
  have b0 := hb5
  have z0 := h.za.back hz5
  have o0 := OutF.refl (fun q => q = gb) w5

  have z1 := z0.set b0 (by decide) (Or.inr HGE.out) 0 (.slice (some ⟨gr, 0, none⟩) 8 cr)
  have o1 := o0.setCell (g := gb) (i := 0) (Or.inl rfl) (.slice (some ⟨gr, 0, none⟩) 8 cr)
  have b1 : (w5.setCell ⟨gb, 0, none⟩ (.slice (some ⟨gr, 0, none⟩) 8 cr)).heap[gb]? = some (.cells #[.slice (some ⟨gr, 0, none⟩) 8 cr, .int .i64 m.pc, .int .i64 m.back, .bool m.ints, .bool m.wait, .int .i64 m.table, .int .i64 m.count, .int .i64 m.fin, .slice (some ⟨mb, 0, none⟩) 256 cm, .slice ao m.out.length co, .int .i64 m.ready, .int .i64 m.want] 30 (0, 0)) := set_block b0 _
  have z2 := z1.set b1 (by decide) (Or.inr HGE.out) 1 (.int .i64 on.1.pc)
  have o2 := o1.setCell (g := gb) (i := 1) (Or.inl rfl) (.int .i64 on.1.pc)
  have b2 : ((w5.setCell ⟨gb, 0, none⟩ (.slice (some ⟨gr, 0, none⟩) 8 cr)).setCell ⟨gb, 1, none⟩ (.int .i64 on.1.pc)).heap[gb]? = some (.cells #[.slice (some ⟨gr, 0, none⟩) 8 cr, .int .i64 on.1.pc, .int .i64 m.back, .bool m.ints, .bool m.wait, .int .i64 m.table, .int .i64 m.count, .int .i64 m.fin, .slice (some ⟨mb, 0, none⟩) 256 cm, .slice ao m.out.length co, .int .i64 m.ready, .int .i64 m.want] 30 (0, 0)) := set_block b1 _
  have z3 := z2.set b2 (by decide) (Or.inr HGE.out) 2 (.int .i64 on.1.back)
  have o3 := o2.setCell (g := gb) (i := 2) (Or.inl rfl) (.int .i64 on.1.back)
  have b3 : (((w5.setCell ⟨gb, 0, none⟩ (.slice (some ⟨gr, 0, none⟩) 8 cr)).setCell ⟨gb, 1, none⟩ (.int .i64 on.1.pc)).setCell ⟨gb, 2, none⟩ (.int .i64 on.1.back)).heap[gb]? = some (.cells #[.slice (some ⟨gr, 0, none⟩) 8 cr, .int .i64 on.1.pc, .int .i64 on.1.back, .bool m.ints, .bool m.wait, .int .i64 m.table, .int .i64 m.count, .int .i64 m.fin, .slice (some ⟨mb, 0, none⟩) 256 cm, .slice ao m.out.length co, .int .i64 m.ready, .int .i64 m.want] 30 (0, 0)) := set_block b2 _
  have z4 := z3.set b3 (by decide) (Or.inr HGE.out) 3 (.bool on.1.ints)
  have o4 := o3.setCell (g := gb) (i := 3) (Or.inl rfl) (.bool on.1.ints)
  have b4 : ((((w5.setCell ⟨gb, 0, none⟩ (.slice (some ⟨gr, 0, none⟩) 8 cr)).setCell ⟨gb, 1, none⟩ (.int .i64 on.1.pc)).setCell ⟨gb, 2, none⟩ (.int .i64 on.1.back)).setCell ⟨gb, 3, none⟩ (.bool on.1.ints)).heap[gb]? = some (.cells #[.slice (some ⟨gr, 0, none⟩) 8 cr, .int .i64 on.1.pc, .int .i64 on.1.back, .bool on.1.ints, .bool m.wait, .int .i64 m.table, .int .i64 m.count, .int .i64 m.fin, .slice (some ⟨mb, 0, none⟩) 256 cm, .slice ao m.out.length co, .int .i64 m.ready, .int .i64 m.want] 30 (0, 0)) := set_block b3 _
  have z5 := z4.set b4 (by decide) (Or.inr HGE.out) 4 (.bool on.1.wait)
  have o5 := o4.setCell (g := gb) (i := 4) (Or.inl rfl) (.bool on.1.wait)
  have b5 : (((((w5.setCell ⟨gb, 0, none⟩ (.slice (some ⟨gr, 0, none⟩) 8 cr)).setCell ⟨gb, 1, none⟩ (.int .i64 on.1.pc)).setCell ⟨gb, 2, none⟩ (.int .i64 on.1.back)).setCell ⟨gb, 3, none⟩ (.bool on.1.ints)).setCell ⟨gb, 4, none⟩ (.bool on.1.wait)).heap[gb]? = some (.cells #[.slice (some ⟨gr, 0, none⟩) 8 cr, .int .i64 on.1.pc, .int .i64 on.1.back, .bool on.1.ints, .bool on.1.wait, .int .i64 m.table, .int .i64 m.count, .int .i64 m.fin, .slice (some ⟨mb, 0, none⟩) 256 cm, .slice ao m.out.length co, .int .i64 m.ready, .int .i64 m.want] 30 (0, 0)) := set_block b4 _
  have z6 := z5.set b5 (by decide) (Or.inr HGE.out) 5 (.int .i64 on.1.table)
  have o6 := o5.setCell (g := gb) (i := 5) (Or.inl rfl) (.int .i64 on.1.table)
  have b6 : ((((((w5.setCell ⟨gb, 0, none⟩ (.slice (some ⟨gr, 0, none⟩) 8 cr)).setCell ⟨gb, 1, none⟩ (.int .i64 on.1.pc)).setCell ⟨gb, 2, none⟩ (.int .i64 on.1.back)).setCell ⟨gb, 3, none⟩ (.bool on.1.ints)).setCell ⟨gb, 4, none⟩ (.bool on.1.wait)).setCell ⟨gb, 5, none⟩ (.int .i64 on.1.table)).heap[gb]? = some (.cells #[.slice (some ⟨gr, 0, none⟩) 8 cr, .int .i64 on.1.pc, .int .i64 on.1.back, .bool on.1.ints, .bool on.1.wait, .int .i64 on.1.table, .int .i64 m.count, .int .i64 m.fin, .slice (some ⟨mb, 0, none⟩) 256 cm, .slice ao m.out.length co, .int .i64 m.ready, .int .i64 m.want] 30 (0, 0)) := set_block b5 _
  have z7 := z6.set b6 (by decide) (Or.inr HGE.out) 6 (.int .i64 on.1.count)
  have o7 := o6.setCell (g := gb) (i := 6) (Or.inl rfl) (.int .i64 on.1.count)
  have b7 : (((((((w5.setCell ⟨gb, 0, none⟩ (.slice (some ⟨gr, 0, none⟩) 8 cr)).setCell ⟨gb, 1, none⟩ (.int .i64 on.1.pc)).setCell ⟨gb, 2, none⟩ (.int .i64 on.1.back)).setCell ⟨gb, 3, none⟩ (.bool on.1.ints)).setCell ⟨gb, 4, none⟩ (.bool on.1.wait)).setCell ⟨gb, 5, none⟩ (.int .i64 on.1.table)).setCell ⟨gb, 6, none⟩ (.int .i64 on.1.count)).heap[gb]? = some (.cells #[.slice (some ⟨gr, 0, none⟩) 8 cr, .int .i64 on.1.pc, .int .i64 on.1.back, .bool on.1.ints, .bool on.1.wait, .int .i64 on.1.table, .int .i64 on.1.count, .int .i64 m.fin, .slice (some ⟨mb, 0, none⟩) 256 cm, .slice ao m.out.length co, .int .i64 m.ready, .int .i64 m.want] 30 (0, 0)) := set_block b6 _
  have z8 := z7.set b7 (by decide) (Or.inr HGE.out) 7 (.int .i64 on.1.fin)
  have o8 := o7.setCell (g := gb) (i := 7) (Or.inl rfl) (.int .i64 on.1.fin)
  have b8 : ((((((((w5.setCell ⟨gb, 0, none⟩ (.slice (some ⟨gr, 0, none⟩) 8 cr)).setCell ⟨gb, 1, none⟩ (.int .i64 on.1.pc)).setCell ⟨gb, 2, none⟩ (.int .i64 on.1.back)).setCell ⟨gb, 3, none⟩ (.bool on.1.ints)).setCell ⟨gb, 4, none⟩ (.bool on.1.wait)).setCell ⟨gb, 5, none⟩ (.int .i64 on.1.table)).setCell ⟨gb, 6, none⟩ (.int .i64 on.1.count)).setCell ⟨gb, 7, none⟩ (.int .i64 on.1.fin)).heap[gb]? = some (.cells #[.slice (some ⟨gr, 0, none⟩) 8 cr, .int .i64 on.1.pc, .int .i64 on.1.back, .bool on.1.ints, .bool on.1.wait, .int .i64 on.1.table, .int .i64 on.1.count, .int .i64 on.1.fin, .slice (some ⟨mb, 0, none⟩) 256 cm, .slice ao m.out.length co, .int .i64 m.ready, .int .i64 m.want] 30 (0, 0)) := set_block b7 _
  have z9 := z8.set b8 (by decide) (Or.inr HGE.out) 8 (.slice (some ⟨mb, 0, none⟩) 256 cm)
  have o9 := o8.setCell (g := gb) (i := 8) (Or.inl rfl) (.slice (some ⟨mb, 0, none⟩) 256 cm)
  have b9 : (((((((((w5.setCell ⟨gb, 0, none⟩ (.slice (some ⟨gr, 0, none⟩) 8 cr)).setCell ⟨gb, 1, none⟩ (.int .i64 on.1.pc)).setCell ⟨gb, 2, none⟩ (.int .i64 on.1.back)).setCell ⟨gb, 3, none⟩ (.bool on.1.ints)).setCell ⟨gb, 4, none⟩ (.bool on.1.wait)).setCell ⟨gb, 5, none⟩ (.int .i64 on.1.table)).setCell ⟨gb, 6, none⟩ (.int .i64 on.1.count)).setCell ⟨gb, 7, none⟩ (.int .i64 on.1.fin)).setCell ⟨gb, 8, none⟩ (.slice (some ⟨mb, 0, none⟩) 256 cm)).heap[gb]? = some (.cells #[.slice (some ⟨gr, 0, none⟩) 8 cr, .int .i64 on.1.pc, .int .i64 on.1.back, .bool on.1.ints, .bool on.1.wait, .int .i64 on.1.table, .int .i64 on.1.count, .int .i64 on.1.fin, .slice (some ⟨mb, 0, none⟩) 256 cm, .slice ao m.out.length co, .int .i64 m.ready, .int .i64 m.want] 30 (0, 0)) := set_block b8 _
  have z10 := z9.set b9 (by decide) (Or.inr HGE.out) 9 (.slice ao2 on.1.out.length co2)
  have o10 := o9.setCell (g := gb) (i := 9) (Or.inl rfl) (.slice ao2 on.1.out.length co2)
  have b10 : ((((((((((w5.setCell ⟨gb, 0, none⟩ (.slice (some ⟨gr, 0, none⟩) 8 cr)).setCell ⟨gb, 1, none⟩ (.int .i64 on.1.pc)).setCell ⟨gb, 2, none⟩ (.int .i64 on.1.back)).setCell ⟨gb, 3, none⟩ (.bool on.1.ints)).setCell ⟨gb, 4, none⟩ (.bool on.1.wait)).setCell ⟨gb, 5, none⟩ (.int .i64 on.1.table)).setCell ⟨gb, 6, none⟩ (.int .i64 on.1.count)).setCell ⟨gb, 7, none⟩ (.int .i64 on.1.fin)).setCell ⟨gb, 8, none⟩ (.slice (some ⟨mb, 0, none⟩) 256 cm)).setCell ⟨gb, 9, none⟩ (.slice ao2 on.1.out.length co2)).heap[gb]? = some (.cells #[.slice (some ⟨gr, 0, none⟩) 8 cr, .int .i64 on.1.pc, .int .i64 on.1.back, .bool on.1.ints, .bool on.1.wait, .int .i64 on.1.table, .int .i64 on.1.count, .int .i64 on.1.fin, .slice (some ⟨mb, 0, none⟩) 256 cm, .slice ao2 on.1.out.length co2, .int .i64 m.ready, .int .i64 m.want] 30 (0, 0)) := set_block b9 _
  have z11 := z10.set b10 (by decide) (Or.inr HGE.out) 10 (.int .i64 on.1.ready)
  have o11 := o10.setCell (g := gb) (i := 10) (Or.inl rfl) (.int .i64 on.1.ready)
  have b11 : (((((((((((w5.setCell ⟨gb, 0, none⟩ (.slice (some ⟨gr, 0, none⟩) 8 cr)).setCell ⟨gb, 1, none⟩ (.int .i64 on.1.pc)).setCell ⟨gb, 2, none⟩ (.int .i64 on.1.back)).setCell ⟨gb, 3, none⟩ (.bool on.1.ints)).setCell ⟨gb, 4, none⟩ (.bool on.1.wait)).setCell ⟨gb, 5, none⟩ (.int .i64 on.1.table)).setCell ⟨gb, 6, none⟩ (.int .i64 on.1.count)).setCell ⟨gb, 7, none⟩ (.int .i64 on.1.fin)).setCell ⟨gb, 8, none⟩ (.slice (some ⟨mb, 0, none⟩) 256 cm)).setCell ⟨gb, 9, none⟩ (.slice ao2 on.1.out.length co2)).setCell ⟨gb, 10, none⟩ (.int .i64 on.1.ready)).heap[gb]? = some (.cells #[.slice (some ⟨gr, 0, none⟩) 8 cr, .int .i64 on.1.pc, .int .i64 on.1.back, .bool on.1.ints, .bool on.1.wait, .int .i64 on.1.table, .int .i64 on.1.count, .int .i64 on.1.fin, .slice (some ⟨mb, 0, none⟩) 256 cm, .slice ao2 on.1.out.length co2, .int .i64 on.1.ready, .int .i64 m.want] 30 (0, 0)) := set_block b10 _
  have z12 := z11.set b11 (by decide) (Or.inr HGE.out) 11 (.int .i64 on.1.want)
  have o12 := o11.setCell (g := gb) (i := 11) (Or.inl rfl) (.int .i64 on.1.want)
  have b12 : ((((((((((((w5.setCell ⟨gb, 0, none⟩ (.slice (some ⟨gr, 0, none⟩) 8 cr)).setCell ⟨gb, 1, none⟩ (.int .i64 on.1.pc)).setCell ⟨gb, 2, none⟩ (.int .i64 on.1.back)).setCell ⟨gb, 3, none⟩ (.bool on.1.ints)).setCell ⟨gb, 4, none⟩ (.bool on.1.wait)).setCell ⟨gb, 5, none⟩ (.int .i64 on.1.table)).setCell ⟨gb, 6, none⟩ (.int .i64 on.1.count)).setCell ⟨gb, 7, none⟩ (.int .i64 on.1.fin)).setCell ⟨gb, 8, none⟩ (.slice (some ⟨mb, 0, none⟩) 256 cm)).setCell ⟨gb, 9, none⟩ (.slice ao2 on.1.out.length co2)).setCell ⟨gb, 10, none⟩ (.int .i64 on.1.ready)).setCell ⟨gb, 11, none⟩ (.int .i64 on.1.want)).heap[gb]? = some (.cells #[.slice (some ⟨gr, 0, none⟩) 8 cr, .int .i64 on.1.pc, .int .i64 on.1.back, .bool on.1.ints, .bool on.1.wait, .int .i64 on.1.table, .int .i64 on.1.count, .int .i64 on.1.fin, .slice (some ⟨mb, 0, none⟩) 256 cm, .slice ao2 on.1.out.length co2, .int .i64 on.1.ready, .int .i64 on.1.want] 30 (0, 0)) := set_block b11 _
  have hall2 := hall.outF o12 (fun q hq e => (own_ne_block hall.row hb5 (by decide)) (by rw [hq, e])) (fun p hp q hq e => own_ne_block (hall.data p hp).1 hb5 (by decide) (by rw [hq, e]))
  refine ⟨b12, z12, hall2, fun p hp q hq hd => ?_, h.ge⟩
  rcases hd with hd | hd | hd
  · exact h.dat p hp q hq (Or.inl hd)
  · exact h.dat p hp q hq (Or.inr (Or.inl hd))
  · rcases hz5.lo q hd with e | e
    · exact h.dat p hp q hq e
    · have := hlt p hp q hq; omega

set_option maxHeartbeats 8000000 in
set_option maxRecDepth 100000 in
theorem rr_step {w0 wz : World} {gb gr cr mb cm : Nat} {m : Mach} {ps : List (Ev × Value)} {aa : Option Addr} {ca : Nat} {k : Int} {blk : List Int} {ak : Option Addr} {ck : Nat} {irq : Bool} {on : Mach × Int} {v : Int} {K : Act → World → Prop} {Q' : Exit → Act → World → Prop} {x0 x1 x2 x3 x4 x5 x6 x7 x8 x10 x12 x13 x14 x17 x19 x20 x21 x22 x24 x25 x26 x27 x28 x29 x30 x31 x32 x33 x34 x35 x36 x37 x38 x39 x40 x41 x42 x43 x44 x45 x46 x47 x48 x49 x50 x51 x52 x53 x54 x55 x56 x57 x58 x59 x60 x61 x62 x63 x64 x65 x66 x67 x68 x69 x70 x71 x72 x73 x74 x75 x76 x77 x78 x79 x80 x81 x82 x83 x84 x85 x86 x87 x88 x89 x90 x91 x92 x93 x94 x95 x96 x97 x98 x99 x100 x101 x102 x103 x104 x105 x106 x107 x108 x109 x110 x111 x112 x113 x114 x115 x116 x117 x118 x119 x120 x121 x122 x123 x124 x125 x126 x127 x128 x129 x130 x131 x132 x133 x134 x135 x136 x137 x138 x139 x140 x141 x142 x143 x144 x145 x146 x147 x148 x149 x150 x151 x152 x153 x154 x155 x156 x157 x158 x159 x160 x161 x162 x163 x164 x165 x166 x167 x168 x169 x170 x171 x172 x173 x174 x175 x176 x177 x178 x179 x180 x181 x182 x183 x184 x185 x186 x187 x188 x189 x190 x191 x192 x193 x194 x195 x196 x197 x198 x199 x200 x201 x202 x203 x204 x205 x206 x207 x208 x209 x210 x211 x212 x213 x214 x215 : Value} (HD : Hid (DrB w0 gb gr cr mb cm m ps aa ca blk ak ck wz)) (HOK : Hid (MOk m)) (HCT : Hid (m.count < 1099511627776)) (HBL : Hid ((blk.length = 0 ∨ blk.length = 16) ∧ ∀ z ∈ blk, WordZ z)) (HV : Hid (WordZ v)) (HON : Hid (stepM m irq blk v = on)) (hK : ∀ (y49 y50 y51 y52 y53 y54 y55 y56 y57 y58 y59 y60 y61 y62 y63 y64 y65 y66 y67 y68 y69 y70 y71 y72 y73 y74 y75 y76 y77 y78 y79 y80 y81 y82 y83 y84 y85 y86 y87 y88 y89 y90 y91 y92 y93 y94 y95 y96 y97 y98 y99 y100 y101 y102 y103 y104 y105 y106 y107 y108 y109 y110 y111 y112 y113 y114 y115 y116 y117 y118 y119 y120 y121 y122 y123 y124 y125 y126 y127 y128 y129 y130 y131 y132 y133 y134 y135 y136 y137 y138 y139 y140 y141 y142 y143 y144 y145 y146 y147 y148 y149 y150 y151 y152 y153 y154 y155 y156 y157 y158 y159 y160 y161 y162 y163 y164 y165 y166 y167 y168 y169 y170 y171 y172 y173 y174 y175 y176 y177 y178 y179 y180 y181 y182 y183 y184 y185 y186 y187 y188 y189 y190 y191 y192 y193 y194 y195 y196 y197 y198 : Value)  (wx : World), (Hid (DrE w0 gb gr cr mb cm on.1 ps aa ca wx)) → K ⟨List.toArray (x0 :: x1 :: x2 :: x3 :: x4 :: x5 :: x6 :: x7 :: x8 :: .pointer (some ⟨gb, 0, none⟩) :: x10 :: .slice aa ps.length ca :: x12 :: x13 :: x14 :: .int .i64 k :: .bool irq :: x17 :: .slice ak blk.length ck :: x19 :: x20 :: x21 :: x22 :: .int .i64 v :: x24 :: x25 :: x26 :: x27 :: x28 :: x29 :: x30 :: x31 :: x32 :: x33 :: x34 :: x35 :: x36 :: x37 :: x38 :: x39 :: x40 :: x41 :: x42 :: x43 :: x44 :: x45 :: x46 :: x47 :: x48 :: y49 :: y50 :: y51 :: y52 :: y53 :: y54 :: y55 :: y56 :: y57 :: y58 :: y59 :: y60 :: y61 :: y62 :: y63 :: y64 :: y65 :: y66 :: y67 :: y68 :: y69 :: y70 :: y71 :: y72 :: y73 :: y74 :: y75 :: y76 :: y77 :: y78 :: y79 :: y80 :: y81 :: y82 :: y83 :: y84 :: y85 :: y86 :: y87 :: y88 :: y89 :: y90 :: y91 :: y92 :: y93 :: y94 :: y95 :: y96 :: y97 :: y98 :: y99 :: y100 :: y101 :: y102 :: y103 :: y104 :: y105 :: y106 :: y107 :: y108 :: y109 :: y110 :: y111 :: y112 :: y113 :: y114 :: y115 :: y116 :: y117 :: y118 :: y119 :: y120 :: y121 :: y122 :: y123 :: y124 :: y125 :: y126 :: y127 :: y128 :: y129 :: y130 :: y131 :: y132 :: y133 :: y134 :: y135 :: y136 :: y137 :: y138 :: y139 :: y140 :: y141 :: y142 :: y143 :: y144 :: y145 :: y146 :: y147 :: y148 :: y149 :: y150 :: y151 :: y152 :: y153 :: y154 :: y155 :: y156 :: y157 :: y158 :: y159 :: y160 :: y161 :: y162 :: y163 :: y164 :: y165 :: y166 :: y167 :: y168 :: y169 :: y170 :: y171 :: y172 :: y173 :: y174 :: y175 :: y176 :: y177 :: y178 :: y179 :: y180 :: y181 :: y182 :: y183 :: y184 :: y185 :: y186 :: y187 :: y188 :: y189 :: y190 :: y191 :: y192 :: y193 :: y194 :: y195 :: y196 :: y197 :: y198 :: x199 :: x200 :: x201 :: x202 :: x203 :: x204 :: x205 :: x206 :: x207 :: x208 :: x209 :: x210 :: x211 :: x212 :: x213 :: x214 :: x215 :: []), []⟩ wx) : (c13 [1, 1, 1, 1, 1, 1, 1, 1, 1, 0, 1, 0, 0, 1, 0, 0, 1, 1, 1, 1, 1, 1, 1, 1, 1, 1, 1, 1, 1, 0]).wp Tryd.prog (Exit.then K Q') ⟨List.toArray (x0 :: x1 :: x2 :: x3 :: x4 :: x5 :: x6 :: x7 :: x8 :: .pointer (some ⟨gb, 0, none⟩) :: x10 :: .slice aa ps.length ca :: x12 :: x13 :: x14 :: .int .i64 k :: .bool irq :: x17 :: .slice ak blk.length ck :: x19 :: x20 :: x21 :: x22 :: .int .i64 v :: x24 :: x25 :: x26 :: x27 :: x28 :: x29 :: x30 :: x31 :: x32 :: x33 :: x34 :: x35 :: x36 :: x37 :: x38 :: x39 :: x40 :: x41 :: x42 :: x43 :: x44 :: x45 :: x46 :: x47 :: x48 :: x49 :: x50 :: x51 :: x52 :: x53 :: x54 :: x55 :: x56 :: x57 :: x58 :: x59 :: x60 :: x61 :: x62 :: x63 :: x64 :: x65 :: x66 :: x67 :: x68 :: x69 :: x70 :: x71 :: x72 :: x73 :: x74 :: x75 :: x76 :: x77 :: x78 :: x79 :: x80 :: x81 :: x82 :: x83 :: x84 :: x85 :: x86 :: x87 :: x88 :: x89 :: x90 :: x91 :: x92 :: x93 :: x94 :: x95 :: x96 :: x97 :: x98 :: x99 :: x100 :: x101 :: x102 :: x103 :: x104 :: x105 :: x106 :: x107 :: x108 :: x109 :: x110 :: x111 :: x112 :: x113 :: x114 :: x115 :: x116 :: x117 :: x118 :: x119 :: x120 :: x121 :: x122 :: x123 :: x124 :: x125 :: x126 :: x127 :: x128 :: x129 :: x130 :: x131 :: x132 :: x133 :: x134 :: x135 :: x136 :: x137 :: x138 :: x139 :: x140 :: x141 :: x142 :: x143 :: x144 :: x145 :: x146 :: x147 :: x148 :: x149 :: x150 :: x151 :: x152 :: x153 :: x154 :: x155 :: x156 :: x157 :: x158 :: x159 :: x160 :: x161 :: x162 :: x163 :: x164 :: x165 :: x166 :: x167 :: x168 :: x169 :: x170 :: x171 :: x172 :: x173 :: x174 :: x175 :: x176 :: x177 :: x178 :: x179 :: x180 :: x181 :: x182 :: x183 :: x184 :: x185 :: x186 :: x187 :: x188 :: x189 :: x190 :: x191 :: x192 :: x193 :: x194 :: x195 :: x196 :: x197 :: x198 :: x199 :: x200 :: x201 :: x202 :: x203 :: x204 :: x205 :: x206 :: x207 :: x208 :: x209 :: x210 :: x211 :: x212 :: x213 :: x214 :: x215 :: []), []⟩ wz := by
  have HK := Lib.hid hK
  clear hK
  conv => arg 2; whnf
  go_cut [] from 49 to 198 (fun  wx => Hid (DrE w0 gb gr cr mb cm on.1 ps aa ca wx))
  case rest =>
    exact HK.out _ _ _ _ _ _ _ _ _ _ _ _ _ _ _ _ _ _ _ _ _ _ _ _ _ _ _ _ _ _ _ _ _ _ _ _ _ _ _ _ _ _ _ _ _ _ _ _ _ _ _ _ _ _ _ _ _ _ _ _ _ _ _ _ _ _ _ _ _ _ _ _ _ _ _ _ _ _ _ _ _ _ _ _ _ _ _ _ _ _ _ _ _ _ _ _ _ _ _ _ _ _ _ _ _ _ _ _ _ _ _ _ _ _ _ _ _ _ _ _ _ _ _ _ _ _ _ _ _ _ _ _ _ _ _ _ _ _ _ _ _ _ _ _ _ _ _ _ _ _ _ hcut
  case first =>
    clear HK
    obtain ⟨ao, co, hs, hrow, hap⟩ := HD.out
    have HS := Lib.hid hs
    have HST := Lib.hid (stepped_any m wz (Dz gr mb ao m.out.length co) gr cr mb cm ao co irq ak blk ck v wz hs.za.base HOK.out HCT.out HBL.out.1 HBL.out.2 HV.out (fun w' ho => ints_of_owns (own_out hrow ho hap) (by have := HBL.out.1; omega) (fun z hz => (HBL.out.2 z hz).i64)))
    rw [HON.out] at HST
    have p0 : wz.cell? ⟨gb, 0, none⟩ = some (.slice (some ⟨gr, 0, none⟩) 8 cr) := cell_block HS.out.box 0
    have p1 : wz.cell? ⟨gb, 1, none⟩ = some (.int .i64 m.pc) := cell_block HS.out.box 1
    have p2 : wz.cell? ⟨gb, 2, none⟩ = some (.int .i64 m.back) := cell_block HS.out.box 2
    have p3 : wz.cell? ⟨gb, 3, none⟩ = some (.bool m.ints) := cell_block HS.out.box 3
    have p4 : wz.cell? ⟨gb, 4, none⟩ = some (.bool m.wait) := cell_block HS.out.box 4
    have p5 : wz.cell? ⟨gb, 5, none⟩ = some (.int .i64 m.table) := cell_block HS.out.box 5
    have p6 : wz.cell? ⟨gb, 6, none⟩ = some (.int .i64 m.count) := cell_block HS.out.box 6
    have p7 : wz.cell? ⟨gb, 7, none⟩ = some (.int .i64 m.fin) := cell_block HS.out.box 7
    have p8 : wz.cell? ⟨gb, 8, none⟩ = some (.slice (some ⟨mb, 0, none⟩) 256 cm) := cell_block HS.out.box 8
    have p9 : wz.cell? ⟨gb, 9, none⟩ = some (.slice ao m.out.length co) := cell_block HS.out.box 9
    have p10 : wz.cell? ⟨gb, 10, none⟩ = some (.int .i64 m.ready) := cell_block HS.out.box 10
    have p11 : wz.cell? ⟨gb, 11, none⟩ = some (.int .i64 m.want) := cell_block HS.out.box 11
    have lgb : gb < wz.heap.size := (Array.getElem?_eq_some_iff.1 HS.out.box).1
    clear hs hrow hap
    go_wp2_with fail
    refine HST.out.mono ?_
    rintro e w5 ⟨ao2, co2, rfl, hz5⟩
    have HAN := Lib.hid (HS.out.anew hz5)
    have r0 : w5.cell? ⟨gb, 0, none⟩ = some (.slice (some ⟨gr, 0, none⟩) 8 cr) := cell_block HAN.out.1 0
    have g0 := free_block HAN.out.1 0
    have r1 : w5.cell? ⟨gb, 1, none⟩ = some (.int .i64 m.pc) := cell_block HAN.out.1 1
    have g1 := free_block HAN.out.1 1
    have r2 : w5.cell? ⟨gb, 2, none⟩ = some (.int .i64 m.back) := cell_block HAN.out.1 2
    have g2 := free_block HAN.out.1 2
    have r3 : w5.cell? ⟨gb, 3, none⟩ = some (.bool m.ints) := cell_block HAN.out.1 3
    have g3 := free_block HAN.out.1 3
    have r4 : w5.cell? ⟨gb, 4, none⟩ = some (.bool m.wait) := cell_block HAN.out.1 4
    have g4 := free_block HAN.out.1 4
    have r5 : w5.cell? ⟨gb, 5, none⟩ = some (.int .i64 m.table) := cell_block HAN.out.1 5
    have g5 := free_block HAN.out.1 5
    have r6 : w5.cell? ⟨gb, 6, none⟩ = some (.int .i64 m.count) := cell_block HAN.out.1 6
    have g6 := free_block HAN.out.1 6
    have r7 : w5.cell? ⟨gb, 7, none⟩ = some (.int .i64 m.fin) := cell_block HAN.out.1 7
    have g7 := free_block HAN.out.1 7
    have r8 : w5.cell? ⟨gb, 8, none⟩ = some (.slice (some ⟨mb, 0, none⟩) 256 cm) := cell_block HAN.out.1 8
    have g8 := free_block HAN.out.1 8
    have r9 : w5.cell? ⟨gb, 9, none⟩ = some (.slice ao m.out.length co) := cell_block HAN.out.1 9
    have g9 := free_block HAN.out.1 9
    have r10 : w5.cell? ⟨gb, 10, none⟩ = some (.int .i64 m.ready) := cell_block HAN.out.1 10
    have g10 := free_block HAN.out.1 10
    have r11 : w5.cell? ⟨gb, 11, none⟩ = some (.int .i64 m.want) := cell_block HAN.out.1 11
    have g11 := free_block HAN.out.1 11
    have lg5 : gb < w5.heap.size := (Array.getElem?_eq_some_iff.1 HAN.out.1).1
    clear hz5 HST lgb p0 p1 p2 p3 p4 p5 p6 p7 p8 p9 p10 p11
    go_wp2_with fail
    go_meet
    exact Lib.hid ⟨ao2, co2, HAN.out.2⟩

set_option maxHeartbeats 8000000 in
set_option maxRecDepth 100000 in
theorem rr_wants {wz : World} {wb : Nat} {a0 a1 a2 a3 : Option Addr} {c0 c1 c2 c3 : Nat} {is vs : List Int} {bs : List (List Int)} {ds : List Int} {nb : Nat} {due k : Int} {tt : Bool} {K : Act → World → Prop} {Q' : Exit → Act → World → Prop} {x0 x1 x2 x3 x5 x6 x7 x8 x9 x10 x11 x12 x16 x17 x18 x19 x20 x21 x22 x23 x24 x25 x26 x27 x28 x29 x30 x31 x32 x33 x34 x35 x36 x37 x38 x39 x40 x41 x42 x43 x44 x45 x46 x47 x48 x49 x50 x51 x52 x53 x54 x55 x56 x57 x58 x59 x60 x61 x62 x63 x64 x65 x66 x67 x68 x69 x70 x71 x72 x73 x74 x75 x76 x77 x78 x79 x80 x81 x82 x83 x84 x85 x86 x87 x88 x89 x90 x91 x92 x93 x94 x95 x96 x97 x98 x99 x100 x101 x102 x103 x104 x105 x106 x107 x108 x109 x110 x111 x112 x113 x114 x115 x116 x117 x118 x119 x120 x121 x122 x123 x124 x125 x126 x127 x128 x129 x130 x131 x132 x133 x134 x135 x136 x137 x138 x139 x140 x141 x142 x143 x144 x145 x146 x147 x148 x149 x150 x151 x152 x153 x154 x155 x156 x157 x158 x159 x160 x161 x162 x163 x164 x165 x166 x167 x168 x169 x170 x171 x172 x173 x174 x175 x176 x178 x179 x180 x181 x182 x183 x184 x185 x186 x187 x188 x189 x190 x191 x192 x193 x194 x195 x196 x197 x198 x199 x200 x201 x202 x203 x204 x205 x206 x207 x208 x209 x210 x211 x212 x213 x214 x215 : Value} (HW : Hid (wz.heap[wb]? = some (.cells #[.slice a0 is.length c0, .slice a1 vs.length c1, .slice a2 bs.length c2, .slice a3 ds.length c3] 25 (0, 0)))) (HI : Hid (Ints wz.heap.size wz (.slice a3 ds.length c3) ds)) (HK : Hid (0 ≤ k ∧ k < 3000)) (HDS : Hid (∀ z ∈ ds, 0 ≤ z ∧ z ≤ 3000)) (hnb : nb ≤ 4000) (hK : ∀ (y49 y50 y51 y52 y53 y54 y55 y56 y57 y58 y59 y60 y61 y62 y63 y64 y65 y66 y67 y68 y69 y70 y71 y72 y73 y74 y75 y76 y77 y78 y79 y80 y81 y82 y83 y84 y85 y86 y87 y88 y89 y90 y91 y92 y93 y94 y95 y96 y97 y98 y99 y100 y101 y102 y103 y104 y105 y106 y107 y108 y109 y110 y111 y112 y113 y114 y115 y116 y117 y118 y119 y120 y121 y122 y123 y124 y125 y126 y127 y128 y129 y130 y131 y132 y133 y134 y135 y136 y137 y138 y139 y140 y141 y142 y143 y144 y145 y146 y147 y148 y149 y150 y151 y152 y153 y154 y155 y156 y157 y158 y159 y160 y161 y162 y163 y164 y165 y166 y167 y168 y169 y170 y171 y172 y173 y174 y175 y176 y177 y178 y179 y180 y181 y182 y183 y184 y185 y186 y187 y188 y189 y190 y191 y192 y193 y194 y195 y196 y197 y198 : Value) (s13 s14 : Value) (wx : World), (s13 = .int .i64 (if tt = true then ((nb + 1 : Nat) : Int) else (nb : Int)) ∧ s14 = .int .i64 (if tt = true then k + 1 + ds.getD nb 0 else due) ∧ wx = wz) → K ⟨List.toArray (x0 :: x1 :: x2 :: x3 :: .pointer (some ⟨wb, 0, none⟩) :: x5 :: x6 :: x7 :: x8 :: x9 :: x10 :: x11 :: x12 :: s13 :: s14 :: .int .i64 k :: x16 :: x17 :: x18 :: x19 :: x20 :: x21 :: x22 :: x23 :: x24 :: x25 :: x26 :: x27 :: x28 :: x29 :: x30 :: x31 :: x32 :: x33 :: x34 :: x35 :: x36 :: x37 :: x38 :: x39 :: x40 :: x41 :: x42 :: x43 :: x44 :: x45 :: x46 :: x47 :: x48 :: y49 :: y50 :: y51 :: y52 :: y53 :: y54 :: y55 :: y56 :: y57 :: y58 :: y59 :: y60 :: y61 :: y62 :: y63 :: y64 :: y65 :: y66 :: y67 :: y68 :: y69 :: y70 :: y71 :: y72 :: y73 :: y74 :: y75 :: y76 :: y77 :: y78 :: y79 :: y80 :: y81 :: y82 :: y83 :: y84 :: y85 :: y86 :: y87 :: y88 :: y89 :: y90 :: y91 :: y92 :: y93 :: y94 :: y95 :: y96 :: y97 :: y98 :: y99 :: y100 :: y101 :: y102 :: y103 :: y104 :: y105 :: y106 :: y107 :: y108 :: y109 :: y110 :: y111 :: y112 :: y113 :: y114 :: y115 :: y116 :: y117 :: y118 :: y119 :: y120 :: y121 :: y122 :: y123 :: y124 :: y125 :: y126 :: y127 :: y128 :: y129 :: y130 :: y131 :: y132 :: y133 :: y134 :: y135 :: y136 :: y137 :: y138 :: y139 :: y140 :: y141 :: y142 :: y143 :: y144 :: y145 :: y146 :: y147 :: y148 :: y149 :: y150 :: y151 :: y152 :: y153 :: y154 :: y155 :: y156 :: y157 :: y158 :: y159 :: y160 :: y161 :: y162 :: y163 :: y164 :: y165 :: y166 :: y167 :: y168 :: y169 :: y170 :: y171 :: y172 :: y173 :: y174 :: y175 :: y176 :: y177 :: y178 :: y179 :: y180 :: y181 :: y182 :: y183 :: y184 :: y185 :: y186 :: y187 :: y188 :: y189 :: y190 :: y191 :: y192 :: y193 :: y194 :: y195 :: y196 :: y197 :: y198 :: x199 :: x200 :: x201 :: x202 :: x203 :: x204 :: x205 :: x206 :: x207 :: x208 :: x209 :: x210 :: x211 :: x212 :: x213 :: x214 :: x215 :: []), []⟩ wx) : (c13 [1, 1, 1, 1, 1, 1, 1, 1, 1, 0, 1, 0, 0, 1, 0, 0, 1, 1, 1, 1, 1, 1, 1, 1, 1, 1, 1, 1, 1, 1, 0, 1]).wp Tryd.prog (Exit.then K Q') ⟨List.toArray (x0 :: x1 :: x2 :: x3 :: .pointer (some ⟨wb, 0, none⟩) :: x5 :: x6 :: x7 :: x8 :: x9 :: x10 :: x11 :: x12 :: .int .i64 (nb : Int) :: .int .i64 due :: .int .i64 k :: x16 :: x17 :: x18 :: x19 :: x20 :: x21 :: x22 :: x23 :: x24 :: x25 :: x26 :: x27 :: x28 :: x29 :: x30 :: x31 :: x32 :: x33 :: x34 :: x35 :: x36 :: x37 :: x38 :: x39 :: x40 :: x41 :: x42 :: x43 :: x44 :: x45 :: x46 :: x47 :: x48 :: x49 :: x50 :: x51 :: x52 :: x53 :: x54 :: x55 :: x56 :: x57 :: x58 :: x59 :: x60 :: x61 :: x62 :: x63 :: x64 :: x65 :: x66 :: x67 :: x68 :: x69 :: x70 :: x71 :: x72 :: x73 :: x74 :: x75 :: x76 :: x77 :: x78 :: x79 :: x80 :: x81 :: x82 :: x83 :: x84 :: x85 :: x86 :: x87 :: x88 :: x89 :: x90 :: x91 :: x92 :: x93 :: x94 :: x95 :: x96 :: x97 :: x98 :: x99 :: x100 :: x101 :: x102 :: x103 :: x104 :: x105 :: x106 :: x107 :: x108 :: x109 :: x110 :: x111 :: x112 :: x113 :: x114 :: x115 :: x116 :: x117 :: x118 :: x119 :: x120 :: x121 :: x122 :: x123 :: x124 :: x125 :: x126 :: x127 :: x128 :: x129 :: x130 :: x131 :: x132 :: x133 :: x134 :: x135 :: x136 :: x137 :: x138 :: x139 :: x140 :: x141 :: x142 :: x143 :: x144 :: x145 :: x146 :: x147 :: x148 :: x149 :: x150 :: x151 :: x152 :: x153 :: x154 :: x155 :: x156 :: x157 :: x158 :: x159 :: x160 :: x161 :: x162 :: x163 :: x164 :: x165 :: x166 :: x167 :: x168 :: x169 :: x170 :: x171 :: x172 :: x173 :: x174 :: x175 :: x176 :: .bool tt :: x178 :: x179 :: x180 :: x181 :: x182 :: x183 :: x184 :: x185 :: x186 :: x187 :: x188 :: x189 :: x190 :: x191 :: x192 :: x193 :: x194 :: x195 :: x196 :: x197 :: x198 :: x199 :: x200 :: x201 :: x202 :: x203 :: x204 :: x205 :: x206 :: x207 :: x208 :: x209 :: x210 :: x211 :: x212 :: x213 :: x214 :: x215 :: []), []⟩ wz := by
  have HK := Lib.hid hK
  clear hK
  conv => arg 2; whnf
  go_cut [13, 14] from 49 to 198 (fun s13 s14 wx => s13 = .int .i64 (if tt = true then ((nb + 1 : Nat) : Int) else (nb : Int)) ∧ s14 = .int .i64 (if tt = true then k + 1 + ds.getD nb 0 else due) ∧ wx = wz)
  case rest =>
    exact HK.out _ _ _ _ _ _ _ _ _ _ _ _ _ _ _ _ _ _ _ _ _ _ _ _ _ _ _ _ _ _ _ _ _ _ _ _ _ _ _ _ _ _ _ _ _ _ _ _ _ _ _ _ _ _ _ _ _ _ _ _ _ _ _ _ _ _ _ _ _ _ _ _ _ _ _ _ _ _ _ _ _ _ _ _ _ _ _ _ _ _ _ _ _ _ _ _ _ _ _ _ _ _ _ _ _ _ _ _ _ _ _ _ _ _ _ _ _ _ _ _ _ _ _ _ _ _ _ _ _ _ _ _ _ _ _ _ _ _ _ _ _ _ _ _ _ _ _ _ _ _ _ _ _ hcut
  case first =>
    clear HK
    obtain ⟨hk0, hk1⟩ := HK.out
    have hkw : IntKind.i64.wrap (k + 1) = k + 1 := IntWalk.i64_in _ (by omega)
    have hnw : IntKind.i64.wrap ((nb : Int) + 1) = (nb : Int) + 1 := IntWalk.i64_in _ (by omega)
    cases tt with
    | false =>
      go_wp2_with fail
      go_meet
      exact ⟨rfl, rfl, rfl⟩
    | true =>
      have u3 : wz.cell? ⟨wb, 3, none⟩ = some (.slice a3 ds.length c3) := cell_block HW.out 3
      have lw : wb < wz.heap.size := (Array.getElem?_eq_some_iff.1 HW.out).1
      by_cases hj : nb < ds.length
      · have hjl : (nb : Int) < (ds.length : Int) := by omega
        obtain ⟨a', c', hv, hl, _, hcell⟩ := HI.out
        injection hv with e1 e2 e3
        subst e1 e3
        obtain ⟨b, off, vi, rfl, hb, hci, hvi⟩ := hcell nb hj
        obtain ⟨rfl, -⟩ := hvi
        have hz := HDS.out _ (List.getElem_mem hj)
        have HE := Lib.hid (show ds.getD nb 0 = ds[nb] from by rw [List.getD_eq_getElem?_getD, List.getElem?_eq_getElem hj]; rfl)
        have hj0 : (0 : Int) ≤ (nb : Int) := by omega
        clear hcell
        generalize ds[nb] = z at *
        have hzw : IntKind.i64.wrap (k + 1 + z) = k + 1 + z := IntWalk.i64_in _ (by omega)
        go_wp2_with fail
        go_meet
        exact ⟨by first | rfl | (push_cast; rfl), by rw [HE.out]; rfl, rfl⟩
      · have hjl : ¬ (nb : Int) < (ds.length : Int) := by omega
        have HE := Lib.hid (show ds.getD nb 0 = 0 from by rw [List.getD_eq_getElem?_getD, List.getElem?_eq_none (by omega)]; rfl)
        go_wp2_with fail
        go_meet
        exact ⟨by first | rfl | (push_cast; rfl), by rw [HE.out, Int.add_zero]; rfl, rfl⟩

end Go.Proofs.YtenicnneppgfmaaDoor
