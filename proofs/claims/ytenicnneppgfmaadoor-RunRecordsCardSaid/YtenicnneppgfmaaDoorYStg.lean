/- Several texts joined, each with its own heading in the notes: The last copy of the document's stepped; lemmas. The document's stepped: a guest that has ended, or has no instruction. No condition beyond those of each row. -/
import Derived.Test.YtenicnneppgfmaaDoorYStc
import Derived.Handy
import Derived.StillTailTactics
import Derived.Deep.RegionWith
import Derived.Deep.RegionLaw
import Derived.Deep.CutBlock
import Derived.Deep.CutRange
import Derived.Deep.RegionHeld3
import Derived.Deep.LoopGhost
namespace Go.Proofs.YtenicnneppgfmaaDoor
open Go Go.RowKit Go.ChangeShapes Go.WideShapes Go.Deep
set_option linter.unusedVariables false
attribute [local go_sem ↓] Go.wp_at_zero Go.wp_at_succ

theorem instV_yes {z : Int × Int} (h : z.2 = 0) (hc : decC z.1 = 0) : instV z = .agg #[.int .i64 (decOp z.1), .int .i64 (decA z.1), .int .i64 (decB z.1), .int .i64 (decN z.1)] := by unfold instV decV; rw [if_pos h, if_pos hc]
theorem instV_no {z : Int × Int} (h : z.2 ≠ 0) : instV z = .agg #[.int .i64 0, .int .i64 0, .int .i64 0, .int .i64 0] := by unfold instV; rw [if_neg h]
theorem nextZ_dec {m : Mach} (h : (nextZ m).2 = 0) : decC (nextZ m).1 = 0 := by
  unfold nextZ at *
  split at h
  · rename_i k; exact absurd h k
  · rename_i k
    rw [if_neg k]
    split at h
    · simp at h
    · rename_i k2
      rw [if_neg k2]
      simpa using k2
def finM (r : Mach × Int × Int) : Mach × Int := ({ r.1 with fin := r.2.1 }, r.2.2)
theorem RanR.fgo {m5 : Mach} {nx wr : Int} {r : Mach × Int × Int} (h0 : m5.fin = 0) (h : RanR m5 nx wr r) : finM r = (m5.goTo nx, wr) := h.go h0
theorem RanR.fstop {m5 : Mach} {nx wr : Int} {r : Mach × Int × Int} (h0 : m5.fin ≠ 0) (h : RanR m5 nx wr r) : finM r = (m5, wr) := h.stop h0
theorem ranM_yes {m : Mach} (v : Int) (h : (nextZ m).2 = 0) : ranM m v = finM (doM m (decOp (nextZ m).1) (decA (nextZ m).1) (decB (nextZ m).1) (decN (nextZ m).1) v) := by unfold ranM; rw [if_neg (by simpa using h)]; rfl
theorem ranM_no {m : Mach} (v : Int) (h : (nextZ m).2 ≠ 0) : ranM m v = ({ m with fin := (nextZ m).2 }, -1) := by unfold ranM; rw [if_pos h]
set_option maxHeartbeats 8000000 in
set_option maxRecDepth 100000 in
theorem st_r84 {w0 : World} {D : Nat → Prop} {rb bb gr cr mb cm : Nat} {ao : Option Addr} {co : Nat} {m6 : Mach} {wr : Int} {wz : World} {K : Act → World → Prop} {Q' : Exit → Act → World → Prop} {x0 x1 x2 x3 x5 x6 x7 x9 x10 x11 x12 x13 x15 x16 x17 x18 x19 x20 x21 x22 x23 x24 x25 x26 x27 x28 x29 x30 x31 x32 x33 x34 x35 x36 x37 x38 x39 x40 x41 x42 x43 x44 x45 x46 x47 x48 x49 x50 x51 x52 x53 x54 x55 x56 x57 x58 x59 x60 x61 x62 x63 x64 x65 x66 x67 x68 x69 x70 x71 x72 x73 x74 x75 x76 x77 x78 x79 x80 x81 x82 x83 x84 x85 x86 x87 x88 x89 x90 x91 x92 x93 x94 x95 x96 x97 x98 x99 x100 x101 x102 x103 x104 x105 x106 x107 x108 x109 x110 x111 x112 x113 x114 x115 x116 x117 x118 x119 x120 x121 x122 x123 x124 x125 x126 x127 x128 x129 x130 x131 x132 x133 x134 x135 x136 x137 x138 x139 x140 x141 x142 x143 x144 x145 x146 x147 x148 x149 x150 x151 x152 x153 x154 x155 x156 x157 x158 x159 x160 x161 x162 x163 x164 x165 x166 x167 x168 x169 x170 x171 x172 x173 x174 x175 x176 x177 x178 x179 x180 x181 x182 x183 x184 x185 x186 x187 x188 x189 x190 x191 x192 x193 x194 x195 x196 x197 x198 x199 x200 x201 x202 x203 x204 x205 x206 x207 x208 x209 x210 x211 x212 x213 x214 x215 x216 x217 x218 x219 x220 x221 x222 x223 x224 x225 x226 x227 x228 x229 x230 x231 x232 x233 x234 x235 x236 x237 x238 x239 x240 x241 x242 x243 x244 x245 x246 x247 x248 x249 x250 x251 x252 x253 x254 x255 x256 x257 x258 x259 x260 x261 x262 x263 x264 x265 x266 x267 x268 x269 x270 x271 x272 x273 x274 x275 x276 x277 x278 x279 x280 x281 x282 x283 x284 x285 x286 x287 x288 x289 x290 x291 x292 x293 x294 x295 x296 x297 x298 x299 x300 x301 x302 x303 x304 x305 : Value} (HZ6 : Hid (ZSt w0 D rb bb gr cr mb cm m6 ao co wz)) (HRB : Hid (D rb ∨ w0.heap.size ≤ rb)) (hK : ∀ (y304 y305 : Value) (wx : World), Hid (wx.heap[rb]? = some (.cells #[.slice (some ⟨gr, 0, none⟩) 8 cr, .int .i64 m6.pc, .int .i64 m6.back, .bool m6.ints, .bool m6.wait, .int .i64 m6.table, .int .i64 m6.count, .int .i64 m6.fin, .slice (some ⟨mb, 0, none⟩) 256 cm, .slice ao m6.out.length co, .int .i64 m6.ready, .int .i64 m6.want] 30 (0, 0)) ∧ ZM w0 D rb gr cr mb cm m6 ao co wx) → K ⟨List.toArray (x0 :: x1 :: x2 :: x3 :: .pointer (some ⟨bb, 0, none⟩) :: x5 :: x6 :: x7 :: .pointer (some ⟨rb, 0, none⟩) :: .int .i64 wr :: x10 :: x11 :: x12 :: x13 :: .int .i64 wr :: x15 :: x16 :: x17 :: x18 :: x19 :: x20 :: x21 :: x22 :: x23 :: x24 :: x25 :: x26 :: x27 :: x28 :: x29 :: x30 :: x31 :: x32 :: x33 :: x34 :: x35 :: x36 :: x37 :: x38 :: x39 :: x40 :: x41 :: x42 :: x43 :: x44 :: x45 :: x46 :: x47 :: x48 :: x49 :: x50 :: x51 :: x52 :: x53 :: x54 :: x55 :: x56 :: x57 :: x58 :: x59 :: x60 :: x61 :: x62 :: x63 :: x64 :: x65 :: x66 :: x67 :: x68 :: x69 :: x70 :: x71 :: x72 :: x73 :: x74 :: x75 :: x76 :: x77 :: x78 :: x79 :: x80 :: x81 :: x82 :: x83 :: x84 :: x85 :: x86 :: x87 :: x88 :: x89 :: x90 :: x91 :: x92 :: x93 :: x94 :: x95 :: x96 :: x97 :: x98 :: x99 :: x100 :: x101 :: x102 :: x103 :: x104 :: x105 :: x106 :: x107 :: x108 :: x109 :: x110 :: x111 :: x112 :: x113 :: x114 :: x115 :: x116 :: x117 :: x118 :: x119 :: x120 :: x121 :: x122 :: x123 :: x124 :: x125 :: x126 :: x127 :: x128 :: x129 :: x130 :: x131 :: x132 :: x133 :: x134 :: x135 :: x136 :: x137 :: x138 :: x139 :: x140 :: x141 :: x142 :: x143 :: x144 :: x145 :: x146 :: x147 :: x148 :: x149 :: x150 :: x151 :: x152 :: x153 :: x154 :: x155 :: x156 :: x157 :: x158 :: x159 :: x160 :: x161 :: x162 :: x163 :: x164 :: x165 :: x166 :: x167 :: x168 :: x169 :: x170 :: x171 :: x172 :: x173 :: x174 :: x175 :: x176 :: x177 :: x178 :: x179 :: x180 :: x181 :: x182 :: x183 :: x184 :: x185 :: x186 :: x187 :: x188 :: x189 :: x190 :: x191 :: x192 :: x193 :: x194 :: x195 :: x196 :: x197 :: x198 :: x199 :: x200 :: x201 :: x202 :: x203 :: x204 :: x205 :: x206 :: x207 :: x208 :: x209 :: x210 :: x211 :: x212 :: x213 :: x214 :: x215 :: x216 :: x217 :: x218 :: x219 :: x220 :: x221 :: x222 :: x223 :: x224 :: x225 :: x226 :: x227 :: x228 :: x229 :: x230 :: x231 :: x232 :: x233 :: x234 :: x235 :: x236 :: x237 :: x238 :: x239 :: x240 :: x241 :: x242 :: x243 :: x244 :: x245 :: x246 :: x247 :: x248 :: x249 :: x250 :: x251 :: x252 :: x253 :: x254 :: x255 :: x256 :: x257 :: x258 :: x259 :: x260 :: x261 :: x262 :: x263 :: x264 :: x265 :: x266 :: x267 :: x268 :: x269 :: x270 :: x271 :: x272 :: x273 :: x274 :: x275 :: x276 :: x277 :: x278 :: x279 :: x280 :: x281 :: x282 :: x283 :: x284 :: x285 :: x286 :: x287 :: x288 :: x289 :: x290 :: x291 :: x292 :: x293 :: x294 :: x295 :: x296 :: x297 :: x298 :: x299 :: x300 :: x301 :: x302 :: x303 :: y304 :: y305 :: []), []⟩ wx) : (c20 [1, 1, 1, 1, 1, 1, 1, 1, 1, 1, 1, 1, 1, 1, 0]).wp Tryd.prog (Exit.then K Q') ⟨List.toArray (x0 :: x1 :: x2 :: x3 :: .pointer (some ⟨bb, 0, none⟩) :: x5 :: x6 :: x7 :: .pointer (some ⟨rb, 0, none⟩) :: x9 :: x10 :: x11 :: x12 :: x13 :: .int .i64 wr :: x15 :: x16 :: x17 :: x18 :: x19 :: x20 :: x21 :: x22 :: x23 :: x24 :: x25 :: x26 :: x27 :: x28 :: x29 :: x30 :: x31 :: x32 :: x33 :: x34 :: x35 :: x36 :: x37 :: x38 :: x39 :: x40 :: x41 :: x42 :: x43 :: x44 :: x45 :: x46 :: x47 :: x48 :: x49 :: x50 :: x51 :: x52 :: x53 :: x54 :: x55 :: x56 :: x57 :: x58 :: x59 :: x60 :: x61 :: x62 :: x63 :: x64 :: x65 :: x66 :: x67 :: x68 :: x69 :: x70 :: x71 :: x72 :: x73 :: x74 :: x75 :: x76 :: x77 :: x78 :: x79 :: x80 :: x81 :: x82 :: x83 :: x84 :: x85 :: x86 :: x87 :: x88 :: x89 :: x90 :: x91 :: x92 :: x93 :: x94 :: x95 :: x96 :: x97 :: x98 :: x99 :: x100 :: x101 :: x102 :: x103 :: x104 :: x105 :: x106 :: x107 :: x108 :: x109 :: x110 :: x111 :: x112 :: x113 :: x114 :: x115 :: x116 :: x117 :: x118 :: x119 :: x120 :: x121 :: x122 :: x123 :: x124 :: x125 :: x126 :: x127 :: x128 :: x129 :: x130 :: x131 :: x132 :: x133 :: x134 :: x135 :: x136 :: x137 :: x138 :: x139 :: x140 :: x141 :: x142 :: x143 :: x144 :: x145 :: x146 :: x147 :: x148 :: x149 :: x150 :: x151 :: x152 :: x153 :: x154 :: x155 :: x156 :: x157 :: x158 :: x159 :: x160 :: x161 :: x162 :: x163 :: x164 :: x165 :: x166 :: x167 :: x168 :: x169 :: x170 :: x171 :: x172 :: x173 :: x174 :: x175 :: x176 :: x177 :: x178 :: x179 :: x180 :: x181 :: x182 :: x183 :: x184 :: x185 :: x186 :: x187 :: x188 :: x189 :: x190 :: x191 :: x192 :: x193 :: x194 :: x195 :: x196 :: x197 :: x198 :: x199 :: x200 :: x201 :: x202 :: x203 :: x204 :: x205 :: x206 :: x207 :: x208 :: x209 :: x210 :: x211 :: x212 :: x213 :: x214 :: x215 :: x216 :: x217 :: x218 :: x219 :: x220 :: x221 :: x222 :: x223 :: x224 :: x225 :: x226 :: x227 :: x228 :: x229 :: x230 :: x231 :: x232 :: x233 :: x234 :: x235 :: x236 :: x237 :: x238 :: x239 :: x240 :: x241 :: x242 :: x243 :: x244 :: x245 :: x246 :: x247 :: x248 :: x249 :: x250 :: x251 :: x252 :: x253 :: x254 :: x255 :: x256 :: x257 :: x258 :: x259 :: x260 :: x261 :: x262 :: x263 :: x264 :: x265 :: x266 :: x267 :: x268 :: x269 :: x270 :: x271 :: x272 :: x273 :: x274 :: x275 :: x276 :: x277 :: x278 :: x279 :: x280 :: x281 :: x282 :: x283 :: x284 :: x285 :: x286 :: x287 :: x288 :: x289 :: x290 :: x291 :: x292 :: x293 :: x294 :: x295 :: x296 :: x297 :: x298 :: x299 :: x300 :: x301 :: x302 :: x303 :: x304 :: x305 :: []), []⟩ wz := by
  have HK := Lib.hid hK
  clear hK
  conv => arg 2; whnf
  go_cut [9] from 304 (fun s9 wx => s9 = .int .i64 wr ∧ Hid (wx.heap[rb]? = some (.cells #[.slice (some ⟨gr, 0, none⟩) 8 cr, .int .i64 m6.pc, .int .i64 m6.back, .bool m6.ints, .bool m6.wait, .int .i64 m6.table, .int .i64 m6.count, .int .i64 m6.fin, .slice (some ⟨mb, 0, none⟩) 256 cm, .slice ao m6.out.length co, .int .i64 m6.ready, .int .i64 m6.want] 30 (0, 0)) ∧ ZM w0 D rb gr cr mb cm m6 ao co wx))
  case rest =>
    obtain ⟨rfl, hcut⟩ := hcut
    exact HK.out _ _ _ hcut
  case first =>
    clear HK
    have hzz := HZ6.out
    have p0 : wz.cell? ⟨bb, 0, none⟩ = some (.slice (some ⟨gr, 0, none⟩) 8 cr) := cell_block hzz.box 0
    have p1 : wz.cell? ⟨bb, 1, none⟩ = some (.int .i64 m6.pc) := cell_block hzz.box 1
    have p2 : wz.cell? ⟨bb, 2, none⟩ = some (.int .i64 m6.back) := cell_block hzz.box 2
    have p3 : wz.cell? ⟨bb, 3, none⟩ = some (.bool m6.ints) := cell_block hzz.box 3
    have p4 : wz.cell? ⟨bb, 4, none⟩ = some (.bool m6.wait) := cell_block hzz.box 4
    have p5 : wz.cell? ⟨bb, 5, none⟩ = some (.int .i64 m6.table) := cell_block hzz.box 5
    have p6 : wz.cell? ⟨bb, 6, none⟩ = some (.int .i64 m6.count) := cell_block hzz.box 6
    have p7 : wz.cell? ⟨bb, 7, none⟩ = some (.int .i64 m6.fin) := cell_block hzz.box 7
    have p8 : wz.cell? ⟨bb, 8, none⟩ = some (.slice (some ⟨mb, 0, none⟩) 256 cm) := cell_block hzz.box 8
    have p9 : wz.cell? ⟨bb, 9, none⟩ = some (.slice ao m6.out.length co) := cell_block hzz.box 9
    have p10 : wz.cell? ⟨bb, 10, none⟩ = some (.int .i64 m6.ready) := cell_block hzz.box 10
    have p11 : wz.cell? ⟨bb, 11, none⟩ = some (.int .i64 m6.want) := cell_block hzz.box 11
    have r0 : wz.cell? ⟨rb, 0, none⟩ = some (.slice none 0 0) := cell_block hzz.rbox 0
    have g0 := free_block hzz.rbox 0
    have r1 : wz.cell? ⟨rb, 1, none⟩ = some (.int .i64 0) := cell_block hzz.rbox 1
    have g1 := free_block hzz.rbox 1
    have r2 : wz.cell? ⟨rb, 2, none⟩ = some (.int .i64 0) := cell_block hzz.rbox 2
    have g2 := free_block hzz.rbox 2
    have r3 : wz.cell? ⟨rb, 3, none⟩ = some (.bool false) := cell_block hzz.rbox 3
    have g3 := free_block hzz.rbox 3
    have r4 : wz.cell? ⟨rb, 4, none⟩ = some (.bool false) := cell_block hzz.rbox 4
    have g4 := free_block hzz.rbox 4
    have r5 : wz.cell? ⟨rb, 5, none⟩ = some (.int .i64 0) := cell_block hzz.rbox 5
    have g5 := free_block hzz.rbox 5
    have r6 : wz.cell? ⟨rb, 6, none⟩ = some (.int .i64 0) := cell_block hzz.rbox 6
    have g6 := free_block hzz.rbox 6
    have r7 : wz.cell? ⟨rb, 7, none⟩ = some (.int .i64 0) := cell_block hzz.rbox 7
    have g7 := free_block hzz.rbox 7
    have r8 : wz.cell? ⟨rb, 8, none⟩ = some (.slice none 0 0) := cell_block hzz.rbox 8
    have g8 := free_block hzz.rbox 8
    have r9 : wz.cell? ⟨rb, 9, none⟩ = some (.slice none 0 0) := cell_block hzz.rbox 9
    have g9 := free_block hzz.rbox 9
    have r10 : wz.cell? ⟨rb, 10, none⟩ = some (.int .i64 0) := cell_block hzz.rbox 10
    have g10 := free_block hzz.rbox 10
    have r11 : wz.cell? ⟨rb, 11, none⟩ = some (.int .i64 0) := cell_block hzz.rbox 11
    have g11 := free_block hzz.rbox 11
    have lbb := hzz.blt
    have lrb := hzz.rbl
    have hbr : ¬ bb = rb := fun e => hzz.ne e.symm
    have hrb : ¬ rb = bb := hzz.ne
    clear hzz
    go_wp2_with fail
    go_meet
    case rel =>
    have b0 := HZ6.out.rbox
    have b1 : (wz.setCell ⟨rb, 0, none⟩ (.slice (some ⟨gr, 0, none⟩) 8 cr)).heap[rb]? = some (.cells #[.slice (some ⟨gr, 0, none⟩) 8 cr, .int .i64 0, .int .i64 0, .bool false, .bool false, .int .i64 0, .int .i64 0, .int .i64 0, .slice none 0 0, .slice none 0 0, .int .i64 0, .int .i64 0] 30 (0, 0)) := set_block b0 _
    have b2 : ((wz.setCell ⟨rb, 0, none⟩ (.slice (some ⟨gr, 0, none⟩) 8 cr)).setCell ⟨rb, 1, none⟩ (.int .i64 m6.pc)).heap[rb]? = some (.cells #[.slice (some ⟨gr, 0, none⟩) 8 cr, .int .i64 m6.pc, .int .i64 0, .bool false, .bool false, .int .i64 0, .int .i64 0, .int .i64 0, .slice none 0 0, .slice none 0 0, .int .i64 0, .int .i64 0] 30 (0, 0)) := set_block b1 _
    have b3 : (((wz.setCell ⟨rb, 0, none⟩ (.slice (some ⟨gr, 0, none⟩) 8 cr)).setCell ⟨rb, 1, none⟩ (.int .i64 m6.pc)).setCell ⟨rb, 2, none⟩ (.int .i64 m6.back)).heap[rb]? = some (.cells #[.slice (some ⟨gr, 0, none⟩) 8 cr, .int .i64 m6.pc, .int .i64 m6.back, .bool false, .bool false, .int .i64 0, .int .i64 0, .int .i64 0, .slice none 0 0, .slice none 0 0, .int .i64 0, .int .i64 0] 30 (0, 0)) := set_block b2 _
    have b4 : ((((wz.setCell ⟨rb, 0, none⟩ (.slice (some ⟨gr, 0, none⟩) 8 cr)).setCell ⟨rb, 1, none⟩ (.int .i64 m6.pc)).setCell ⟨rb, 2, none⟩ (.int .i64 m6.back)).setCell ⟨rb, 3, none⟩ (.bool m6.ints)).heap[rb]? = some (.cells #[.slice (some ⟨gr, 0, none⟩) 8 cr, .int .i64 m6.pc, .int .i64 m6.back, .bool m6.ints, .bool false, .int .i64 0, .int .i64 0, .int .i64 0, .slice none 0 0, .slice none 0 0, .int .i64 0, .int .i64 0] 30 (0, 0)) := set_block b3 _
    have b5 : (((((wz.setCell ⟨rb, 0, none⟩ (.slice (some ⟨gr, 0, none⟩) 8 cr)).setCell ⟨rb, 1, none⟩ (.int .i64 m6.pc)).setCell ⟨rb, 2, none⟩ (.int .i64 m6.back)).setCell ⟨rb, 3, none⟩ (.bool m6.ints)).setCell ⟨rb, 4, none⟩ (.bool m6.wait)).heap[rb]? = some (.cells #[.slice (some ⟨gr, 0, none⟩) 8 cr, .int .i64 m6.pc, .int .i64 m6.back, .bool m6.ints, .bool m6.wait, .int .i64 0, .int .i64 0, .int .i64 0, .slice none 0 0, .slice none 0 0, .int .i64 0, .int .i64 0] 30 (0, 0)) := set_block b4 _
    have b6 : ((((((wz.setCell ⟨rb, 0, none⟩ (.slice (some ⟨gr, 0, none⟩) 8 cr)).setCell ⟨rb, 1, none⟩ (.int .i64 m6.pc)).setCell ⟨rb, 2, none⟩ (.int .i64 m6.back)).setCell ⟨rb, 3, none⟩ (.bool m6.ints)).setCell ⟨rb, 4, none⟩ (.bool m6.wait)).setCell ⟨rb, 5, none⟩ (.int .i64 m6.table)).heap[rb]? = some (.cells #[.slice (some ⟨gr, 0, none⟩) 8 cr, .int .i64 m6.pc, .int .i64 m6.back, .bool m6.ints, .bool m6.wait, .int .i64 m6.table, .int .i64 0, .int .i64 0, .slice none 0 0, .slice none 0 0, .int .i64 0, .int .i64 0] 30 (0, 0)) := set_block b5 _
    have b7 : (((((((wz.setCell ⟨rb, 0, none⟩ (.slice (some ⟨gr, 0, none⟩) 8 cr)).setCell ⟨rb, 1, none⟩ (.int .i64 m6.pc)).setCell ⟨rb, 2, none⟩ (.int .i64 m6.back)).setCell ⟨rb, 3, none⟩ (.bool m6.ints)).setCell ⟨rb, 4, none⟩ (.bool m6.wait)).setCell ⟨rb, 5, none⟩ (.int .i64 m6.table)).setCell ⟨rb, 6, none⟩ (.int .i64 m6.count)).heap[rb]? = some (.cells #[.slice (some ⟨gr, 0, none⟩) 8 cr, .int .i64 m6.pc, .int .i64 m6.back, .bool m6.ints, .bool m6.wait, .int .i64 m6.table, .int .i64 m6.count, .int .i64 0, .slice none 0 0, .slice none 0 0, .int .i64 0, .int .i64 0] 30 (0, 0)) := set_block b6 _
    have b8 : ((((((((wz.setCell ⟨rb, 0, none⟩ (.slice (some ⟨gr, 0, none⟩) 8 cr)).setCell ⟨rb, 1, none⟩ (.int .i64 m6.pc)).setCell ⟨rb, 2, none⟩ (.int .i64 m6.back)).setCell ⟨rb, 3, none⟩ (.bool m6.ints)).setCell ⟨rb, 4, none⟩ (.bool m6.wait)).setCell ⟨rb, 5, none⟩ (.int .i64 m6.table)).setCell ⟨rb, 6, none⟩ (.int .i64 m6.count)).setCell ⟨rb, 7, none⟩ (.int .i64 m6.fin)).heap[rb]? = some (.cells #[.slice (some ⟨gr, 0, none⟩) 8 cr, .int .i64 m6.pc, .int .i64 m6.back, .bool m6.ints, .bool m6.wait, .int .i64 m6.table, .int .i64 m6.count, .int .i64 m6.fin, .slice none 0 0, .slice none 0 0, .int .i64 0, .int .i64 0] 30 (0, 0)) := set_block b7 _
    have b9 : (((((((((wz.setCell ⟨rb, 0, none⟩ (.slice (some ⟨gr, 0, none⟩) 8 cr)).setCell ⟨rb, 1, none⟩ (.int .i64 m6.pc)).setCell ⟨rb, 2, none⟩ (.int .i64 m6.back)).setCell ⟨rb, 3, none⟩ (.bool m6.ints)).setCell ⟨rb, 4, none⟩ (.bool m6.wait)).setCell ⟨rb, 5, none⟩ (.int .i64 m6.table)).setCell ⟨rb, 6, none⟩ (.int .i64 m6.count)).setCell ⟨rb, 7, none⟩ (.int .i64 m6.fin)).setCell ⟨rb, 8, none⟩ (.slice (some ⟨mb, 0, none⟩) 256 cm)).heap[rb]? = some (.cells #[.slice (some ⟨gr, 0, none⟩) 8 cr, .int .i64 m6.pc, .int .i64 m6.back, .bool m6.ints, .bool m6.wait, .int .i64 m6.table, .int .i64 m6.count, .int .i64 m6.fin, .slice (some ⟨mb, 0, none⟩) 256 cm, .slice none 0 0, .int .i64 0, .int .i64 0] 30 (0, 0)) := set_block b8 _
    have b10 : ((((((((((wz.setCell ⟨rb, 0, none⟩ (.slice (some ⟨gr, 0, none⟩) 8 cr)).setCell ⟨rb, 1, none⟩ (.int .i64 m6.pc)).setCell ⟨rb, 2, none⟩ (.int .i64 m6.back)).setCell ⟨rb, 3, none⟩ (.bool m6.ints)).setCell ⟨rb, 4, none⟩ (.bool m6.wait)).setCell ⟨rb, 5, none⟩ (.int .i64 m6.table)).setCell ⟨rb, 6, none⟩ (.int .i64 m6.count)).setCell ⟨rb, 7, none⟩ (.int .i64 m6.fin)).setCell ⟨rb, 8, none⟩ (.slice (some ⟨mb, 0, none⟩) 256 cm)).setCell ⟨rb, 9, none⟩ (.slice ao m6.out.length co)).heap[rb]? = some (.cells #[.slice (some ⟨gr, 0, none⟩) 8 cr, .int .i64 m6.pc, .int .i64 m6.back, .bool m6.ints, .bool m6.wait, .int .i64 m6.table, .int .i64 m6.count, .int .i64 m6.fin, .slice (some ⟨mb, 0, none⟩) 256 cm, .slice ao m6.out.length co, .int .i64 0, .int .i64 0] 30 (0, 0)) := set_block b9 _
    have b11 : (((((((((((wz.setCell ⟨rb, 0, none⟩ (.slice (some ⟨gr, 0, none⟩) 8 cr)).setCell ⟨rb, 1, none⟩ (.int .i64 m6.pc)).setCell ⟨rb, 2, none⟩ (.int .i64 m6.back)).setCell ⟨rb, 3, none⟩ (.bool m6.ints)).setCell ⟨rb, 4, none⟩ (.bool m6.wait)).setCell ⟨rb, 5, none⟩ (.int .i64 m6.table)).setCell ⟨rb, 6, none⟩ (.int .i64 m6.count)).setCell ⟨rb, 7, none⟩ (.int .i64 m6.fin)).setCell ⟨rb, 8, none⟩ (.slice (some ⟨mb, 0, none⟩) 256 cm)).setCell ⟨rb, 9, none⟩ (.slice ao m6.out.length co)).setCell ⟨rb, 10, none⟩ (.int .i64 m6.ready)).heap[rb]? = some (.cells #[.slice (some ⟨gr, 0, none⟩) 8 cr, .int .i64 m6.pc, .int .i64 m6.back, .bool m6.ints, .bool m6.wait, .int .i64 m6.table, .int .i64 m6.count, .int .i64 m6.fin, .slice (some ⟨mb, 0, none⟩) 256 cm, .slice ao m6.out.length co, .int .i64 m6.ready, .int .i64 0] 30 (0, 0)) := set_block b10 _
    have b12 : ((((((((((((wz.setCell ⟨rb, 0, none⟩ (.slice (some ⟨gr, 0, none⟩) 8 cr)).setCell ⟨rb, 1, none⟩ (.int .i64 m6.pc)).setCell ⟨rb, 2, none⟩ (.int .i64 m6.back)).setCell ⟨rb, 3, none⟩ (.bool m6.ints)).setCell ⟨rb, 4, none⟩ (.bool m6.wait)).setCell ⟨rb, 5, none⟩ (.int .i64 m6.table)).setCell ⟨rb, 6, none⟩ (.int .i64 m6.count)).setCell ⟨rb, 7, none⟩ (.int .i64 m6.fin)).setCell ⟨rb, 8, none⟩ (.slice (some ⟨mb, 0, none⟩) 256 cm)).setCell ⟨rb, 9, none⟩ (.slice ao m6.out.length co)).setCell ⟨rb, 10, none⟩ (.int .i64 m6.ready)).setCell ⟨rb, 11, none⟩ (.int .i64 m6.want)).heap[rb]? = some (.cells #[.slice (some ⟨gr, 0, none⟩) 8 cr, .int .i64 m6.pc, .int .i64 m6.back, .bool m6.ints, .bool m6.wait, .int .i64 m6.table, .int .i64 m6.count, .int .i64 m6.fin, .slice (some ⟨mb, 0, none⟩) 256 cm, .slice ao m6.out.length co, .int .i64 m6.ready, .int .i64 m6.want] 30 (0, 0)) := set_block b11 _
    refine ⟨rfl, Lib.hid ⟨b12, ?_⟩⟩
    repeat' (refine ZM.step ?_ HRB.out _ _)
    exact HZ6.out.zm

end Go.Proofs.YtenicnneppgfmaaDoor
namespace Go.Proofs.YtenicnneppgfmaaDoor
open Go Go.RowKit Go.ChangeShapes Go.WideShapes Go.Deep
set_option linter.unusedVariables false
attribute [local go_sem ↓] Go.wp_at_zero Go.wp_at_succ

set_option maxHeartbeats 8000000 in
set_option maxRecDepth 100000 in
theorem stepped_end (m : Mach) (w0 : World) (D : Nat → Prop) (gr cr mb cm : Nat) (ao : Option Addr) (co : Nat) (irq : Bool) (ba : Option Addr) (b : List Int) (bc : Nat) (value : Int) (w : World) (hz : ZA w0 D gr cr mb cm m ao co w) (hf : m.fin ≠ 0) : Calls Tryd.prog 52 #[.agg #[.slice (some ⟨gr, 0, none⟩) 8 cr, .int .i64 m.pc, .int .i64 m.back, .bool m.ints, .bool m.wait, .int .i64 m.table, .int .i64 m.count, .int .i64 m.fin, .slice (some ⟨mb, 0, none⟩) 256 cm, .slice ao m.out.length co, .int .i64 m.ready, .int .i64 m.want], .bool irq, .slice ba b.length bc, .int .i64 value] w (ZdPost w0 D gr cr mb cm (stepM m irq b value)) := by
  rw [stepM_end hf]
  have HS := Lib.hid hz.start
  have HRB : Hid (D (w.heap.size + 1) ∨ w0.heap.size ≤ w.heap.size + 1) := Lib.hid (Or.inr (by have := hz.old.size; omega))
  have hfb : (m.fin != 0) = true := by rw [bne_iff_ne]; exact hf
  clear hz hf
  go_enter Tryd.func52, Tryd.ntmps52
  go_upto_region 1 with fail
  generalize hW : World.alloc (World.alloc w _) _ = W1 at *
  generalize hrb : w.heap.size + 1 = rb at *
  generalize hbb : w.heap.size = bb at *
  clear hW hrb hbb
  have hzz := HS.out
  have p0 : W1.cell? ⟨bb, 0, none⟩ = some (.slice (some ⟨gr, 0, none⟩) 8 cr) := cell_block hzz.box 0
  have p1 : W1.cell? ⟨bb, 1, none⟩ = some (.int .i64 m.pc) := cell_block hzz.box 1
  have p2 : W1.cell? ⟨bb, 2, none⟩ = some (.int .i64 m.back) := cell_block hzz.box 2
  have p3 : W1.cell? ⟨bb, 3, none⟩ = some (.bool m.ints) := cell_block hzz.box 3
  have p4 : W1.cell? ⟨bb, 4, none⟩ = some (.bool m.wait) := cell_block hzz.box 4
  have p5 : W1.cell? ⟨bb, 5, none⟩ = some (.int .i64 m.table) := cell_block hzz.box 5
  have p6 : W1.cell? ⟨bb, 6, none⟩ = some (.int .i64 m.count) := cell_block hzz.box 6
  have p7 : W1.cell? ⟨bb, 7, none⟩ = some (.int .i64 m.fin) := cell_block hzz.box 7
  have p8 : W1.cell? ⟨bb, 8, none⟩ = some (.slice (some ⟨mb, 0, none⟩) 256 cm) := cell_block hzz.box 8
  have p9 : W1.cell? ⟨bb, 9, none⟩ = some (.slice ao m.out.length co) := cell_block hzz.box 9
  have p10 : W1.cell? ⟨bb, 10, none⟩ = some (.int .i64 m.ready) := cell_block hzz.box 10
  have p11 : W1.cell? ⟨bb, 11, none⟩ = some (.int .i64 m.want) := cell_block hzz.box 11
  have r0 : W1.cell? ⟨rb, 0, none⟩ = some (.slice none 0 0) := cell_block hzz.rbox 0
  have g0 := free_block hzz.rbox 0
  have r1 : W1.cell? ⟨rb, 1, none⟩ = some (.int .i64 0) := cell_block hzz.rbox 1
  have g1 := free_block hzz.rbox 1
  have r2 : W1.cell? ⟨rb, 2, none⟩ = some (.int .i64 0) := cell_block hzz.rbox 2
  have g2 := free_block hzz.rbox 2
  have r3 : W1.cell? ⟨rb, 3, none⟩ = some (.bool false) := cell_block hzz.rbox 3
  have g3 := free_block hzz.rbox 3
  have r4 : W1.cell? ⟨rb, 4, none⟩ = some (.bool false) := cell_block hzz.rbox 4
  have g4 := free_block hzz.rbox 4
  have r5 : W1.cell? ⟨rb, 5, none⟩ = some (.int .i64 0) := cell_block hzz.rbox 5
  have g5 := free_block hzz.rbox 5
  have r6 : W1.cell? ⟨rb, 6, none⟩ = some (.int .i64 0) := cell_block hzz.rbox 6
  have g6 := free_block hzz.rbox 6
  have r7 : W1.cell? ⟨rb, 7, none⟩ = some (.int .i64 0) := cell_block hzz.rbox 7
  have g7 := free_block hzz.rbox 7
  have r8 : W1.cell? ⟨rb, 8, none⟩ = some (.slice none 0 0) := cell_block hzz.rbox 8
  have g8 := free_block hzz.rbox 8
  have r9 : W1.cell? ⟨rb, 9, none⟩ = some (.slice none 0 0) := cell_block hzz.rbox 9
  have g9 := free_block hzz.rbox 9
  have r10 : W1.cell? ⟨rb, 10, none⟩ = some (.int .i64 0) := cell_block hzz.rbox 10
  have g10 := free_block hzz.rbox 10
  have r11 : W1.cell? ⟨rb, 11, none⟩ = some (.int .i64 0) := cell_block hzz.rbox 11
  have g11 := free_block hzz.rbox 11
  have lbb := hzz.blt
  have lrb := hzz.rbl
  have hbr : ¬ bb = rb := fun e => hzz.ne e.symm
  have hrb : ¬ rb = bb := hzz.ne
  clear hzz
  go_wp2_with fail
  refine bodyPost_ret (v := .tuple #[.agg #[.slice (some ⟨gr, 0, none⟩) 8 cr, .int .i64 m.pc, .int .i64 m.back, .bool m.ints, .bool m.wait, .int .i64 m.table, .int .i64 m.count, .int .i64 m.fin, .slice (some ⟨mb, 0, none⟩) 256 cm, .slice ao m.out.length co, .int .i64 m.ready, .int .i64 m.want], .int .i64 (-1)]) (by simp [results, Tryd.results52, go_sem, r0, r1, r2, r3, r4, r5, r6, r7, r8, r9, r10, r11]) rfl ?_
  clear p0 p1 p2 p3 p4 p5 p6 p7 p8 p9 p10 p11 r0 r1 r2 r3 r4 r5 r6 r7 r8 r9 r10 r11 g0 g1 g2 g3 g4 g5 g6 g7 g8 g9 g10 g11
  skip
  refine ⟨ao, co, rfl, ZM.za (rb := rb) ?_⟩
  repeat' (refine ZM.step ?_ HRB.out _ _)
  exact HS.out.zm

set_option maxHeartbeats 8000000 in
set_option maxRecDepth 100000 in
theorem stepped_bad (m : Mach) (w0 : World) (D : Nat → Prop) (gr cr mb cm : Nat) (ao : Option Addr) (co : Nat) (irq : Bool) (ba : Option Addr) (b : List Int) (bc : Nat) (value : Int) (w : World) (hz : ZA w0 D gr cr mb cm m ao co w) (hf : m.fin = 0) (hok : MOk m) (hc : m.count < 1099511627776) (hl : b.length = 0 ∨ b.length = 16) (hwb : ∀ z ∈ b, WordZ z) (hv : WordZ value) (hb : ∀ w', OutF D w0 w' → Ints w'.heap.size w' (.slice ba b.length bc) b) (he : (nextZ ({ enterM (blockM (irqM m irq) b) with count := (enterM (blockM (irqM m irq) b)).count + 1 } : Mach)).2 ≠ 0) : Calls Tryd.prog 52 #[.agg #[.slice (some ⟨gr, 0, none⟩) 8 cr, .int .i64 m.pc, .int .i64 m.back, .bool m.ints, .bool m.wait, .int .i64 m.table, .int .i64 m.count, .int .i64 m.fin, .slice (some ⟨mb, 0, none⟩) 256 cm, .slice ao m.out.length co, .int .i64 m.ready, .int .i64 m.want], .bool irq, .slice ba b.length bc, .int .i64 value] w (ZdPost w0 D gr cr mb cm (stepM m irq b value)) := by
  have HS := Lib.hid hz.start
  have HRB : Hid (D (w.heap.size + 1) ∨ w0.heap.size ≤ w.heap.size + 1) := Lib.hid (Or.inr (by have := hz.old.size; omega))
  have hfb : (m.fin != 0) = false := by rw [hf]; rfl
  have HF0 := Lib.hid hf
  have HBK := Lib.hid hb
  have HST : Hid (stepM m irq b value = execM (enterM (blockM (irqM m irq) b)) value) := Lib.hid rfl
  have HOK1 : Hid (MOk (irqM m irq)) := Lib.hid (hok.irq irq)
  have HF1 : Hid ((irqM m irq).fin = 0) := Lib.hid ((irqM_fin m irq).1.trans hf)
  have HC1 : Hid ((irqM m irq).count < 1099511627776) := Lib.hid (by rw [(irqM_fin m irq).2]; exact hc)
  have HL := Lib.hid hl
  have HWB := Lib.hid hwb
  have HWV := Lib.hid hv
  have HE := Lib.hid he
  clear hz hf hok hc hl hwb hv hb he
  go_enter Tryd.func52, Tryd.ntmps52
  go_upto_region 3 with fail
  generalize hW : World.alloc (World.alloc w _) _ = W1 at *
  generalize hrb : w.heap.size + 1 = rb at *
  generalize hbb : w.heap.size = bb at *
  clear hW hrb hbb
  refine st_irq HS HF0.out ?_
  intros
  rename_i wc hcut
  clear HS hfb HF0
  generalize irqM m irq = m1 at *
  obtain ⟨ao, co, hs1⟩ := hcut.out
  have HZ := Lib.hid hs1
  clear hs1 hcut
  go_upto_region 4 with fail
  refine st_t4 HZ ?_
  intros
  go_upto_if 38 with fail
  refine st_b38 HZ HOK1 HF1 HL HBK ?_
  intros
  rename_i wc hcut
  clear HZ
  have HOK2 : Hid (MOk (blockM m1 b)) := Lib.hid (HOK1.out.block HL.out HWB.out)
  have HF2 : Hid ((blockM m1 b).fin = 0) := Lib.hid ((blockM_fin m1 b).1.trans HF1.out)
  have HC2 : Hid ((blockM m1 b).count < 1099511627776) := Lib.hid (by rw [(blockM_fin m1 b).2]; exact HC1.out)
  clear HOK1 HF1 HC1
  generalize blockM m1 b = m2 at *
  obtain ⟨ao, co, hs2⟩ := hcut.out
  have HZ := Lib.hid hs2
  clear hs2 hcut
  go_upto_region 12 with fail
  refine st_t12 HZ ?_
  intros
  go_upto_if 63 with fail
  refine st_e63 HZ HF2 ?_
  intros
  rename_i wc hcut
  clear HZ
  have HOK3 : Hid (MOk (enterM m2)) := Lib.hid HOK2.out.enter
  have HF3 : Hid ((enterM m2).fin = 0) := Lib.hid ((enterM_fin m2).1.trans HF2.out)
  have HC3 : Hid ((enterM m2).count < 1099511627776) := Lib.hid (by rw [(enterM_fin m2).2]; exact HC2.out)
  clear HOK2 HF2 HC2
  generalize enterM m2 = m3 at *
  obtain ⟨ao, co, hs3⟩ := hcut.out
  have HZ := Lib.hid hs3
  clear hs3 hcut
  go_upto_region 17 with fail
  refine st_c17 HZ HC3.out HOK3.out.count.1 ?_
  intros
  rename_i wc hcut
  clear HZ
  have HOK4 : Hid (MOk { m3 with count := m3.count + 1 }) := Lib.hid (by have := HOK3.out.tick HC3.out (e := 0) (by omega) (by omega); rw [← HF3.out] at this; exact this)
  have HF4 : Hid (({ m3 with count := m3.count + 1 } : Mach).fin = 0) := Lib.hid HF3.out
  have HST4 : Hid (stepM m irq b value = ranM { m3 with count := m3.count + 1 } value) := Lib.hid (by rw [HST.out, execM_ran HF3.out])
  clear HOK3 HF3 HC3 HST
  generalize ({ m3 with count := m3.count + 1 } : Mach) = m4 at *
  have HZ := Lib.hid hcut.out
  clear hcut
  have HNX := Lib.hid (fun w' hm => nextof_any m4 (.slice (some ⟨gr, 0, none⟩) 8 cr) (.slice ao m4.out.length co) mb cm w' HOK4.out hm)
  have hzz := HZ.out
  have p0 : wc.cell? ⟨bb, 0, none⟩ = some (.slice (some ⟨gr, 0, none⟩) 8 cr) := cell_block hzz.box 0
  have p1 : wc.cell? ⟨bb, 1, none⟩ = some (.int .i64 m4.pc) := cell_block hzz.box 1
  have p2 : wc.cell? ⟨bb, 2, none⟩ = some (.int .i64 m4.back) := cell_block hzz.box 2
  have p3 : wc.cell? ⟨bb, 3, none⟩ = some (.bool m4.ints) := cell_block hzz.box 3
  have p4 : wc.cell? ⟨bb, 4, none⟩ = some (.bool m4.wait) := cell_block hzz.box 4
  have p5 : wc.cell? ⟨bb, 5, none⟩ = some (.int .i64 m4.table) := cell_block hzz.box 5
  have p6 : wc.cell? ⟨bb, 6, none⟩ = some (.int .i64 m4.count) := cell_block hzz.box 6
  have p7 : wc.cell? ⟨bb, 7, none⟩ = some (.int .i64 m4.fin) := cell_block hzz.box 7
  have p8 : wc.cell? ⟨bb, 8, none⟩ = some (.slice (some ⟨mb, 0, none⟩) 256 cm) := cell_block hzz.box 8
  have p9 : wc.cell? ⟨bb, 9, none⟩ = some (.slice ao m4.out.length co) := cell_block hzz.box 9
  have p10 : wc.cell? ⟨bb, 10, none⟩ = some (.int .i64 m4.ready) := cell_block hzz.box 10
  have p11 : wc.cell? ⟨bb, 11, none⟩ = some (.int .i64 m4.want) := cell_block hzz.box 11
  have lbb := hzz.blt
  clear hzz
  have HEND : Hid (stepM m irq b value = (({ m4 with fin := (nextZ m4).2 } : Mach), -1)) := Lib.hid (by rw [HST4.out, ranM_no _ HE.out])
  rw [instV_no HE.out] at HNX
  have heb : ((nextZ m4).2 != 0) = true := by rw [bne_iff_ne]; exact HE.out
  clear HE HST4
  generalize (nextZ m4).2 = e at *
  go_upto_region 20 with (go_at_call 86; (with_reducible refine (HNX.out _ ?_).mono ?_); exact HZ.out.mem; rintro en w1 ⟨rfl, hb1⟩; have HZ1 := Lib.hid (HZ.out.kept hb1); clear hb1)
  clear p0 p1 p2 p3 p4 p5 p6 p7 p8 p9 p10 p11 lbb HZ
  have HZ := Lib.hid (HZ1.out.alloc (.cells #[.int .i64 0, .int .i64 0, .int .i64 0, .int .i64 0] 82 (0, 0)))
  generalize hW : World.alloc w1 _ = wz at *
  clear hW
  have k7 : wz.cell? ⟨bb, 7, none⟩ = some (.int .i64 m4.fin) := cell_block HZ.out.box 7
  have f7 := free_block HZ.out.box 7
  have lbb := HZ.out.blt
  go_cut [] from 81 (fun wx => Hid (ZSt w0 D rb bb gr cr mb cm { m4 with fin := e } ao co wx))
  case first =>
    go_wp2_with fail
    go_meet
    case rel => exact Lib.hid (HZ.out.put 7 (.int .i64 e) { m4 with fin := e } rfl rfl rfl rfl)
  case rest =>
  have HZ6 := Lib.hid hcut.out
  clear hcut k7 f7 lbb HZ HZ1
  generalize ({ m4 with fin := e } : Mach) = m6 at *
  have hzz := HZ6.out
  have p0 : wc.cell? ⟨bb, 0, none⟩ = some (.slice (some ⟨gr, 0, none⟩) 8 cr) := cell_block hzz.box 0
  have p1 : wc.cell? ⟨bb, 1, none⟩ = some (.int .i64 m6.pc) := cell_block hzz.box 1
  have p2 : wc.cell? ⟨bb, 2, none⟩ = some (.int .i64 m6.back) := cell_block hzz.box 2
  have p3 : wc.cell? ⟨bb, 3, none⟩ = some (.bool m6.ints) := cell_block hzz.box 3
  have p4 : wc.cell? ⟨bb, 4, none⟩ = some (.bool m6.wait) := cell_block hzz.box 4
  have p5 : wc.cell? ⟨bb, 5, none⟩ = some (.int .i64 m6.table) := cell_block hzz.box 5
  have p6 : wc.cell? ⟨bb, 6, none⟩ = some (.int .i64 m6.count) := cell_block hzz.box 6
  have p7 : wc.cell? ⟨bb, 7, none⟩ = some (.int .i64 m6.fin) := cell_block hzz.box 7
  have p8 : wc.cell? ⟨bb, 8, none⟩ = some (.slice (some ⟨mb, 0, none⟩) 256 cm) := cell_block hzz.box 8
  have p9 : wc.cell? ⟨bb, 9, none⟩ = some (.slice ao m6.out.length co) := cell_block hzz.box 9
  have p10 : wc.cell? ⟨bb, 10, none⟩ = some (.int .i64 m6.ready) := cell_block hzz.box 10
  have p11 : wc.cell? ⟨bb, 11, none⟩ = some (.int .i64 m6.want) := cell_block hzz.box 11
  have r0 : wc.cell? ⟨rb, 0, none⟩ = some (.slice none 0 0) := cell_block hzz.rbox 0
  have g0 := free_block hzz.rbox 0
  have r1 : wc.cell? ⟨rb, 1, none⟩ = some (.int .i64 0) := cell_block hzz.rbox 1
  have g1 := free_block hzz.rbox 1
  have r2 : wc.cell? ⟨rb, 2, none⟩ = some (.int .i64 0) := cell_block hzz.rbox 2
  have g2 := free_block hzz.rbox 2
  have r3 : wc.cell? ⟨rb, 3, none⟩ = some (.bool false) := cell_block hzz.rbox 3
  have g3 := free_block hzz.rbox 3
  have r4 : wc.cell? ⟨rb, 4, none⟩ = some (.bool false) := cell_block hzz.rbox 4
  have g4 := free_block hzz.rbox 4
  have r5 : wc.cell? ⟨rb, 5, none⟩ = some (.int .i64 0) := cell_block hzz.rbox 5
  have g5 := free_block hzz.rbox 5
  have r6 : wc.cell? ⟨rb, 6, none⟩ = some (.int .i64 0) := cell_block hzz.rbox 6
  have g6 := free_block hzz.rbox 6
  have r7 : wc.cell? ⟨rb, 7, none⟩ = some (.int .i64 0) := cell_block hzz.rbox 7
  have g7 := free_block hzz.rbox 7
  have r8 : wc.cell? ⟨rb, 8, none⟩ = some (.slice none 0 0) := cell_block hzz.rbox 8
  have g8 := free_block hzz.rbox 8
  have r9 : wc.cell? ⟨rb, 9, none⟩ = some (.slice none 0 0) := cell_block hzz.rbox 9
  have g9 := free_block hzz.rbox 9
  have r10 : wc.cell? ⟨rb, 10, none⟩ = some (.int .i64 0) := cell_block hzz.rbox 10
  have g10 := free_block hzz.rbox 10
  have r11 : wc.cell? ⟨rb, 11, none⟩ = some (.int .i64 0) := cell_block hzz.rbox 11
  have g11 := free_block hzz.rbox 11
  have lbb := hzz.blt
  have lrb := hzz.rbl
  have hbr : ¬ bb = rb := fun e => hzz.ne e.symm
  have hrb : ¬ rb = bb := hzz.ne
  clear hzz
  go_wp2_with fail
  refine bodyPost_ret (v := .tuple #[.agg #[.slice (some ⟨gr, 0, none⟩) 8 cr, .int .i64 m6.pc, .int .i64 m6.back, .bool m6.ints, .bool m6.wait, .int .i64 m6.table, .int .i64 m6.count, .int .i64 m6.fin, .slice (some ⟨mb, 0, none⟩) 256 cm, .slice ao m6.out.length co, .int .i64 m6.ready, .int .i64 m6.want], .int .i64 (-1)]) (by simp [results, Tryd.results52, go_sem, r0, r1, r2, r3, r4, r5, r6, r7, r8, r9, r10, r11]) rfl ?_
  clear p0 p1 p2 p3 p4 p5 p6 p7 p8 p9 p10 p11 r0 r1 r2 r3 r4 r5 r6 r7 r8 r9 r10 r11 g0 g1 g2 g3 g4 g5 g6 g7 g8 g9 g10 g11
  rw [HEND.out]
  refine ⟨ao, co, rfl, ZM.za (rb := rb) ?_⟩
  repeat' (refine ZM.step ?_ HRB.out _ _)
  exact HZ6.out.zm
end Go.Proofs.YtenicnneppgfmaaDoor
