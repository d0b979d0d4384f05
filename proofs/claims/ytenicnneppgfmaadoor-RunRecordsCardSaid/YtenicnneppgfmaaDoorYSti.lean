/- Several texts joined, each with its own heading in the notes: The switch of the document's stepped, whatever instruction. The document's stepped. No condition beyond those of each row. -/
import Derived.Test.YtenicnneppgfmaaDoorYStd0
import Derived.Test.YtenicnneppgfmaaDoorYStd1
import Derived.Test.YtenicnneppgfmaaDoorYStd2
import Derived.Test.YtenicnneppgfmaaDoorYStd3
import Derived.Handy
import Derived.StillTailTactics
import Derived.Deep.RegionWith
import Derived.Deep.RegionLaw
import Derived.Deep.CutBlock
import Derived.Deep.CutRange
import Derived.Deep.RegionHeld3
import Derived.Deep.LoopGhost
import Derived.Test.YtenicnneppgfmaaDoorYStg
namespace Go.Proofs.YtenicnneppgfmaaDoor
open Go Go.RowKit Go.ChangeShapes Go.WideShapes Go.Deep
set_option linter.unusedVariables false
attribute [local go_sem ↓] Go.wp_at_zero Go.wp_at_succ

set_option maxHeartbeats 8000000 in
set_option maxRecDepth 100000 in
theorem st_sw {w0 : World} {D : Nat → Prop} {rb bb gr cr mb cm : Nat} {ao : Option Addr} {co : Nat} {m4 : Mach} {a c ib : Nat} {op n value : Int} {wz : World} {K : Act → World → Prop} {Q' : Exit → Act → World → Prop} {x0 x1 x2 x5 x6 x7 x8 x9 x10 x12 x17 x18 x19 x20 x21 x22 x23 x24 x25 x26 x27 x28 x29 x30 x31 x32 x33 x34 x35 x36 x37 x38 x39 x40 x41 x42 x43 x44 x45 x46 x47 x48 x49 x50 x51 x52 x53 x54 x55 x56 x57 x58 x59 x60 x61 x62 x63 x64 x65 x66 x67 x68 x69 x70 x71 x72 x73 x74 x75 x76 x77 x78 x79 x80 x81 x82 x83 x84 x85 x86 x87 x88 x89 x90 x91 x92 x93 x94 x95 x96 x97 x98 x99 x101 x102 x103 x104 x105 x106 x107 x108 x109 x110 x111 x112 x113 x114 x115 x116 x117 x118 x119 x120 x121 x122 x123 x124 x125 x126 x127 x128 x129 x130 x131 x132 x133 x134 x135 x136 x137 x138 x139 x140 x141 x142 x143 x144 x145 x146 x147 x148 x149 x150 x151 x152 x153 x154 x155 x156 x157 x158 x159 x160 x161 x162 x163 x164 x165 x166 x167 x168 x169 x170 x171 x172 x173 x174 x175 x176 x177 x178 x179 x180 x181 x182 x183 x184 x185 x186 x187 x188 x189 x190 x191 x192 x193 x194 x195 x196 x197 x198 x199 x200 x201 x202 x203 x204 x205 x206 x207 x208 x209 x210 x211 x212 x213 x214 x215 x216 x217 x218 x219 x220 x221 x222 x223 x224 x225 x226 x227 x228 x229 x230 x231 x232 x233 x234 x235 x236 x237 x238 x239 x240 x241 x242 x243 x244 x245 x246 x247 x248 x249 x250 x251 x252 x253 x254 x255 x256 x257 x258 x259 x260 x261 x262 x263 x264 x265 x266 x267 x268 x269 x270 x271 x272 x273 x274 x275 x276 x277 x278 x279 x280 x281 x282 x283 x284 x285 x286 x287 x288 x289 x290 x291 x292 x293 x294 x295 x296 x297 x298 x299 x300 x301 x302 x303 x304 x305 : Value} (HZ : Hid (ZSt w0 D rb bb gr cr mb cm m4 ao co wz)) (HOK4 : Hid (MOk m4)) (HF4 : Hid (m4.fin = 0)) (ha : a < 8) (hc8 : c < 8) (hnn : -1048576 ≤ n ∧ n ≤ 1048575) (hsm : op = 2 ∨ op = 3 → 0 ≤ n ∧ n < 8) (hib : wz.heap[ib]? = some (.cells #[.int .i64 op, .int .i64 a, .int .i64 c, .int .i64 n] 82 (0, 0))) (hne : ib ≠ bb ∧ ib ≠ gr) (hop : 0 ≤ op ∧ op ≤ 15) (hK : ∀ (y17 y18 y19 y20 y101 y102 y103 y104 y105 y106 y107 y108 y109 y110 y111 y112 y113 y114 y115 y116 y117 y118 y119 y120 y121 y122 y123 y124 y125 y126 y127 y128 y129 y130 y131 y132 y133 y134 y135 y136 y137 y138 y139 y140 y141 y142 y143 y144 y145 y146 y147 y148 y149 y150 y151 y152 y153 y154 y155 y156 y157 y158 y159 y160 y161 y162 y163 y164 y165 y166 y167 y168 y169 y170 y171 y172 y173 y174 y175 y176 y177 y178 y179 y180 y181 y182 y183 y184 y185 y186 y187 y188 y189 y190 y191 y192 y193 y194 y195 y196 y197 y198 y199 y200 y201 y202 y203 y204 y205 y206 y207 y208 y209 y210 y211 y212 y213 y214 y215 y216 y217 y218 y219 y220 y221 y222 y223 y224 y225 y226 y227 y228 y229 y230 y231 y232 y233 y234 y235 y236 y237 y238 y239 y240 y241 y242 y243 y244 y245 y246 y247 y248 y249 y250 y251 y252 y253 y254 y255 y256 y257 y258 y259 y260 y261 y262 y263 y264 y265 y266 y267 y268 y269 y270 y271 y272 y273 y274 y275 y276 y277 y278 y279 y280 y281 y282 y283 y284 y285 y286 y287 y288 y289 y290 y291 y292 y293 y294 y295 y296 y297 y298 y299 y300 y301 y302 y303 y304 y305 : Value) (s13 s14 : Value) (wx : World), (∃ (m5 : Mach) (nx wr : Int), s13 = .int .i64 nx ∧ s14 = .int .i64 wr ∧ Hid (-4398046511104 ≤ nx ∧ nx ≤ 4398046511104) ∧ Hid (ZS w0 D rb bb gr cr mb cm m5 wx) ∧ Hid (RanR m5 nx wr (doM m4 op a c n value))) → K ⟨List.toArray (x0 :: x1 :: x2 :: .int .i64 value :: .pointer (some ⟨bb, 0, none⟩) :: x5 :: x6 :: x7 :: x8 :: x9 :: x10 :: .pointer (some ⟨ib, 0, none⟩) :: x12 :: s13 :: s14 :: .int .i64 (m4.reg a) :: .int .i64 (m4.reg c) :: y17 :: y18 :: y19 :: y20 :: x21 :: x22 :: x23 :: x24 :: x25 :: x26 :: x27 :: x28 :: x29 :: x30 :: x31 :: x32 :: x33 :: x34 :: x35 :: x36 :: x37 :: x38 :: x39 :: x40 :: x41 :: x42 :: x43 :: x44 :: x45 :: x46 :: x47 :: x48 :: x49 :: x50 :: x51 :: x52 :: x53 :: x54 :: x55 :: x56 :: x57 :: x58 :: x59 :: x60 :: x61 :: x62 :: x63 :: x64 :: x65 :: x66 :: x67 :: x68 :: x69 :: x70 :: x71 :: x72 :: x73 :: x74 :: x75 :: x76 :: x77 :: x78 :: x79 :: x80 :: x81 :: x82 :: x83 :: x84 :: x85 :: x86 :: x87 :: x88 :: x89 :: x90 :: x91 :: x92 :: x93 :: x94 :: x95 :: x96 :: x97 :: x98 :: x99 :: .int .i64 op :: y101 :: y102 :: y103 :: y104 :: y105 :: y106 :: y107 :: y108 :: y109 :: y110 :: y111 :: y112 :: y113 :: y114 :: y115 :: y116 :: y117 :: y118 :: y119 :: y120 :: y121 :: y122 :: y123 :: y124 :: y125 :: y126 :: y127 :: y128 :: y129 :: y130 :: y131 :: y132 :: y133 :: y134 :: y135 :: y136 :: y137 :: y138 :: y139 :: y140 :: y141 :: y142 :: y143 :: y144 :: y145 :: y146 :: y147 :: y148 :: y149 :: y150 :: y151 :: y152 :: y153 :: y154 :: y155 :: y156 :: y157 :: y158 :: y159 :: y160 :: y161 :: y162 :: y163 :: y164 :: y165 :: y166 :: y167 :: y168 :: y169 :: y170 :: y171 :: y172 :: y173 :: y174 :: y175 :: y176 :: y177 :: y178 :: y179 :: y180 :: y181 :: y182 :: y183 :: y184 :: y185 :: y186 :: y187 :: y188 :: y189 :: y190 :: y191 :: y192 :: y193 :: y194 :: y195 :: y196 :: y197 :: y198 :: y199 :: y200 :: y201 :: y202 :: y203 :: y204 :: y205 :: y206 :: y207 :: y208 :: y209 :: y210 :: y211 :: y212 :: y213 :: y214 :: y215 :: y216 :: y217 :: y218 :: y219 :: y220 :: y221 :: y222 :: y223 :: y224 :: y225 :: y226 :: y227 :: y228 :: y229 :: y230 :: y231 :: y232 :: y233 :: y234 :: y235 :: y236 :: y237 :: y238 :: y239 :: y240 :: y241 :: y242 :: y243 :: y244 :: y245 :: y246 :: y247 :: y248 :: y249 :: y250 :: y251 :: y252 :: y253 :: y254 :: y255 :: y256 :: y257 :: y258 :: y259 :: y260 :: y261 :: y262 :: y263 :: y264 :: y265 :: y266 :: y267 :: y268 :: y269 :: y270 :: y271 :: y272 :: y273 :: y274 :: y275 :: y276 :: y277 :: y278 :: y279 :: y280 :: y281 :: y282 :: y283 :: y284 :: y285 :: y286 :: y287 :: y288 :: y289 :: y290 :: y291 :: y292 :: y293 :: y294 :: y295 :: y296 :: y297 :: y298 :: y299 :: y300 :: y301 :: y302 :: y303 :: y304 :: y305 :: []), []⟩ wx) : (c20 [1, 1, 1, 1, 1, 1, 1, 1, 1, 1, 1, 1, 0, 1]).wp Tryd.prog (Exit.then K Q') ⟨List.toArray (x0 :: x1 :: x2 :: .int .i64 value :: .pointer (some ⟨bb, 0, none⟩) :: x5 :: x6 :: x7 :: x8 :: x9 :: x10 :: .pointer (some ⟨ib, 0, none⟩) :: x12 :: .int .i64 (m4.pc + 1) :: .int .i64 (-1) :: .int .i64 (m4.reg a) :: .int .i64 (m4.reg c) :: x17 :: x18 :: x19 :: x20 :: x21 :: x22 :: x23 :: x24 :: x25 :: x26 :: x27 :: x28 :: x29 :: x30 :: x31 :: x32 :: x33 :: x34 :: x35 :: x36 :: x37 :: x38 :: x39 :: x40 :: x41 :: x42 :: x43 :: x44 :: x45 :: x46 :: x47 :: x48 :: x49 :: x50 :: x51 :: x52 :: x53 :: x54 :: x55 :: x56 :: x57 :: x58 :: x59 :: x60 :: x61 :: x62 :: x63 :: x64 :: x65 :: x66 :: x67 :: x68 :: x69 :: x70 :: x71 :: x72 :: x73 :: x74 :: x75 :: x76 :: x77 :: x78 :: x79 :: x80 :: x81 :: x82 :: x83 :: x84 :: x85 :: x86 :: x87 :: x88 :: x89 :: x90 :: x91 :: x92 :: x93 :: x94 :: x95 :: x96 :: x97 :: x98 :: x99 :: .int .i64 op :: x101 :: x102 :: x103 :: x104 :: x105 :: x106 :: x107 :: x108 :: x109 :: x110 :: x111 :: x112 :: x113 :: x114 :: x115 :: x116 :: x117 :: x118 :: x119 :: x120 :: x121 :: x122 :: x123 :: x124 :: x125 :: x126 :: x127 :: x128 :: x129 :: x130 :: x131 :: x132 :: x133 :: x134 :: x135 :: x136 :: x137 :: x138 :: x139 :: x140 :: x141 :: x142 :: x143 :: x144 :: x145 :: x146 :: x147 :: x148 :: x149 :: x150 :: x151 :: x152 :: x153 :: x154 :: x155 :: x156 :: x157 :: x158 :: x159 :: x160 :: x161 :: x162 :: x163 :: x164 :: x165 :: x166 :: x167 :: x168 :: x169 :: x170 :: x171 :: x172 :: x173 :: x174 :: x175 :: x176 :: x177 :: x178 :: x179 :: x180 :: x181 :: x182 :: x183 :: x184 :: x185 :: x186 :: x187 :: x188 :: x189 :: x190 :: x191 :: x192 :: x193 :: x194 :: x195 :: x196 :: x197 :: x198 :: x199 :: x200 :: x201 :: x202 :: x203 :: x204 :: x205 :: x206 :: x207 :: x208 :: x209 :: x210 :: x211 :: x212 :: x213 :: x214 :: x215 :: x216 :: x217 :: x218 :: x219 :: x220 :: x221 :: x222 :: x223 :: x224 :: x225 :: x226 :: x227 :: x228 :: x229 :: x230 :: x231 :: x232 :: x233 :: x234 :: x235 :: x236 :: x237 :: x238 :: x239 :: x240 :: x241 :: x242 :: x243 :: x244 :: x245 :: x246 :: x247 :: x248 :: x249 :: x250 :: x251 :: x252 :: x253 :: x254 :: x255 :: x256 :: x257 :: x258 :: x259 :: x260 :: x261 :: x262 :: x263 :: x264 :: x265 :: x266 :: x267 :: x268 :: x269 :: x270 :: x271 :: x272 :: x273 :: x274 :: x275 :: x276 :: x277 :: x278 :: x279 :: x280 :: x281 :: x282 :: x283 :: x284 :: x285 :: x286 :: x287 :: x288 :: x289 :: x290 :: x291 :: x292 :: x293 :: x294 :: x295 :: x296 :: x297 :: x298 :: x299 :: x300 :: x301 :: x302 :: x303 :: x304 :: x305 :: []), []⟩ wz := by
  have h16 : op = 0 ∨ op = 1 ∨ op = 2 ∨ op = 3 ∨ op = 4 ∨ op = 5 ∨ op = 6 ∨ op = 7 ∨ op = 8 ∨ op = 9 ∨ op = 10 ∨ op = 11 ∨ op = 12 ∨ op = 13 ∨ op = 14 ∨ op = 15 := by omega
  rcases h16 with rfl | rfl | rfl | rfl | rfl | rfl | rfl | rfl | rfl | rfl | rfl | rfl | rfl | rfl | rfl | rfl
  · exact st_op0 HZ HOK4 HF4 ha hc8 hnn hsm hib hne hK
  · exact st_op1 HZ HOK4 HF4 ha hc8 hnn hsm hib hne hK
  · exact st_op2 HZ HOK4 HF4 ha hc8 hnn hsm hib hne hK
  · exact st_op3 HZ HOK4 HF4 ha hc8 hnn hsm hib hne hK
  · exact st_op4 HZ HOK4 HF4 ha hc8 hnn hsm hib hne hK
  · exact st_op5 HZ HOK4 HF4 ha hc8 hnn hsm hib hne hK
  · exact st_op6 HZ HOK4 HF4 ha hc8 hnn hsm hib hne hK
  · exact st_op7 HZ HOK4 HF4 ha hc8 hnn hsm hib hne hK
  · exact st_op8 HZ HOK4 HF4 ha hc8 hnn hsm hib hne hK
  · exact st_op9 HZ HOK4 HF4 ha hc8 hnn hsm hib hne hK
  · exact st_op10 HZ HOK4 HF4 ha hc8 hnn hsm hib hne hK
  · exact st_op11 HZ HOK4 HF4 ha hc8 hnn hsm hib hne hK
  · exact st_op12 HZ HOK4 HF4 ha hc8 hnn hsm hib hne hK
  · exact st_op13 HZ HOK4 HF4 ha hc8 hnn hsm hib hne hK
  · exact st_op14 HZ HOK4 HF4 ha hc8 hnn hsm hib hne hK
  · exact st_op15 HZ HOK4 HF4 ha hc8 hnn hsm hib hne hK
end Go.Proofs.YtenicnneppgfmaaDoor
namespace Go.Proofs.YtenicnneppgfmaaDoor
open Go Go.RowKit Go.ChangeShapes Go.WideShapes Go.Deep
set_option linter.unusedVariables false
attribute [local go_sem ↓] Go.wp_at_zero Go.wp_at_succ

set_option maxHeartbeats 8000000 in
set_option maxRecDepth 100000 in
theorem stepped_good (m : Mach) (w0 : World) (D : Nat → Prop) (gr cr mb cm : Nat) (ao : Option Addr) (co : Nat) (irq : Bool) (ba : Option Addr) (b : List Int) (bc : Nat) (value : Int) (w : World) (hz : ZA w0 D gr cr mb cm m ao co w) (hf : m.fin = 0) (hok : MOk m) (hc : m.count < 1099511627776) (hl : b.length = 0 ∨ b.length = 16) (hwb : ∀ z ∈ b, WordZ z) (hv : WordZ value) (hb : ∀ w', OutF D w0 w' → Ints w'.heap.size w' (.slice ba b.length bc) b) (he : (nextZ ({ enterM (blockM (irqM m irq) b) with count := (enterM (blockM (irqM m irq) b)).count + 1 } : Mach)).2 = 0) : Calls Tryd.prog 52 #[.agg #[.slice (some ⟨gr, 0, none⟩) 8 cr, .int .i64 m.pc, .int .i64 m.back, .bool m.ints, .bool m.wait, .int .i64 m.table, .int .i64 m.count, .int .i64 m.fin, .slice (some ⟨mb, 0, none⟩) 256 cm, .slice ao m.out.length co, .int .i64 m.ready, .int .i64 m.want], .bool irq, .slice ba b.length bc, .int .i64 value] w (ZdPost w0 D gr cr mb cm (stepM m irq b value)) := by
  have HS := Lib.hid hz.start
  have HRB : Hid (D (w.heap.size + 1) ∨ w0.heap.size ≤ w.heap.size + 1) := Lib.hid (Or.inr (by have := hz.old.size; omega))
  have hfb : (m.fin != 0) = false := by rw [hf]; rfl
  have HF0 := Lib.hid hf
  have HBK := Lib.hid hb
  have HST : Hid (stepM m irq b value = execM (enterM (blockM (irqM m irq) b)) value) := Lib.hid rfl
  have HOK1 : Hid (MOk (irqM m irq)) := Lib.hid (hok.irq irq)
  have HF1 : Hid ((irqM m irq).fin = 0) := Lib.hid ((irqM_fin m irq).1.trans hf)
  have HC1 : Hid ((irqM m irq).count < 1099511627776) := Lib.hid (by rw [(irqM_fin m irq).2]; exact hc)
  have HL := Lib.hid hl
  have HWB := Lib.hid hwb
  have HWV := Lib.hid hv
  have HE := Lib.hid he
  clear hz hf hok hc hl hwb hv hb he
  go_enter Tryd.func52, Tryd.ntmps52
  go_upto_region 3 with fail
  generalize hW : World.alloc (World.alloc w _) _ = W1 at *
  generalize hrb : w.heap.size + 1 = rb at *
  generalize hbb : w.heap.size = bb at *
  clear hW hrb hbb
  refine st_irq HS HF0.out ?_
  intros
  rename_i wc hcut
  clear HS hfb HF0
  generalize irqM m irq = m1 at *
  obtain ⟨ao, co, hs1⟩ := hcut.out
  have HZ := Lib.hid hs1
  clear hs1 hcut
  go_upto_region 4 with fail
  refine st_t4 HZ ?_
  intros
  go_upto_if 38 with fail
  refine st_b38 HZ HOK1 HF1 HL HBK ?_
  intros
  rename_i wc hcut
  clear HZ
  have HOK2 : Hid (MOk (blockM m1 b)) := Lib.hid (HOK1.out.block HL.out HWB.out)
  have HF2 : Hid ((blockM m1 b).fin = 0) := Lib.hid ((blockM_fin m1 b).1.trans HF1.out)
  have HC2 : Hid ((blockM m1 b).count < 1099511627776) := Lib.hid (by rw [(blockM_fin m1 b).2]; exact HC1.out)
  clear HOK1 HF1 HC1
  generalize blockM m1 b = m2 at *
  obtain ⟨ao, co, hs2⟩ := hcut.out
  have HZ := Lib.hid hs2
  clear hs2 hcut
  go_upto_region 12 with fail
  refine st_t12 HZ ?_
  intros
  go_upto_if 63 with fail
  refine st_e63 HZ HF2 ?_
  intros
  rename_i wc hcut
  clear HZ
  have HOK3 : Hid (MOk (enterM m2)) := Lib.hid HOK2.out.enter
  have HF3 : Hid ((enterM m2).fin = 0) := Lib.hid ((enterM_fin m2).1.trans HF2.out)
  have HC3 : Hid ((enterM m2).count < 1099511627776) := Lib.hid (by rw [(enterM_fin m2).2]; exact HC2.out)
  clear HOK2 HF2 HC2
  generalize enterM m2 = m3 at *
  obtain ⟨ao, co, hs3⟩ := hcut.out
  have HZ := Lib.hid hs3
  clear hs3 hcut
  go_upto_region 17 with fail
  refine st_c17 HZ HC3.out HOK3.out.count.1 ?_
  intros
  rename_i wc hcut
  clear HZ
  have HOK4 : Hid (MOk { m3 with count := m3.count + 1 }) := Lib.hid (by have := HOK3.out.tick HC3.out (e := 0) (by omega) (by omega); rw [← HF3.out] at this; exact this)
  have HF4 : Hid (({ m3 with count := m3.count + 1 } : Mach).fin = 0) := Lib.hid HF3.out
  have HST4 : Hid (stepM m irq b value = ranM { m3 with count := m3.count + 1 } value) := Lib.hid (by rw [HST.out, execM_ran HF3.out])
  clear HOK3 HF3 HC3 HST
  generalize ({ m3 with count := m3.count + 1 } : Mach) = m4 at *
  have HZ := Lib.hid hcut.out
  clear hcut
  have HNX := Lib.hid (fun w' hm => nextof_any m4 (.slice (some ⟨gr, 0, none⟩) 8 cr) (.slice ao m4.out.length co) mb cm w' HOK4.out hm)
  have hzz := HZ.out
  have p0 : wc.cell? ⟨bb, 0, none⟩ = some (.slice (some ⟨gr, 0, none⟩) 8 cr) := cell_block hzz.box 0
  have p1 : wc.cell? ⟨bb, 1, none⟩ = some (.int .i64 m4.pc) := cell_block hzz.box 1
  have p2 : wc.cell? ⟨bb, 2, none⟩ = some (.int .i64 m4.back) := cell_block hzz.box 2
  have p3 : wc.cell? ⟨bb, 3, none⟩ = some (.bool m4.ints) := cell_block hzz.box 3
  have p4 : wc.cell? ⟨bb, 4, none⟩ = some (.bool m4.wait) := cell_block hzz.box 4
  have p5 : wc.cell? ⟨bb, 5, none⟩ = some (.int .i64 m4.table) := cell_block hzz.box 5
  have p6 : wc.cell? ⟨bb, 6, none⟩ = some (.int .i64 m4.count) := cell_block hzz.box 6
  have p7 : wc.cell? ⟨bb, 7, none⟩ = some (.int .i64 m4.fin) := cell_block hzz.box 7
  have p8 : wc.cell? ⟨bb, 8, none⟩ = some (.slice (some ⟨mb, 0, none⟩) 256 cm) := cell_block hzz.box 8
  have p9 : wc.cell? ⟨bb, 9, none⟩ = some (.slice ao m4.out.length co) := cell_block hzz.box 9
  have p10 : wc.cell? ⟨bb, 10, none⟩ = some (.int .i64 m4.ready) := cell_block hzz.box 10
  have p11 : wc.cell? ⟨bb, 11, none⟩ = some (.int .i64 m4.want) := cell_block hzz.box 11
  have lbb := hzz.blt
  clear hzz
  have hdc := nextZ_dec HE.out
  have HR : Hid (ranM m4 value = finM (doM m4 (decOp (nextZ m4).1) (decA (nextZ m4).1) (decB (nextZ m4).1) (decN (nextZ m4).1) value)) := Lib.hid (ranM_yes _ HE.out)
  rw [instV_yes HE.out hdc, HE.out] at HNX
  have HIC : Hid (iCode (decOp (nextZ m4).1) (decA (nextZ m4).1) (decB (nextZ m4).1) (decN (nextZ m4).1) = 0) := Lib.hid hdc
  clear HE hdc
  generalize decOp (nextZ m4).1 = op at *
  generalize decA (nextZ m4).1 = za at *
  generalize decB (nextZ m4).1 = zb at *
  generalize decN (nextZ m4).1 = n at *
  obtain ⟨h0, h1, a0, a1, b0, b1, n0, n1⟩ := iCode_rng HIC.out
  have HSML := Lib.hid (iCode_small HIC.out)
  obtain ⟨a, rfl⟩ := Int.eq_ofNat_of_zero_le a0
  obtain ⟨c, rfl⟩ := Int.eq_ofNat_of_zero_le b0
  have ha : a < 8 := by omega
  have hc8 : c < 8 := by omega
  have ha' : (a : Int) < 8 := by omega
  have hc' : (c : Int) < 8 := by omega
  have HNN := Lib.hid (And.intro n0 n1)
  have HOP := Lib.hid (And.intro h0 h1)
  have hpc := HOK4.out.pc
  clear h0 h1 a0 a1 b0 b1 n0 n1
  go_upto_region 19 with (go_at_call 86; (with_reducible refine (HNX.out _ ?_).mono ?_); exact HZ.out.mem; rintro en w1 ⟨rfl, hb1⟩; have HZ1 := Lib.hid (HZ.out.kept hb1); clear hb1)
  clear p0 p1 p2 p3 p4 p5 p6 p7 p8 p9 p10 p11 lbb HZ
  have HZ := Lib.hid (HZ1.out.alloc (.cells #[.int .i64 op, .int .i64 a, .int .i64 c, .int .i64 n] 82 (0, 0)))
  have hib : (w1.alloc (.cells #[.int .i64 op, .int .i64 a, .int .i64 c, .int .i64 n] 82 (0, 0))).heap[w1.heap.size]? = some (.cells #[.int .i64 op, .int .i64 a, .int .i64 c, .int .i64 n] 82 (0, 0)) := alloc_at rfl
  have l1 := HZ1.out.blt
  have l2 := HZ1.out.rlt
  generalize hW : World.alloc w1 _ = wz at *
  generalize hii : w1.heap.size = ib at *
  have lib : ib < wz.heap.size := (Array.getElem?_eq_some_iff.1 hib).1
  have HNE : Hid (ib ≠ bb ∧ ib ≠ gr) := Lib.hid ⟨by omega, by omega⟩
  have HIB := Lib.hid hib
  clear hW hii HZ1 l1 l2
  have q0 : wz.cell? ⟨ib, 0, none⟩ = some (.int .i64 op) := cell_block hib 0
  have q1 : wz.cell? ⟨ib, 1, none⟩ = some (.int .i64 a) := cell_block hib 1
  have q2 : wz.cell? ⟨ib, 2, none⟩ = some (.int .i64 c) := cell_block hib 2
  have k0 : wz.cell? ⟨bb, 0, none⟩ = some (.slice (some ⟨gr, 0, none⟩) 8 cr) := cell_block HZ.out.box 0
  have k1 : wz.cell? ⟨bb, 1, none⟩ = some (.int .i64 m4.pc) := cell_block HZ.out.box 1
  have ra := HZ.out.reg_at ha
  have rc := HZ.out.reg_at hc8
  have lbb := HZ.out.blt
  have lgr := HZ.out.rlt
  clear hib
  go_upto_block 2 with fail
  clear q0 q1 q2 k0 k1 ra rc lbb lgr lib hpc
  clear HIC
  refine st_sw HZ HOK4 HF4 ha hc8 HNN.out HSML.out HIB.out HNE.out HOP.out ?_
  intros
  rename_i s13 s14 wc hcut
  clear HZ HSML HIB HNE HNN HNX HOP ha hc8 ha' hc'
  obtain ⟨m5, nx, wr, rfl, rfl, HNR, HZS, HRR⟩ := hcut
  have HEND : Hid (stepM m irq b value = finM (doM m4 op a c n value)) := Lib.hid (by rw [HST4.out, HR.out])
  clear HST4 HR
  generalize doM m4 op a c n value = r at *
  obtain ⟨ao, co, hs5⟩ := HZS.out
  have HZ := Lib.hid hs5
  clear hs5 HZS
  have k7 : wc.cell? ⟨bb, 7, none⟩ = some (.int .i64 m5.fin) := cell_block HZ.out.box 7
  have lbb := HZ.out.blt
  go_upto_if 300 with fail
  go_cut [] from 101 (fun wx => ∃ m6 : Mach, Hid (ZSt w0 D rb bb gr cr mb cm m6 ao co wx) ∧ Hid (finM r = (m6, wr)))
  case first =>
    by_cases h5 : m5.fin = 0
    · have HP := Lib.hid (HRR.out.fgo h5)
      have h5b : (m5.fin == 0) = true := by rw [h5]; rfl
      have f1 := free_block HZ.out.box 1
      have k1 : wc.cell? ⟨bb, 1, none⟩ = some (.int .i64 m5.pc) := cell_block HZ.out.box 1
      obtain ⟨nr1, nr2⟩ := HNR.out
      clear h5 HRR k7
      have HFO := Lib.hid (fun w => foldOf_any nx w nr1 nr2)
      go_wp2_with (go_at_call 87; go_loud (refine (HFO.out _).mono ?_); rintro e w' ⟨rfl, rfl⟩)
      go_meet
      case rel => exact ⟨m5.goTo nx, Lib.hid (HZ.out.put 1 (.int .i64 (foldZ nx)) (m5.goTo nx) rfl rfl rfl rfl), HP⟩
    · have HP := Lib.hid (HRR.out.fstop h5)
      have h5b : (m5.fin == 0) = false := by rw [beq_eq_false_iff_ne]; exact h5
      clear h5 HRR k7
      go_wp2
      go_meet
      case rel => exact ⟨m5, HZ, HP⟩
  case rest =>
  obtain ⟨m6, HZ6, HM6⟩ := hcut
  clear k7 lbb HZ HRR HNR
  go_upto_region 84 with fail
  refine st_r84 HZ6 HRB ?_
  intros
  rename_i wx hzr
  have lrb := (Array.getElem?_eq_some_iff.1 hzr.out.1).1
  have q0 : wx.cell? ⟨rb, 0, none⟩ = some (.slice (some ⟨gr, 0, none⟩) 8 cr) := cell_block hzr.out.1 0
  have q1 : wx.cell? ⟨rb, 1, none⟩ = some (.int .i64 m6.pc) := cell_block hzr.out.1 1
  have q2 : wx.cell? ⟨rb, 2, none⟩ = some (.int .i64 m6.back) := cell_block hzr.out.1 2
  have q3 : wx.cell? ⟨rb, 3, none⟩ = some (.bool m6.ints) := cell_block hzr.out.1 3
  have q4 : wx.cell? ⟨rb, 4, none⟩ = some (.bool m6.wait) := cell_block hzr.out.1 4
  have q5 : wx.cell? ⟨rb, 5, none⟩ = some (.int .i64 m6.table) := cell_block hzr.out.1 5
  have q6 : wx.cell? ⟨rb, 6, none⟩ = some (.int .i64 m6.count) := cell_block hzr.out.1 6
  have q7 : wx.cell? ⟨rb, 7, none⟩ = some (.int .i64 m6.fin) := cell_block hzr.out.1 7
  have q8 : wx.cell? ⟨rb, 8, none⟩ = some (.slice (some ⟨mb, 0, none⟩) 256 cm) := cell_block hzr.out.1 8
  have q9 : wx.cell? ⟨rb, 9, none⟩ = some (.slice ao m6.out.length co) := cell_block hzr.out.1 9
  have q10 : wx.cell? ⟨rb, 10, none⟩ = some (.int .i64 m6.ready) := cell_block hzr.out.1 10
  have q11 : wx.cell? ⟨rb, 11, none⟩ = some (.int .i64 m6.want) := cell_block hzr.out.1 11
  go_wp2_with fail
  refine bodyPost_ret (v := .tuple #[.agg #[.slice (some ⟨gr, 0, none⟩) 8 cr, .int .i64 m6.pc, .int .i64 m6.back, .bool m6.ints, .bool m6.wait, .int .i64 m6.table, .int .i64 m6.count, .int .i64 m6.fin, .slice (some ⟨mb, 0, none⟩) 256 cm, .slice ao m6.out.length co, .int .i64 m6.ready, .int .i64 m6.want], .int .i64 wr]) (by simp [results, Tryd.results52, go_sem, q0, q1, q2, q3, q4, q5, q6, q7, q8, q9, q10, q11]) rfl ?_
  rw [HEND.out, HM6.out]
  exact ⟨ao, co, rfl, hzr.out.2.za⟩

theorem stepped_any (m : Mach) (w0 : World) (D : Nat → Prop) (gr cr mb cm : Nat) (ao : Option Addr) (co : Nat) (irq : Bool) (ba : Option Addr) (b : List Int) (bc : Nat) (value : Int) (w : World) (hz : ZA w0 D gr cr mb cm m ao co w) (hok : MOk m) (hc : m.count < 1099511627776) (hl : b.length = 0 ∨ b.length = 16) (hwb : ∀ z ∈ b, WordZ z) (hv : WordZ value) (hb : ∀ w', OutF D w0 w' → Ints w'.heap.size w' (.slice ba b.length bc) b) : Calls Tryd.prog 52 #[.agg #[.slice (some ⟨gr, 0, none⟩) 8 cr, .int .i64 m.pc, .int .i64 m.back, .bool m.ints, .bool m.wait, .int .i64 m.table, .int .i64 m.count, .int .i64 m.fin, .slice (some ⟨mb, 0, none⟩) 256 cm, .slice ao m.out.length co, .int .i64 m.ready, .int .i64 m.want], .bool irq, .slice ba b.length bc, .int .i64 value] w (ZdPost w0 D gr cr mb cm (stepM m irq b value)) := by
  by_cases hf : m.fin = 0
  · by_cases he : (nextZ ({ enterM (blockM (irqM m irq) b) with count := (enterM (blockM (irqM m irq) b)).count + 1 } : Mach)).2 = 0
    · exact stepped_good m w0 D gr cr mb cm ao co irq ba b bc value w hz hf hok hc hl hwb hv hb he
    · exact stepped_bad m w0 D gr cr mb cm ao co irq ba b bc value w hz hf hok hc hl hwb hv hb he
  · exact stepped_end m w0 D gr cr mb cm ao co irq ba b bc value w hz hf
end Go.Proofs.YtenicnneppgfmaaDoor
