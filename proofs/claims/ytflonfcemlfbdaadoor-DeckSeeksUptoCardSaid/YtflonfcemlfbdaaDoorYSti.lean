/- Several texts joined, each with its own heading in the notes: The switch of the document's stepped, whatever instruction. The last copy of the document's stepped; lemmas. The document's stepped: a guest that has ended, or has no instruction. The document's stepped. No condition beyond those of each row. -/
import Derived.Test.YtflonfcemlfbdaaDoorYStd0
import Derived.Test.YtflonfcemlfbdaaDoorYStd1
import Derived.Test.YtflonfcemlfbdaaDoorYStd2
import Derived.Test.YtflonfcemlfbdaaDoorYStd3
import Derived.Handy
import Derived.StillTailTactics
import Derived.Deep.RegionWith
import Derived.Deep.RegionLaw
import Derived.Deep.CutBlock
import Derived.Deep.CutRange
import Derived.Deep.RegionHeld3
import Derived.Deep.LoopGhost
import Derived.Test.YtflonfcemlfbdaaDoorYStc
namespace Go.Proofs.YtflonfcemlfbdaaDoor
open Go Go.RowKit Go.ChangeShapes Go.WideShapes Go.Deep
set_option maxHeartbeats 8000000
set_option maxRecDepth 100000
set_option linter.unusedVariables false
attribute [local go_sem ↓] Go.wp_at_zero Go.wp_at_succ
theorem zle{w0:World}{D:Nat→Prop}{rb bb gr cr mb cm:Nat}{ao:Option Addr}{co:Nat}{m4:Mach}{a c ib:Nat}{op n value:Int}{wz:World}{K:Act→World→Prop}{Q':Exit→Act→World→Prop}{x0 x1 x2 x5 x6 x7 x8 x9 x10 x12 x17 x18 x19 x20 x21 x22 x23 x24 x25 x26 x27 x28 x29 x30 x31 x32 x33 x34 x35 x36 x37 x38 x39 x40 x41 x42 x43 x44 x45 x46 x47 x48 x49 x50 x51 x52 x53 x54 x55 x56 x57 x58 x59 x60 x61 x62 x63 x64 x65 x66 x67 x68 x69 x70 x71 x72 x73 x74 x75 x76 x77 x78 x79 x80 x81 x82 x83 x84 x85 x86 x87 x88 x89 x90 x91 x92 x93 x94 x95 x96 x97 x98 x99 x101 x102 x103 x104 x105 x106 x107 x108 x109 x110 x111 x112 x113 x114 x115 x116 x117 x118 x119 x120 x121 x122 x123 x124 x125 x126 x127 x128 x129 x130 x131 x132 x133 x134 x135 x136 x137 x138 x139 x140 x141 x142 x143 x144 x145 x146 x147 x148 x149 x150 x151 x152 x153 x154 x155 x156 x157 x158 x159 x160 x161 x162 x163 x164 x165 x166 x167 x168 x169 x170 x171 x172 x173 x174 x175 x176 x177 x178 x179 x180 x181 x182 x183 x184 x185 x186 x187 x188 x189 x190 x191 x192 x193 x194 x195 x196 x197 x198 x199 x200 x201 x202 x203 x204 x205 x206 x207 x208 x209 x210 x211 x212 x213 x214 x215 x216 x217 x218 x219 x220 x221 x222 x223 x224 x225 x226 x227 x228 x229 x230 x231 x232 x233 x234 x235 x236 x237 x238 x239 x240 x241 x242 x243 x244 x245 x246 x247 x248 x249 x250 x251 x252 x253 x254 x255 x256 x257 x258 x259 x260 x261 x262 x263 x264 x265 x266 x267 x268 x269 x270 x271 x272 x273 x274 x275 x276 x277 x278 x279 x280 x281 x282 x283 x284 x285 x286 x287 x288 x289 x290 x291 x292 x293 x294 x295 x296 x297 x298 x299 x300 x301 x302 x303 x304 x305:Value}(HZ:Hid (ZSt w0 D rb bb gr cr mb cm m4 ao co wz))(HOK4:Hid (MOk m4))(HF4:Hid (m4.fin=0))(ha:a<8)(hc8:c<8)(hnn:-1048576≤n∧n≤1048575)(hsm:op=2∨op=3→0≤n∧n<8)(hib:wz.heap[ib]?=some (.cells #[.int .i64 op,.int .i64 a,.int .i64 c,.int .i64 n] 123 (0,0)))(hne:ib≠bb∧ib≠gr)(hop:0≤op∧op≤15)(hK:∀(y17 y18 y19 y20 y101 y102 y103 y104 y105 y106 y107 y108 y109 y110 y111 y112 y113 y114 y115 y116 y117 y118 y119 y120 y121 y122 y123 y124 y125 y126 y127 y128 y129 y130 y131 y132 y133 y134 y135 y136 y137 y138 y139 y140 y141 y142 y143 y144 y145 y146 y147 y148 y149 y150 y151 y152 y153 y154 y155 y156 y157 y158 y159 y160 y161 y162 y163 y164 y165 y166 y167 y168 y169 y170 y171 y172 y173 y174 y175 y176 y177 y178 y179 y180 y181 y182 y183 y184 y185 y186 y187 y188 y189 y190 y191 y192 y193 y194 y195 y196 y197 y198 y199 y200 y201 y202 y203 y204 y205 y206 y207 y208 y209 y210 y211 y212 y213 y214 y215 y216 y217 y218 y219 y220 y221 y222 y223 y224 y225 y226 y227 y228 y229 y230 y231 y232 y233 y234 y235 y236 y237 y238 y239 y240 y241 y242 y243 y244 y245 y246 y247 y248 y249 y250 y251 y252 y253 y254 y255 y256 y257 y258 y259 y260 y261 y262 y263 y264 y265 y266 y267 y268 y269 y270 y271 y272 y273 y274 y275 y276 y277 y278 y279 y280 y281 y282 y283 y284 y285 y286 y287 y288 y289 y290 y291 y292 y293 y294 y295 y296 y297 y298 y299 y300 y301 y302 y303 y304 y305:Value) (s13 s14:Value) (wx:World),(∃(m5:Mach) (nx wr:Int),s13=.int .i64 nx∧s14=.int .i64 wr∧Hid (-4398046511104≤nx∧nx≤4398046511104)∧Hid (ZS w0 D rb bb gr cr mb cm m5 wx)∧Hid (RanR m5 nx wr (doM m4 op a c n value)))→K ⟨List.toArray (x0::x1::x2 :: .int .i64 value :: .pointer (some ⟨bb,0,none⟩)::x5::x6::x7::x8::x9::x10 :: .pointer (some ⟨ib,0,none⟩)::x12::s13::s14 :: .int .i64 (m4.reg a) :: .int .i64 (m4.reg c)::y17::y18::y19::y20::x21::x22::x23::x24::x25::x26::x27::x28::x29::x30::x31::x32::x33::x34::x35::x36::x37::x38::x39::x40::x41::x42::x43::x44::x45::x46::x47::x48::x49::x50::x51::x52::x53::x54::x55::x56::x57::x58::x59::x60::x61::x62::x63::x64::x65::x66::x67::x68::x69::x70::x71::x72::x73::x74::x75::x76::x77::x78::x79::x80::x81::x82::x83::x84::x85::x86::x87::x88::x89::x90::x91::x92::x93::x94::x95::x96::x97::x98::x99 :: .int .i64 op::y101::y102::y103::y104::y105::y106::y107::y108::y109::y110::y111::y112::y113::y114::y115::y116::y117::y118::y119::y120::y121::y122::y123::y124::y125::y126::y127::y128::y129::y130::y131::y132::y133::y134::y135::y136::y137::y138::y139::y140::y141::y142::y143::y144::y145::y146::y147::y148::y149::y150::y151::y152::y153::y154::y155::y156::y157::y158::y159::y160::y161::y162::y163::y164::y165::y166::y167::y168::y169::y170::y171::y172::y173::y174::y175::y176::y177::y178::y179::y180::y181::y182::y183::y184::y185::y186::y187::y188::y189::y190::y191::y192::y193::y194::y195::y196::y197::y198::y199::y200::y201::y202::y203::y204::y205::y206::y207::y208::y209::y210::y211::y212::y213::y214::y215::y216::y217::y218::y219::y220::y221::y222::y223::y224::y225::y226::y227::y228::y229::y230::y231::y232::y233::y234::y235::y236::y237::y238::y239::y240::y241::y242::y243::y244::y245::y246::y247::y248::y249::y250::y251::y252::y253::y254::y255::y256::y257::y258::y259::y260::y261::y262::y263::y264::y265::y266::y267::y268::y269::y270::y271::y272::y273::y274::y275::y276::y277::y278::y279::y280::y281::y282::y283::y284::y285::y286::y287::y288::y289::y290::y291::y292::y293::y294::y295::y296::y297::y298::y299::y300::y301::y302::y303::y304::y305::[]),[]⟩ wx):(zbb [1,1,1,1,1,1,1,1,1,1,1,1,0,1]).wp Tryd.prog (Exit.then K Q') ⟨List.toArray (x0::x1::x2 :: .int .i64 value :: .pointer (some ⟨bb,0,none⟩)::x5::x6::x7::x8::x9::x10 :: .pointer (some ⟨ib,0,none⟩)::x12 :: .int .i64 (m4.pc+1) :: .int .i64 (-1) :: .int .i64 (m4.reg a) :: .int .i64 (m4.reg c)::x17::x18::x19::x20::x21::x22::x23::x24::x25::x26::x27::x28::x29::x30::x31::x32::x33::x34::x35::x36::x37::x38::x39::x40::x41::x42::x43::x44::x45::x46::x47::x48::x49::x50::x51::x52::x53::x54::x55::x56::x57::x58::x59::x60::x61::x62::x63::x64::x65::x66::x67::x68::x69::x70::x71::x72::x73::x74::x75::x76::x77::x78::x79::x80::x81::x82::x83::x84::x85::x86::x87::x88::x89::x90::x91::x92::x93::x94::x95::x96::x97::x98::x99 :: .int .i64 op::x101::x102::x103::x104::x105::x106::x107::x108::x109::x110::x111::x112::x113::x114::x115::x116::x117::x118::x119::x120::x121::x122::x123::x124::x125::x126::x127::x128::x129::x130::x131::x132::x133::x134::x135::x136::x137::x138::x139::x140::x141::x142::x143::x144::x145::x146::x147::x148::x149::x150::x151::x152::x153::x154::x155::x156::x157::x158::x159::x160::x161::x162::x163::x164::x165::x166::x167::x168::x169::x170::x171::x172::x173::x174::x175::x176::x177::x178::x179::x180::x181::x182::x183::x184::x185::x186::x187::x188::x189::x190::x191::x192::x193::x194::x195::x196::x197::x198::x199::x200::x201::x202::x203::x204::x205::x206::x207::x208::x209::x210::x211::x212::x213::x214::x215::x216::x217::x218::x219::x220::x221::x222::x223::x224::x225::x226::x227::x228::x229::x230::x231::x232::x233::x234::x235::x236::x237::x238::x239::x240::x241::x242::x243::x244::x245::x246::x247::x248::x249::x250::x251::x252::x253::x254::x255::x256::x257::x258::x259::x260::x261::x262::x263::x264::x265::x266::x267::x268::x269::x270::x271::x272::x273::x274::x275::x276::x277::x278::x279::x280::x281::x282::x283::x284::x285::x286::x287::x288::x289::x290::x291::x292::x293::x294::x295::x296::x297::x298::x299::x300::x301::x302::x303::x304::x305::[]),[]⟩ wz:=by
 have h16:op=0∨op=1∨op=2∨op=3∨op=4∨op=5∨op=6∨op=7∨op=8∨op=9∨op=10∨op=11∨op=12∨op=13∨op=14∨op=15:=by omega
 rcases h16 with rfl|rfl|rfl|rfl|rfl|rfl|rfl|rfl|rfl|rfl|rfl|rfl|rfl|rfl|rfl|rfl
 ·exact zkK HZ HOK4 HF4 ha hc8 hnn hsm hib hne hK
 ·exact zkL HZ HOK4 HF4 ha hc8 hnn hsm hib hne hK
 ·exact zkM HZ HOK4 HF4 ha hc8 hnn hsm hib hne hK
 ·exact zkN HZ HOK4 HF4 ha hc8 hnn hsm hib hne hK
 ·exact zkO HZ HOK4 HF4 ha hc8 hnn hsm hib hne hK
 ·exact zkP HZ HOK4 HF4 ha hc8 hnn hsm hib hne hK
 ·exact zkQ HZ HOK4 HF4 ha hc8 hnn hsm hib hne hK
 ·exact zkR HZ HOK4 HF4 ha hc8 hnn hsm hib hne hK
 ·exact zkS HZ HOK4 HF4 ha hc8 hnn hsm hib hne hK
 ·exact zkT HZ HOK4 HF4 ha hc8 hnn hsm hib hne hK
 ·exact zj1 HZ HOK4 HF4 ha hc8 hnn hsm hib hne hK
 ·exact zj2 HZ HOK4 HF4 ha hc8 hnn hsm hib hne hK
 ·exact zj3 HZ HOK4 HF4 ha hc8 hnn hsm hib hne hK
 ·exact zj4 HZ HOK4 HF4 ha hc8 hnn hsm hib hne hK
 ·exact zj5 HZ HOK4 HF4 ha hc8 hnn hsm hib hne hK
 ·exact zj6 HZ HOK4 HF4 ha hc8 hnn hsm hib hne hK
theorem zh3{z:Int×Int}(h:z.2=0)(hc:decC z.1=0):zbS z=.agg #[.int .i64 (zaM z.1),.int .i64 (decA z.1),.int .i64 (decB z.1),.int .i64 (decN z.1)]:=by unfold zbS decV;rw[if_pos h,if_pos hc]
theorem zi2{z:Int×Int}(h:z.2≠0):zbS z=.agg #[.int .i64 0,.int .i64 0,.int .i64 0,.int .i64 0]:=by unfold zbS;rw[if_neg h]
theorem zh4{m:Mach}(h:(zal m).2=0):decC (zal m).1=0:=by
 unfold zal at *
 split at h
 ·rename_i k;exact absurd h k
 ·
  rename_i k
  rw[if_neg k]
  split at h
  ·simp at h
  ·
   rename_i k2
   rw[if_neg k2]
   simpa using k2
def finM(r:Mach×Int×Int):Mach×Int:=({r.1 with fin:=r.2.1},r.2.2)
theorem RanR.fgo{m5:Mach}{nx wr:Int}{r:Mach×Int×Int}(h0:m5.fin=0)(h:RanR m5 nx wr r):finM r=(m5.goTo nx,wr):=h.go h0
theorem RanR.fstop{m5:Mach}{nx wr:Int}{r:Mach×Int×Int}(h0:m5.fin≠0)(h:RanR m5 nx wr r):finM r=(m5,wr):=h.stop h0
theorem zi3{m:Mach}(v:Int)(h:(zal m).2=0):ranM m v=finM (doM m (zaM (zal m).1) (decA (zal m).1) (decB (zal m).1) (decN (zal m).1) v):=by unfold ranM;rw[if_neg (by simpa using h)];rfl
theorem zj7{m:Mach}(v:Int)(h:(zal m).2≠0):ranM m v=({m with fin:=(zal m).2},-1):=by unfold ranM;rw[if_pos h]
theorem zkU{w0:World}{D:Nat→Prop}{rb bb gr cr mb cm:Nat}{ao:Option Addr}{co:Nat}{m6:Mach}{wr:Int}{wz:World}{K:Act→World→Prop}{Q':Exit→Act→World→Prop}{x0 x1 x2 x3 x5 x6 x7 x9 x10 x11 x12 x13 x15 x16 x17 x18 x19 x20 x21 x22 x23 x24 x25 x26 x27 x28 x29 x30 x31 x32 x33 x34 x35 x36 x37 x38 x39 x40 x41 x42 x43 x44 x45 x46 x47 x48 x49 x50 x51 x52 x53 x54 x55 x56 x57 x58 x59 x60 x61 x62 x63 x64 x65 x66 x67 x68 x69 x70 x71 x72 x73 x74 x75 x76 x77 x78 x79 x80 x81 x82 x83 x84 x85 x86 x87 x88 x89 x90 x91 x92 x93 x94 x95 x96 x97 x98 x99 x100 x101 x102 x103 x104 x105 x106 x107 x108 x109 x110 x111 x112 x113 x114 x115 x116 x117 x118 x119 x120 x121 x122 x123 x124 x125 x126 x127 x128 x129 x130 x131 x132 x133 x134 x135 x136 x137 x138 x139 x140 x141 x142 x143 x144 x145 x146 x147 x148 x149 x150 x151 x152 x153 x154 x155 x156 x157 x158 x159 x160 x161 x162 x163 x164 x165 x166 x167 x168 x169 x170 x171 x172 x173 x174 x175 x176 x177 x178 x179 x180 x181 x182 x183 x184 x185 x186 x187 x188 x189 x190 x191 x192 x193 x194 x195 x196 x197 x198 x199 x200 x201 x202 x203 x204 x205 x206 x207 x208 x209 x210 x211 x212 x213 x214 x215 x216 x217 x218 x219 x220 x221 x222 x223 x224 x225 x226 x227 x228 x229 x230 x231 x232 x233 x234 x235 x236 x237 x238 x239 x240 x241 x242 x243 x244 x245 x246 x247 x248 x249 x250 x251 x252 x253 x254 x255 x256 x257 x258 x259 x260 x261 x262 x263 x264 x265 x266 x267 x268 x269 x270 x271 x272 x273 x274 x275 x276 x277 x278 x279 x280 x281 x282 x283 x284 x285 x286 x287 x288 x289 x290 x291 x292 x293 x294 x295 x296 x297 x298 x299 x300 x301 x302 x303 x304 x305:Value}(HZ6:Hid (ZSt w0 D rb bb gr cr mb cm m6 ao co wz))(HRB:Hid (D rb∨w0.heap.size≤rb))(hK:∀(y304 y305:Value) (wx:World),Hid (wx.heap[rb]?=some (.cells #[.slice (some ⟨gr,0,none⟩) 8 cr,.int .i64 m6.pc,.int .i64 m6.back,.bool m6.ints,.bool m6.wait,.int .i64 m6.table,.int .i64 m6.count,.int .i64 m6.fin,.slice (some ⟨mb,0,none⟩) 256 cm,.slice ao m6.out.length co,.int .i64 m6.ready,.int .i64 m6.want] 48 (0,0))∧ZM w0 D rb gr cr mb cm m6 ao co wx)→K ⟨List.toArray (x0::x1::x2::x3 :: .pointer (some ⟨bb,0,none⟩)::x5::x6::x7 :: .pointer (some ⟨rb,0,none⟩) :: .int .i64 wr::x10::x11::x12::x13 :: .int .i64 wr::x15::x16::x17::x18::x19::x20::x21::x22::x23::x24::x25::x26::x27::x28::x29::x30::x31::x32::x33::x34::x35::x36::x37::x38::x39::x40::x41::x42::x43::x44::x45::x46::x47::x48::x49::x50::x51::x52::x53::x54::x55::x56::x57::x58::x59::x60::x61::x62::x63::x64::x65::x66::x67::x68::x69::x70::x71::x72::x73::x74::x75::x76::x77::x78::x79::x80::x81::x82::x83::x84::x85::x86::x87::x88::x89::x90::x91::x92::x93::x94::x95::x96::x97::x98::x99::x100::x101::x102::x103::x104::x105::x106::x107::x108::x109::x110::x111::x112::x113::x114::x115::x116::x117::x118::x119::x120::x121::x122::x123::x124::x125::x126::x127::x128::x129::x130::x131::x132::x133::x134::x135::x136::x137::x138::x139::x140::x141::x142::x143::x144::x145::x146::x147::x148::x149::x150::x151::x152::x153::x154::x155::x156::x157::x158::x159::x160::x161::x162::x163::x164::x165::x166::x167::x168::x169::x170::x171::x172::x173::x174::x175::x176::x177::x178::x179::x180::x181::x182::x183::x184::x185::x186::x187::x188::x189::x190::x191::x192::x193::x194::x195::x196::x197::x198::x199::x200::x201::x202::x203::x204::x205::x206::x207::x208::x209::x210::x211::x212::x213::x214::x215::x216::x217::x218::x219::x220::x221::x222::x223::x224::x225::x226::x227::x228::x229::x230::x231::x232::x233::x234::x235::x236::x237::x238::x239::x240::x241::x242::x243::x244::x245::x246::x247::x248::x249::x250::x251::x252::x253::x254::x255::x256::x257::x258::x259::x260::x261::x262::x263::x264::x265::x266::x267::x268::x269::x270::x271::x272::x273::x274::x275::x276::x277::x278::x279::x280::x281::x282::x283::x284::x285::x286::x287::x288::x289::x290::x291::x292::x293::x294::x295::x296::x297::x298::x299::x300::x301::x302::x303::y304::y305::[]),[]⟩ wx):(zbb [1,1,1,1,1,1,1,1,1,1,1,1,1,1,0]).wp Tryd.prog (Exit.then K Q') ⟨List.toArray (x0::x1::x2::x3 :: .pointer (some ⟨bb,0,none⟩)::x5::x6::x7 :: .pointer (some ⟨rb,0,none⟩)::x9::x10::x11::x12::x13 :: .int .i64 wr::x15::x16::x17::x18::x19::x20::x21::x22::x23::x24::x25::x26::x27::x28::x29::x30::x31::x32::x33::x34::x35::x36::x37::x38::x39::x40::x41::x42::x43::x44::x45::x46::x47::x48::x49::x50::x51::x52::x53::x54::x55::x56::x57::x58::x59::x60::x61::x62::x63::x64::x65::x66::x67::x68::x69::x70::x71::x72::x73::x74::x75::x76::x77::x78::x79::x80::x81::x82::x83::x84::x85::x86::x87::x88::x89::x90::x91::x92::x93::x94::x95::x96::x97::x98::x99::x100::x101::x102::x103::x104::x105::x106::x107::x108::x109::x110::x111::x112::x113::x114::x115::x116::x117::x118::x119::x120::x121::x122::x123::x124::x125::x126::x127::x128::x129::x130::x131::x132::x133::x134::x135::x136::x137::x138::x139::x140::x141::x142::x143::x144::x145::x146::x147::x148::x149::x150::x151::x152::x153::x154::x155::x156::x157::x158::x159::x160::x161::x162::x163::x164::x165::x166::x167::x168::x169::x170::x171::x172::x173::x174::x175::x176::x177::x178::x179::x180::x181::x182::x183::x184::x185::x186::x187::x188::x189::x190::x191::x192::x193::x194::x195::x196::x197::x198::x199::x200::x201::x202::x203::x204::x205::x206::x207::x208::x209::x210::x211::x212::x213::x214::x215::x216::x217::x218::x219::x220::x221::x222::x223::x224::x225::x226::x227::x228::x229::x230::x231::x232::x233::x234::x235::x236::x237::x238::x239::x240::x241::x242::x243::x244::x245::x246::x247::x248::x249::x250::x251::x252::x253::x254::x255::x256::x257::x258::x259::x260::x261::x262::x263::x264::x265::x266::x267::x268::x269::x270::x271::x272::x273::x274::x275::x276::x277::x278::x279::x280::x281::x282::x283::x284::x285::x286::x287::x288::x289::x290::x291::x292::x293::x294::x295::x296::x297::x298::x299::x300::x301::x302::x303::x304::x305::[]),[]⟩ wz:=by
 have HK:=Lib.hid hK
 clear hK
 conv=>arg 2;whnf
 go_cut [9] from 304 (fun s9 wx=>s9=.int .i64 wr∧Hid (wx.heap[rb]?=some (.cells #[.slice (some ⟨gr,0,none⟩) 8 cr,.int .i64 m6.pc,.int .i64 m6.back,.bool m6.ints,.bool m6.wait,.int .i64 m6.table,.int .i64 m6.count,.int .i64 m6.fin,.slice (some ⟨mb,0,none⟩) 256 cm,.slice ao m6.out.length co,.int .i64 m6.ready,.int .i64 m6.want] 48 (0,0))∧ZM w0 D rb gr cr mb cm m6 ao co wx))
 case rest=>
  obtain⟨rfl,hcut⟩:=hcut
  exact HK.out _ _ _ hcut
 case first=>
  clear HK
  have hzz:=HZ6.out
  first|(obtain⟨p0,p1,p2,p3,p4,p5,p6,p7,p8,p9,p10,p11⟩:=zaz hzz.box)|(obtain⟨p0,p1,p2,p3,p4,p5,p6,p7,p8,p9,p10,p11⟩:=zaA hzz.box)
  first|(obtain⟨r0,r1,r2,r3,r4,r5,r6,r7,r8,r9,r10,r11⟩:=zaz hzz.rbox)|(obtain⟨r0,r1,r2,r3,r4,r5,r6,r7,r8,r9,r10,r11⟩:=zaA hzz.rbox)
  have g0:=zab hzz.rbox 0
  have g1:=zab hzz.rbox 1
  have g2:=zab hzz.rbox 2
  have g3:=zab hzz.rbox 3
  have g4:=zab hzz.rbox 4
  have g5:=zab hzz.rbox 5
  have g6:=zab hzz.rbox 6
  have g7:=zab hzz.rbox 7
  have g8:=zab hzz.rbox 8
  have g9:=zab hzz.rbox 9
  have g10:=zab hzz.rbox 10
  have g11:=zab hzz.rbox 11
  have lbb:=hzz.blt
  have lrb:=hzz.rbl
  have hbr:¬bb=rb:=fun e=>hzz.ne e.symm
  have hrb:¬rb=bb:=hzz.ne
  clear hzz
  go_wp2_with fail
  go_meet
  case rel=>
  have b0:=HZ6.out.rbox
  have b1:(wz.setCell ⟨rb,0,none⟩ (.slice (some ⟨gr,0,none⟩) 8 cr)).heap[rb]?=some (.cells #[.slice (some ⟨gr,0,none⟩) 8 cr,.int .i64 0,.int .i64 0,.bool false,.bool false,.int .i64 0,.int .i64 0,.int .i64 0,.slice none 0 0,.slice none 0 0,.int .i64 0,.int .i64 0] 48 (0,0)):=zaf b0 _
  have b2:((wz.setCell ⟨rb,0,none⟩ (.slice (some ⟨gr,0,none⟩) 8 cr)).setCell ⟨rb,1,none⟩ (.int .i64 m6.pc)).heap[rb]?=some (.cells #[.slice (some ⟨gr,0,none⟩) 8 cr,.int .i64 m6.pc,.int .i64 0,.bool false,.bool false,.int .i64 0,.int .i64 0,.int .i64 0,.slice none 0 0,.slice none 0 0,.int .i64 0,.int .i64 0] 48 (0,0)):=zaf b1 _
  have b3:(((wz.setCell ⟨rb,0,none⟩ (.slice (some ⟨gr,0,none⟩) 8 cr)).setCell ⟨rb,1,none⟩ (.int .i64 m6.pc)).setCell ⟨rb,2,none⟩ (.int .i64 m6.back)).heap[rb]?=some (.cells #[.slice (some ⟨gr,0,none⟩) 8 cr,.int .i64 m6.pc,.int .i64 m6.back,.bool false,.bool false,.int .i64 0,.int .i64 0,.int .i64 0,.slice none 0 0,.slice none 0 0,.int .i64 0,.int .i64 0] 48 (0,0)):=zaf b2 _
  have b4:((((wz.setCell ⟨rb,0,none⟩ (.slice (some ⟨gr,0,none⟩) 8 cr)).setCell ⟨rb,1,none⟩ (.int .i64 m6.pc)).setCell ⟨rb,2,none⟩ (.int .i64 m6.back)).setCell ⟨rb,3,none⟩ (.bool m6.ints)).heap[rb]?=some (.cells #[.slice (some ⟨gr,0,none⟩) 8 cr,.int .i64 m6.pc,.int .i64 m6.back,.bool m6.ints,.bool false,.int .i64 0,.int .i64 0,.int .i64 0,.slice none 0 0,.slice none 0 0,.int .i64 0,.int .i64 0] 48 (0,0)):=zaf b3 _
  have b5:(((((wz.setCell ⟨rb,0,none⟩ (.slice (some ⟨gr,0,none⟩) 8 cr)).setCell ⟨rb,1,none⟩ (.int .i64 m6.pc)).setCell ⟨rb,2,none⟩ (.int .i64 m6.back)).setCell ⟨rb,3,none⟩ (.bool m6.ints)).setCell ⟨rb,4,none⟩ (.bool m6.wait)).heap[rb]?=some (.cells #[.slice (some ⟨gr,0,none⟩) 8 cr,.int .i64 m6.pc,.int .i64 m6.back,.bool m6.ints,.bool m6.wait,.int .i64 0,.int .i64 0,.int .i64 0,.slice none 0 0,.slice none 0 0,.int .i64 0,.int .i64 0] 48 (0,0)):=zaf b4 _
  have b6:((((((wz.setCell ⟨rb,0,none⟩ (.slice (some ⟨gr,0,none⟩) 8 cr)).setCell ⟨rb,1,none⟩ (.int .i64 m6.pc)).setCell ⟨rb,2,none⟩ (.int .i64 m6.back)).setCell ⟨rb,3,none⟩ (.bool m6.ints)).setCell ⟨rb,4,none⟩ (.bool m6.wait)).setCell ⟨rb,5,none⟩ (.int .i64 m6.table)).heap[rb]?=some (.cells #[.slice (some ⟨gr,0,none⟩) 8 cr,.int .i64 m6.pc,.int .i64 m6.back,.bool m6.ints,.bool m6.wait,.int .i64 m6.table,.int .i64 0,.int .i64 0,.slice none 0 0,.slice none 0 0,.int .i64 0,.int .i64 0] 48 (0,0)):=zaf b5 _
  have b7:(((((((wz.setCell ⟨rb,0,none⟩ (.slice (some ⟨gr,0,none⟩) 8 cr)).setCell ⟨rb,1,none⟩ (.int .i64 m6.pc)).setCell ⟨rb,2,none⟩ (.int .i64 m6.back)).setCell ⟨rb,3,none⟩ (.bool m6.ints)).setCell ⟨rb,4,none⟩ (.bool m6.wait)).setCell ⟨rb,5,none⟩ (.int .i64 m6.table)).setCell ⟨rb,6,none⟩ (.int .i64 m6.count)).heap[rb]?=some (.cells #[.slice (some ⟨gr,0,none⟩) 8 cr,.int .i64 m6.pc,.int .i64 m6.back,.bool m6.ints,.bool m6.wait,.int .i64 m6.table,.int .i64 m6.count,.int .i64 0,.slice none 0 0,.slice none 0 0,.int .i64 0,.int .i64 0] 48 (0,0)):=zaf b6 _
  have b8:((((((((wz.setCell ⟨rb,0,none⟩ (.slice (some ⟨gr,0,none⟩) 8 cr)).setCell ⟨rb,1,none⟩ (.int .i64 m6.pc)).setCell ⟨rb,2,none⟩ (.int .i64 m6.back)).setCell ⟨rb,3,none⟩ (.bool m6.ints)).setCell ⟨rb,4,none⟩ (.bool m6.wait)).setCell ⟨rb,5,none⟩ (.int .i64 m6.table)).setCell ⟨rb,6,none⟩ (.int .i64 m6.count)).setCell ⟨rb,7,none⟩ (.int .i64 m6.fin)).heap[rb]?=some (.cells #[.slice (some ⟨gr,0,none⟩) 8 cr,.int .i64 m6.pc,.int .i64 m6.back,.bool m6.ints,.bool m6.wait,.int .i64 m6.table,.int .i64 m6.count,.int .i64 m6.fin,.slice none 0 0,.slice none 0 0,.int .i64 0,.int .i64 0] 48 (0,0)):=zaf b7 _
  have b9:(((((((((wz.setCell ⟨rb,0,none⟩ (.slice (some ⟨gr,0,none⟩) 8 cr)).setCell ⟨rb,1,none⟩ (.int .i64 m6.pc)).setCell ⟨rb,2,none⟩ (.int .i64 m6.back)).setCell ⟨rb,3,none⟩ (.bool m6.ints)).setCell ⟨rb,4,none⟩ (.bool m6.wait)).setCell ⟨rb,5,none⟩ (.int .i64 m6.table)).setCell ⟨rb,6,none⟩ (.int .i64 m6.count)).setCell ⟨rb,7,none⟩ (.int .i64 m6.fin)).setCell ⟨rb,8,none⟩ (.slice (some ⟨mb,0,none⟩) 256 cm)).heap[rb]?=some (.cells #[.slice (some ⟨gr,0,none⟩) 8 cr,.int .i64 m6.pc,.int .i64 m6.back,.bool m6.ints,.bool m6.wait,.int .i64 m6.table,.int .i64 m6.count,.int .i64 m6.fin,.slice (some ⟨mb,0,none⟩) 256 cm,.slice none 0 0,.int .i64 0,.int .i64 0] 48 (0,0)):=zaf b8 _
  have b10:((((((((((wz.setCell ⟨rb,0,none⟩ (.slice (some ⟨gr,0,none⟩) 8 cr)).setCell ⟨rb,1,none⟩ (.int .i64 m6.pc)).setCell ⟨rb,2,none⟩ (.int .i64 m6.back)).setCell ⟨rb,3,none⟩ (.bool m6.ints)).setCell ⟨rb,4,none⟩ (.bool m6.wait)).setCell ⟨rb,5,none⟩ (.int .i64 m6.table)).setCell ⟨rb,6,none⟩ (.int .i64 m6.count)).setCell ⟨rb,7,none⟩ (.int .i64 m6.fin)).setCell ⟨rb,8,none⟩ (.slice (some ⟨mb,0,none⟩) 256 cm)).setCell ⟨rb,9,none⟩ (.slice ao m6.out.length co)).heap[rb]?=some (.cells #[.slice (some ⟨gr,0,none⟩) 8 cr,.int .i64 m6.pc,.int .i64 m6.back,.bool m6.ints,.bool m6.wait,.int .i64 m6.table,.int .i64 m6.count,.int .i64 m6.fin,.slice (some ⟨mb,0,none⟩) 256 cm,.slice ao m6.out.length co,.int .i64 0,.int .i64 0] 48 (0,0)):=zaf b9 _
  have b11:(((((((((((wz.setCell ⟨rb,0,none⟩ (.slice (some ⟨gr,0,none⟩) 8 cr)).setCell ⟨rb,1,none⟩ (.int .i64 m6.pc)).setCell ⟨rb,2,none⟩ (.int .i64 m6.back)).setCell ⟨rb,3,none⟩ (.bool m6.ints)).setCell ⟨rb,4,none⟩ (.bool m6.wait)).setCell ⟨rb,5,none⟩ (.int .i64 m6.table)).setCell ⟨rb,6,none⟩ (.int .i64 m6.count)).setCell ⟨rb,7,none⟩ (.int .i64 m6.fin)).setCell ⟨rb,8,none⟩ (.slice (some ⟨mb,0,none⟩) 256 cm)).setCell ⟨rb,9,none⟩ (.slice ao m6.out.length co)).setCell ⟨rb,10,none⟩ (.int .i64 m6.ready)).heap[rb]?=some (.cells #[.slice (some ⟨gr,0,none⟩) 8 cr,.int .i64 m6.pc,.int .i64 m6.back,.bool m6.ints,.bool m6.wait,.int .i64 m6.table,.int .i64 m6.count,.int .i64 m6.fin,.slice (some ⟨mb,0,none⟩) 256 cm,.slice ao m6.out.length co,.int .i64 m6.ready,.int .i64 0] 48 (0,0)):=zaf b10 _
  have b12:((((((((((((wz.setCell ⟨rb,0,none⟩ (.slice (some ⟨gr,0,none⟩) 8 cr)).setCell ⟨rb,1,none⟩ (.int .i64 m6.pc)).setCell ⟨rb,2,none⟩ (.int .i64 m6.back)).setCell ⟨rb,3,none⟩ (.bool m6.ints)).setCell ⟨rb,4,none⟩ (.bool m6.wait)).setCell ⟨rb,5,none⟩ (.int .i64 m6.table)).setCell ⟨rb,6,none⟩ (.int .i64 m6.count)).setCell ⟨rb,7,none⟩ (.int .i64 m6.fin)).setCell ⟨rb,8,none⟩ (.slice (some ⟨mb,0,none⟩) 256 cm)).setCell ⟨rb,9,none⟩ (.slice ao m6.out.length co)).setCell ⟨rb,10,none⟩ (.int .i64 m6.ready)).setCell ⟨rb,11,none⟩ (.int .i64 m6.want)).heap[rb]?=some (.cells #[.slice (some ⟨gr,0,none⟩) 8 cr,.int .i64 m6.pc,.int .i64 m6.back,.bool m6.ints,.bool m6.wait,.int .i64 m6.table,.int .i64 m6.count,.int .i64 m6.fin,.slice (some ⟨mb,0,none⟩) 256 cm,.slice ao m6.out.length co,.int .i64 m6.ready,.int .i64 m6.want] 48 (0,0)):=zaf b11 _
  refine⟨rfl,Lib.hid ⟨b12,?_⟩⟩
  repeat' (refine ZM.step ?_ HRB.out _ _)
  exact HZ6.out.zm
theorem zfc(m:Mach)(w0:World)(D:Nat→Prop)(gr cr mb cm:Nat)(ao:Option Addr)(co:Nat)(irq:Bool)(ba:Option Addr)(b:List Int)(bc:Nat)(value:Int)(w:World)(hz:ZA w0 D gr cr mb cm m ao co w)(hf:m.fin≠0):Calls Tryd.prog 45 #[.agg #[.slice (some ⟨gr,0,none⟩) 8 cr,.int .i64 m.pc,.int .i64 m.back,.bool m.ints,.bool m.wait,.int .i64 m.table,.int .i64 m.count,.int .i64 m.fin,.slice (some ⟨mb,0,none⟩) 256 cm,.slice ao m.out.length co,.int .i64 m.ready,.int .i64 m.want],.bool irq,.slice ba b.length bc,.int .i64 value] w (zd9 w0 D gr cr mb cm (zbe m irq b value)):=by
 rw[zb4 hf]
 have HS:=Lib.hid hz.start
 have HRB:Hid (D (w.heap.size+1)∨w0.heap.size≤w.heap.size+1):=Lib.hid (Or.inr (by have:=hz.old.size;omega))
 have hfb:(m.fin != 0)=true:=by rw[bne_iff_ne];exact hf
 clear hz hf
 go_enter Tryd.func45,Tryd.ntmps45
 go_upto_region 1 with fail
 generalize hW:World.alloc (World.alloc w _) _=W1 at *
 generalize hrb:w.heap.size+1=rb at *
 generalize hbb:w.heap.size=bb at *
 clear hW hrb hbb
 have hzz:=HS.out
 first|(obtain⟨p0,p1,p2,p3,p4,p5,p6,p7,p8,p9,p10,p11⟩:=zaz hzz.box)|(obtain⟨p0,p1,p2,p3,p4,p5,p6,p7,p8,p9,p10,p11⟩:=zaA hzz.box)
 first|(obtain⟨r0,r1,r2,r3,r4,r5,r6,r7,r8,r9,r10,r11⟩:=zaz hzz.rbox)|(obtain⟨r0,r1,r2,r3,r4,r5,r6,r7,r8,r9,r10,r11⟩:=zaA hzz.rbox)
 have g0:=zab hzz.rbox 0
 have g1:=zab hzz.rbox 1
 have g2:=zab hzz.rbox 2
 have g3:=zab hzz.rbox 3
 have g4:=zab hzz.rbox 4
 have g5:=zab hzz.rbox 5
 have g6:=zab hzz.rbox 6
 have g7:=zab hzz.rbox 7
 have g8:=zab hzz.rbox 8
 have g9:=zab hzz.rbox 9
 have g10:=zab hzz.rbox 10
 have g11:=zab hzz.rbox 11
 have lbb:=hzz.blt
 have lrb:=hzz.rbl
 have hbr:¬bb=rb:=fun e=>hzz.ne e.symm
 have hrb:¬rb=bb:=hzz.ne
 clear hzz
 go_wp2_with fail
 refine bodyPost_ret (v:=.tuple #[.agg #[.slice (some ⟨gr,0,none⟩) 8 cr,.int .i64 m.pc,.int .i64 m.back,.bool m.ints,.bool m.wait,.int .i64 m.table,.int .i64 m.count,.int .i64 m.fin,.slice (some ⟨mb,0,none⟩) 256 cm,.slice ao m.out.length co,.int .i64 m.ready,.int .i64 m.want],.int .i64 (-1)]) (by simp[results,Tryd.results45,go_sem,r0,r1,r2,r3,r4,r5,r6,r7,r8,r9,r10,r11]) rfl ?_
 clear p0 p1 p2 p3 p4 p5 p6 p7 p8 p9 p10 p11 r0 r1 r2 r3 r4 r5 r6 r7 r8 r9 r10 r11 g0 g1 g2 g3 g4 g5 g6 g7 g8 g9 g10 g11
 skip
 refine⟨ao,co,rfl,ZM.za (rb:=rb) ?_⟩
 repeat' (refine ZM.step ?_ HRB.out _ _)
 exact HS.out.zm
theorem zfd(m:Mach)(w0:World)(D:Nat→Prop)(gr cr mb cm:Nat)(ao:Option Addr)(co:Nat)(irq:Bool)(ba:Option Addr)(b:List Int)(bc:Nat)(value:Int)(w:World)(hz:ZA w0 D gr cr mb cm m ao co w)(hf:m.fin=0)(hok:MOk m)(hc:m.count<1099511627776)(hl:b.length=0∨b.length=16)(hwb:∀z∈b,WordZ z)(hv:WordZ value)(hb:∀w',OutF D w0 w'→Ints w'.heap.size w' (.slice ba b.length bc) b)(he:(zal ({zax (zat (irqM m irq) b) with count:=(zax (zat (irqM m irq) b)).count+1}:Mach)).2≠0):Calls Tryd.prog 45 #[.agg #[.slice (some ⟨gr,0,none⟩) 8 cr,.int .i64 m.pc,.int .i64 m.back,.bool m.ints,.bool m.wait,.int .i64 m.table,.int .i64 m.count,.int .i64 m.fin,.slice (some ⟨mb,0,none⟩) 256 cm,.slice ao m.out.length co,.int .i64 m.ready,.int .i64 m.want],.bool irq,.slice ba b.length bc,.int .i64 value] w (zd9 w0 D gr cr mb cm (zbe m irq b value)):=by
 have HS:=Lib.hid hz.start
 have HRB:Hid (D (w.heap.size+1)∨w0.heap.size≤w.heap.size+1):=Lib.hid (Or.inr (by have:=hz.old.size;omega))
 have hfb:(m.fin != 0)=false:=by rw[hf];rfl
 have HF0:=Lib.hid hf
 have HBK:=Lib.hid hb
 have HST:Hid (zbe m irq b value=za3 (zax (zat (irqM m irq) b)) value):=Lib.hid rfl
 have HOK1:Hid (MOk (irqM m irq)):=Lib.hid (hok.irq irq)
 have HF1:Hid ((irqM m irq).fin=0):=Lib.hid ((zbk m irq).1.trans hf)
 have HC1:Hid ((irqM m irq).count<1099511627776):=Lib.hid (by rw[(zbk m irq).2];exact hc)
 have HL:=Lib.hid hl
 have HWB:=Lib.hid hwb
 have HWV:=Lib.hid hv
 have HE:=Lib.hid he
 clear hz hf hok hc hl hwb hv hb he
 go_enter Tryd.func45,Tryd.ntmps45
 go_upto_region 3 with fail
 generalize hW:World.alloc (World.alloc w _) _=W1 at *
 generalize hrb:w.heap.size+1=rb at *
 generalize hbb:w.heap.size=bb at *
 clear hW hrb hbb
 refine zjp HS HF0.out ?_
 intros
 rename_i wc hcut
 clear HS hfb HF0
 generalize irqM m irq=m1 at *
 obtain⟨ao,co,hs1⟩:=hcut.out
 have HZ:=Lib.hid hs1
 clear hs1 hcut
 go_upto_region 4 with fail
 refine zkJ HZ ?_
 intros
 go_upto_if 38 with fail
 refine zjq HZ HOK1 HF1 HL HBK ?_
 intros
 rename_i wc hcut
 clear HZ
 have HOK2:Hid (MOk (zat m1 b)):=Lib.hid (HOK1.out.block HL.out HWB.out)
 have HF2:Hid ((zat m1 b).fin=0):=Lib.hid ((za1 m1 b).1.trans HF1.out)
 have HC2:Hid ((zat m1 b).count<1099511627776):=Lib.hid (by rw[(za1 m1 b).2];exact HC1.out)
 clear HOK1 HF1 HC1
 generalize zat m1 b=m2 at *
 obtain⟨ao,co,hs2⟩:=hcut.out
 have HZ:=Lib.hid hs2
 clear hs2 hcut
 go_upto_region 12 with fail
 refine zjr HZ ?_
 intros
 go_upto_if 63 with fail
 refine zjs HZ HF2 ?_
 intros
 rename_i wc hcut
 clear HZ
 have HOK3:Hid (MOk (zax m2)):=Lib.hid HOK2.out.enter
 have HF3:Hid ((zax m2).fin=0):=Lib.hid ((zaV m2).1.trans HF2.out)
 have HC3:Hid ((zax m2).count<1099511627776):=Lib.hid (by rw[(zaV m2).2];exact HC2.out)
 clear HOK2 HF2 HC2
 generalize zax m2=m3 at *
 obtain⟨ao,co,hs3⟩:=hcut.out
 have HZ:=Lib.hid hs3
 clear hs3 hcut
 go_upto_region 17 with fail
 refine zjt HZ HC3.out HOK3.out.count.1 ?_
 intros
 rename_i wc hcut
 clear HZ
 have HOK4:Hid (MOk {m3 with count:=m3.count+1}):=Lib.hid (by have:=HOK3.out.tick HC3.out (e:=0) (by omega) (by omega);rw[←HF3.out] at this;exact this)
 have HF4:Hid (({m3 with count:=m3.count+1}:Mach).fin=0):=Lib.hid HF3.out
 have HST4:Hid (zbe m irq b value=ranM {m3 with count:=m3.count+1} value):=Lib.hid (by rw[HST.out,zd8 HF3.out])
 clear HOK3 HF3 HC3 HST
 generalize ({m3 with count:=m3.count+1}:Mach)=m4 at *
 have HZ:=Lib.hid hcut.out
 clear hcut
 have HNX:=Lib.hid (fun w' hm=>zdg m4 (.slice (some ⟨gr,0,none⟩) 8 cr) (.slice ao m4.out.length co) mb cm w' HOK4.out hm)
 have hzz:=HZ.out
 first|(obtain⟨p0,p1,p2,p3,p4,p5,p6,p7,p8,p9,p10,p11⟩:=zaz hzz.box)|(obtain⟨p0,p1,p2,p3,p4,p5,p6,p7,p8,p9,p10,p11⟩:=zaA hzz.box)
 have lbb:=hzz.blt
 clear hzz
 have HEND:Hid (zbe m irq b value=(({m4 with fin:=(zal m4).2}:Mach),-1)):=Lib.hid (by rw[HST4.out,zj7 _ HE.out])
 rw[zi2 HE.out] at HNX
 have heb:((zal m4).2 != 0)=true:=by rw[bne_iff_ne];exact HE.out
 clear HE HST4
 generalize (zal m4).2=e at *
 go_upto_region 20 with(go_at_call 66;(with_reducible refine(HNX.out _ ?_).mono ?_);exact HZ.out.mem;rintro en w1 ⟨rfl,hb1⟩;have HZ1:=Lib.hid (HZ.out.kept hb1);clear hb1)
 clear p0 p1 p2 p3 p4 p5 p6 p7 p8 p9 p10 p11 lbb HZ
 have HZ:=Lib.hid (HZ1.out.alloc (.cells #[.int .i64 0,.int .i64 0,.int .i64 0,.int .i64 0] 123 (0,0)))
 generalize hW:World.alloc w1 _=wz at *
 clear hW
 have k7:wz.cell? ⟨bb,7,none⟩=some (.int .i64 m4.fin):=zaa HZ.out.box 7
 have f7:=zab HZ.out.box 7
 have lbb:=HZ.out.blt
 go_cut [] from 81 (fun wx=>Hid (ZSt w0 D rb bb gr cr mb cm {m4 with fin:=e} ao co wx))
 case first=>
  go_wp2_with fail
  go_meet
  case rel=>exact Lib.hid (HZ.out.put 7 (.int .i64 e) {m4 with fin:=e} rfl rfl rfl rfl)
 case rest=>
 have HZ6:=Lib.hid hcut.out
 clear hcut k7 f7 lbb HZ HZ1
 generalize ({m4 with fin:=e}:Mach)=m6 at *
 have hzz:=HZ6.out
 first|(obtain⟨p0,p1,p2,p3,p4,p5,p6,p7,p8,p9,p10,p11⟩:=zaz hzz.box)|(obtain⟨p0,p1,p2,p3,p4,p5,p6,p7,p8,p9,p10,p11⟩:=zaA hzz.box)
 first|(obtain⟨r0,r1,r2,r3,r4,r5,r6,r7,r8,r9,r10,r11⟩:=zaz hzz.rbox)|(obtain⟨r0,r1,r2,r3,r4,r5,r6,r7,r8,r9,r10,r11⟩:=zaA hzz.rbox)
 have g0:=zab hzz.rbox 0
 have g1:=zab hzz.rbox 1
 have g2:=zab hzz.rbox 2
 have g3:=zab hzz.rbox 3
 have g4:=zab hzz.rbox 4
 have g5:=zab hzz.rbox 5
 have g6:=zab hzz.rbox 6
 have g7:=zab hzz.rbox 7
 have g8:=zab hzz.rbox 8
 have g9:=zab hzz.rbox 9
 have g10:=zab hzz.rbox 10
 have g11:=zab hzz.rbox 11
 have lbb:=hzz.blt
 have lrb:=hzz.rbl
 have hbr:¬bb=rb:=fun e=>hzz.ne e.symm
 have hrb:¬rb=bb:=hzz.ne
 clear hzz
 go_wp2_with fail
 refine bodyPost_ret (v:=.tuple #[.agg #[.slice (some ⟨gr,0,none⟩) 8 cr,.int .i64 m6.pc,.int .i64 m6.back,.bool m6.ints,.bool m6.wait,.int .i64 m6.table,.int .i64 m6.count,.int .i64 m6.fin,.slice (some ⟨mb,0,none⟩) 256 cm,.slice ao m6.out.length co,.int .i64 m6.ready,.int .i64 m6.want],.int .i64 (-1)]) (by simp[results,Tryd.results45,go_sem,r0,r1,r2,r3,r4,r5,r6,r7,r8,r9,r10,r11]) rfl ?_
 clear p0 p1 p2 p3 p4 p5 p6 p7 p8 p9 p10 p11 r0 r1 r2 r3 r4 r5 r6 r7 r8 r9 r10 r11 g0 g1 g2 g3 g4 g5 g6 g7 g8 g9 g10 g11
 rw[HEND.out]
 refine⟨ao,co,rfl,ZM.za (rb:=rb) ?_⟩
 repeat' (refine ZM.step ?_ HRB.out _ _)
 exact HZ6.out.zm
theorem zet(m:Mach)(w0:World)(D:Nat→Prop)(gr cr mb cm:Nat)(ao:Option Addr)(co:Nat)(irq:Bool)(ba:Option Addr)(b:List Int)(bc:Nat)(value:Int)(w:World)(hz:ZA w0 D gr cr mb cm m ao co w)(hf:m.fin=0)(hok:MOk m)(hc:m.count<1099511627776)(hl:b.length=0∨b.length=16)(hwb:∀z∈b,WordZ z)(hv:WordZ value)(hb:∀w',OutF D w0 w'→Ints w'.heap.size w' (.slice ba b.length bc) b)(he:(zal ({zax (zat (irqM m irq) b) with count:=(zax (zat (irqM m irq) b)).count+1}:Mach)).2=0):Calls Tryd.prog 45 #[.agg #[.slice (some ⟨gr,0,none⟩) 8 cr,.int .i64 m.pc,.int .i64 m.back,.bool m.ints,.bool m.wait,.int .i64 m.table,.int .i64 m.count,.int .i64 m.fin,.slice (some ⟨mb,0,none⟩) 256 cm,.slice ao m.out.length co,.int .i64 m.ready,.int .i64 m.want],.bool irq,.slice ba b.length bc,.int .i64 value] w (zd9 w0 D gr cr mb cm (zbe m irq b value)):=by
 have HS:=Lib.hid hz.start
 have HRB:Hid (D (w.heap.size+1)∨w0.heap.size≤w.heap.size+1):=Lib.hid (Or.inr (by have:=hz.old.size;omega))
 have hfb:(m.fin != 0)=false:=by rw[hf];rfl
 have HF0:=Lib.hid hf
 have HBK:=Lib.hid hb
 have HST:Hid (zbe m irq b value=za3 (zax (zat (irqM m irq) b)) value):=Lib.hid rfl
 have HOK1:Hid (MOk (irqM m irq)):=Lib.hid (hok.irq irq)
 have HF1:Hid ((irqM m irq).fin=0):=Lib.hid ((zbk m irq).1.trans hf)
 have HC1:Hid ((irqM m irq).count<1099511627776):=Lib.hid (by rw[(zbk m irq).2];exact hc)
 have HL:=Lib.hid hl
 have HWB:=Lib.hid hwb
 have HWV:=Lib.hid hv
 have HE:=Lib.hid he
 clear hz hf hok hc hl hwb hv hb he
 go_enter Tryd.func45,Tryd.ntmps45
 go_upto_region 3 with fail
 generalize hW:World.alloc (World.alloc w _) _=W1 at *
 generalize hrb:w.heap.size+1=rb at *
 generalize hbb:w.heap.size=bb at *
 clear hW hrb hbb
 refine zjp HS HF0.out ?_
 intros
 rename_i wc hcut
 clear HS hfb HF0
 generalize irqM m irq=m1 at *
 obtain⟨ao,co,hs1⟩:=hcut.out
 have HZ:=Lib.hid hs1
 clear hs1 hcut
 go_upto_region 4 with fail
 refine zkJ HZ ?_
 intros
 go_upto_if 38 with fail
 refine zjq HZ HOK1 HF1 HL HBK ?_
 intros
 rename_i wc hcut
 clear HZ
 have HOK2:Hid (MOk (zat m1 b)):=Lib.hid (HOK1.out.block HL.out HWB.out)
 have HF2:Hid ((zat m1 b).fin=0):=Lib.hid ((za1 m1 b).1.trans HF1.out)
 have HC2:Hid ((zat m1 b).count<1099511627776):=Lib.hid (by rw[(za1 m1 b).2];exact HC1.out)
 clear HOK1 HF1 HC1
 generalize zat m1 b=m2 at *
 obtain⟨ao,co,hs2⟩:=hcut.out
 have HZ:=Lib.hid hs2
 clear hs2 hcut
 go_upto_region 12 with fail
 refine zjr HZ ?_
 intros
 go_upto_if 63 with fail
 refine zjs HZ HF2 ?_
 intros
 rename_i wc hcut
 clear HZ
 have HOK3:Hid (MOk (zax m2)):=Lib.hid HOK2.out.enter
 have HF3:Hid ((zax m2).fin=0):=Lib.hid ((zaV m2).1.trans HF2.out)
 have HC3:Hid ((zax m2).count<1099511627776):=Lib.hid (by rw[(zaV m2).2];exact HC2.out)
 clear HOK2 HF2 HC2
 generalize zax m2=m3 at *
 obtain⟨ao,co,hs3⟩:=hcut.out
 have HZ:=Lib.hid hs3
 clear hs3 hcut
 go_upto_region 17 with fail
 refine zjt HZ HC3.out HOK3.out.count.1 ?_
 intros
 rename_i wc hcut
 clear HZ
 have HOK4:Hid (MOk {m3 with count:=m3.count+1}):=Lib.hid (by have:=HOK3.out.tick HC3.out (e:=0) (by omega) (by omega);rw[←HF3.out] at this;exact this)
 have HF4:Hid (({m3 with count:=m3.count+1}:Mach).fin=0):=Lib.hid HF3.out
 have HST4:Hid (zbe m irq b value=ranM {m3 with count:=m3.count+1} value):=Lib.hid (by rw[HST.out,zd8 HF3.out])
 clear HOK3 HF3 HC3 HST
 generalize ({m3 with count:=m3.count+1}:Mach)=m4 at *
 have HZ:=Lib.hid hcut.out
 clear hcut
 have HNX:=Lib.hid (fun w' hm=>zdg m4 (.slice (some ⟨gr,0,none⟩) 8 cr) (.slice ao m4.out.length co) mb cm w' HOK4.out hm)
 have hzz:=HZ.out
 first|(obtain⟨p0,p1,p2,p3,p4,p5,p6,p7,p8,p9,p10,p11⟩:=zaz hzz.box)|(obtain⟨p0,p1,p2,p3,p4,p5,p6,p7,p8,p9,p10,p11⟩:=zaA hzz.box)
 have lbb:=hzz.blt
 clear hzz
 have hdc:=zh4 HE.out
 have HR:Hid (ranM m4 value=finM (doM m4 (zaM (zal m4).1) (decA (zal m4).1) (decB (zal m4).1) (decN (zal m4).1) value)):=Lib.hid (zi3 _ HE.out)
 rw[zh3 HE.out hdc,HE.out] at HNX
 have HIC:Hid (zbo (zaM (zal m4).1) (decA (zal m4).1) (decB (zal m4).1) (decN (zal m4).1)=0):=Lib.hid hdc
 clear HE hdc
 generalize zaM (zal m4).1=op at *
 generalize decA (zal m4).1=za at *
 generalize decB (zal m4).1=zb at *
 generalize decN (zal m4).1=n at *
 obtain⟨h0,h1,a0,a1,b0,b1,n0,n1⟩:=zcQ HIC.out
 have HSML:=Lib.hid (zcT HIC.out)
 obtain⟨a,rfl⟩:=Int.eq_ofNat_of_zero_le a0
 obtain⟨c,rfl⟩:=Int.eq_ofNat_of_zero_le b0
 have ha:a<8:=by omega
 have hc8:c<8:=by omega
 have ha':(a:Int)<8:=by omega
 have hc':(c:Int)<8:=by omega
 have HNN:=Lib.hid (And.intro n0 n1)
 have HOP:=Lib.hid (And.intro h0 h1)
 have hpc:=HOK4.out.pc
 clear h0 h1 a0 a1 b0 b1 n0 n1
 go_upto_region 19 with(go_at_call 66;(with_reducible refine(HNX.out _ ?_).mono ?_);exact HZ.out.mem;rintro en w1 ⟨rfl,hb1⟩;have HZ1:=Lib.hid (HZ.out.kept hb1);clear hb1)
 clear p0 p1 p2 p3 p4 p5 p6 p7 p8 p9 p10 p11 lbb HZ
 have HZ:=Lib.hid (HZ1.out.alloc (.cells #[.int .i64 op,.int .i64 a,.int .i64 c,.int .i64 n] 123 (0,0)))
 have hib:(w1.alloc (.cells #[.int .i64 op,.int .i64 a,.int .i64 c,.int .i64 n] 123 (0,0))).heap[w1.heap.size]?=some (.cells #[.int .i64 op,.int .i64 a,.int .i64 c,.int .i64 n] 123 (0,0)):=alloc_at rfl
 have l1:=HZ1.out.blt
 have l2:=HZ1.out.rlt
 generalize hW:World.alloc w1 _=wz at *
 generalize hii:w1.heap.size=ib at *
 have lib:ib<wz.heap.size:=(Array.getElem?_eq_some_iff.1 hib).1
 have HNE:Hid (ib≠bb∧ib≠gr):=Lib.hid ⟨by omega,by omega⟩
 have HIB:=Lib.hid hib
 clear hW hii HZ1 l1 l2
 have q0:wz.cell? ⟨ib,0,none⟩=some (.int .i64 op):=zaa hib 0
 have q1:wz.cell? ⟨ib,1,none⟩=some (.int .i64 a):=zaa hib 1
 have q2:wz.cell? ⟨ib,2,none⟩=some (.int .i64 c):=zaa hib 2
 have k0:wz.cell? ⟨bb,0,none⟩=some (.slice (some ⟨gr,0,none⟩) 8 cr):=zaa HZ.out.box 0
 have k1:wz.cell? ⟨bb,1,none⟩=some (.int .i64 m4.pc):=zaa HZ.out.box 1
 have ra:=HZ.out.reg_at ha
 have rc:=HZ.out.reg_at hc8
 have lbb:=HZ.out.blt
 have lgr:=HZ.out.rlt
 clear hib
 go_upto_block 2 with fail
 clear q0 q1 q2 k0 k1 ra rc lbb lgr lib hpc
 clear HIC
 refine zle HZ HOK4 HF4 ha hc8 HNN.out HSML.out HIB.out HNE.out HOP.out ?_
 intros
 rename_i s13 s14 wc hcut
 clear HZ HSML HIB HNE HNN HNX HOP ha hc8 ha' hc'
 obtain⟨m5,nx,wr,rfl,rfl,HNR,HZS,HRR⟩:=hcut
 have HEND:Hid (zbe m irq b value=finM (doM m4 op a c n value)):=Lib.hid (by rw[HST4.out,HR.out])
 clear HST4 HR
 generalize doM m4 op a c n value=r at *
 obtain⟨ao,co,hs5⟩:=HZS.out
 have HZ:=Lib.hid hs5
 clear hs5 HZS
 have k7:wc.cell? ⟨bb,7,none⟩=some (.int .i64 m5.fin):=zaa HZ.out.box 7
 have lbb:=HZ.out.blt
 go_upto_if 300 with fail
 go_cut [] from 101 (fun wx =>∃m6:Mach,Hid (ZSt w0 D rb bb gr cr mb cm m6 ao co wx)∧Hid (finM r=(m6,wr)))
 case first=>
  by_cases h5:m5.fin=0
  ·
   have HP:=Lib.hid (HRR.out.fgo h5)
   have h5b:(m5.fin == 0)=true:=by rw[h5];rfl
   have f1:=zab HZ.out.box 1
   have k1:wc.cell? ⟨bb,1,none⟩=some (.int .i64 m5.pc):=zaa HZ.out.box 1
   obtain⟨nr1,nr2⟩:=HNR.out
   clear h5 HRR k7
   have HFO:=Lib.hid (fun w=>zbK nx w nr1 nr2)
   go_wp2_with (go_at_call 67;go_loud (refine(HFO.out _).mono ?_);rintro e w' ⟨rfl,rfl⟩)
   go_meet
   case rel=>exact⟨m5.goTo nx,Lib.hid (HZ.out.put 1 (.int .i64 (zaH nx)) (m5.goTo nx) rfl rfl rfl rfl),HP⟩
  ·
   have HP:=Lib.hid (HRR.out.fstop h5)
   have h5b:(m5.fin == 0)=false:=by rw[beq_eq_false_iff_ne];exact h5
   clear h5 HRR k7
   go_wp2
   go_meet
   case rel=>exact⟨m5,HZ,HP⟩
 case rest=>
 obtain⟨m6,HZ6,HM6⟩:=hcut
 clear k7 lbb HZ HRR HNR
 go_upto_region 84 with fail
 refine zkU HZ6 HRB ?_
 intros
 rename_i wx hzr
 have lrb:=(Array.getElem?_eq_some_iff.1 hzr.out.1).1
 first|(obtain⟨q0,q1,q2,q3,q4,q5,q6,q7,q8,q9,q10,q11⟩:=zaz hzr.out.1)|(obtain⟨q0,q1,q2,q3,q4,q5,q6,q7,q8,q9,q10,q11⟩:=zaA hzr.out.1)
 go_wp2_with fail
 refine bodyPost_ret (v:=.tuple #[.agg #[.slice (some ⟨gr,0,none⟩) 8 cr,.int .i64 m6.pc,.int .i64 m6.back,.bool m6.ints,.bool m6.wait,.int .i64 m6.table,.int .i64 m6.count,.int .i64 m6.fin,.slice (some ⟨mb,0,none⟩) 256 cm,.slice ao m6.out.length co,.int .i64 m6.ready,.int .i64 m6.want],.int .i64 wr]) (by simp[results,Tryd.results45,go_sem,q0,q1,q2,q3,q4,q5,q6,q7,q8,q9,q10,q11]) rfl ?_
 rw[HEND.out,HM6.out]
 exact⟨ao,co,rfl,hzr.out.2.za⟩
theorem zfe(m:Mach)(w0:World)(D:Nat→Prop)(gr cr mb cm:Nat)(ao:Option Addr)(co:Nat)(irq:Bool)(ba:Option Addr)(b:List Int)(bc:Nat)(value:Int)(w:World)(hz:ZA w0 D gr cr mb cm m ao co w)(hok:MOk m)(hc:m.count<1099511627776)(hl:b.length=0∨b.length=16)(hwb:∀z∈b,WordZ z)(hv:WordZ value)(hb:∀w',OutF D w0 w'→Ints w'.heap.size w' (.slice ba b.length bc) b):Calls Tryd.prog 45 #[.agg #[.slice (some ⟨gr,0,none⟩) 8 cr,.int .i64 m.pc,.int .i64 m.back,.bool m.ints,.bool m.wait,.int .i64 m.table,.int .i64 m.count,.int .i64 m.fin,.slice (some ⟨mb,0,none⟩) 256 cm,.slice ao m.out.length co,.int .i64 m.ready,.int .i64 m.want],.bool irq,.slice ba b.length bc,.int .i64 value] w (zd9 w0 D gr cr mb cm (zbe m irq b value)):=by
 by_cases hf:m.fin=0
 ·
  by_cases he:(zal ({zax (zat (irqM m irq) b) with count:=(zax (zat (irqM m irq) b)).count+1}:Mach)).2=0
  ·exact zet m w0 D gr cr mb cm ao co irq ba b bc value w hz hf hok hc hl hwb hv hb he
  ·exact zfd m w0 D gr cr mb cm ao co irq ba b bc value w hz hf hok hc hl hwb hv hb he
 ·exact zfc m w0 D gr cr mb cm ao co irq ba b bc value w hz hf
end Go.Proofs.YtflonfcemlfbdaaDoor
