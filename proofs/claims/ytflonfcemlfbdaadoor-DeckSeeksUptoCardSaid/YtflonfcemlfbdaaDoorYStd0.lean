/- The switch of the document's stepped, instructions 0 to 3. No condition beyond those of each row. -/
import Derived.Test.YtflonfcemlfbdaaDoorYStc
import Derived.Handy
import Derived.StillTailTactics
import Derived.Deep.RegionWith
import Derived.Deep.RegionLaw
import Derived.Deep.CutBlock
import Derived.Deep.CutRange
import Derived.Deep.RegionHeld3
import Derived.Deep.LoopGhost
namespace Go.Proofs.YtflonfcemlfbdaaDoor
open Go Go.RowKit Go.ChangeShapes Go.WideShapes Go.Deep
set_option maxHeartbeats 8000000
set_option maxRecDepth 100000
set_option linter.unusedVariables false
attribute [local go_sem ↓] Go.wp_at_zero Go.wp_at_succ
theorem zkK{w0:World}{D:Nat→Prop}{rb bb gr cr mb cm:Nat}{ao:Option Addr}{co:Nat}{m4:Mach}{a c ib:Nat}{n value:Int}{wz:World}{K:Act→World→Prop}{Q':Exit→Act→World→Prop}{x0 x1 x2 x5 x6 x7 x8 x9 x10 x12 x17 x18 x19 x20 x21 x22 x23 x24 x25 x26 x27 x28 x29 x30 x31 x32 x33 x34 x35 x36 x37 x38 x39 x40 x41 x42 x43 x44 x45 x46 x47 x48 x49 x50 x51 x52 x53 x54 x55 x56 x57 x58 x59 x60 x61 x62 x63 x64 x65 x66 x67 x68 x69 x70 x71 x72 x73 x74 x75 x76 x77 x78 x79 x80 x81 x82 x83 x84 x85 x86 x87 x88 x89 x90 x91 x92 x93 x94 x95 x96 x97 x98 x99 x101 x102 x103 x104 x105 x106 x107 x108 x109 x110 x111 x112 x113 x114 x115 x116 x117 x118 x119 x120 x121 x122 x123 x124 x125 x126 x127 x128 x129 x130 x131 x132 x133 x134 x135 x136 x137 x138 x139 x140 x141 x142 x143 x144 x145 x146 x147 x148 x149 x150 x151 x152 x153 x154 x155 x156 x157 x158 x159 x160 x161 x162 x163 x164 x165 x166 x167 x168 x169 x170 x171 x172 x173 x174 x175 x176 x177 x178 x179 x180 x181 x182 x183 x184 x185 x186 x187 x188 x189 x190 x191 x192 x193 x194 x195 x196 x197 x198 x199 x200 x201 x202 x203 x204 x205 x206 x207 x208 x209 x210 x211 x212 x213 x214 x215 x216 x217 x218 x219 x220 x221 x222 x223 x224 x225 x226 x227 x228 x229 x230 x231 x232 x233 x234 x235 x236 x237 x238 x239 x240 x241 x242 x243 x244 x245 x246 x247 x248 x249 x250 x251 x252 x253 x254 x255 x256 x257 x258 x259 x260 x261 x262 x263 x264 x265 x266 x267 x268 x269 x270 x271 x272 x273 x274 x275 x276 x277 x278 x279 x280 x281 x282 x283 x284 x285 x286 x287 x288 x289 x290 x291 x292 x293 x294 x295 x296 x297 x298 x299 x300 x301 x302 x303 x304 x305:Value}(HZ:Hid (ZSt w0 D rb bb gr cr mb cm m4 ao co wz))(HOK4:Hid (MOk m4))(HF4:Hid (m4.fin=0))(ha:a<8)(hc8:c<8)(hnn:-1048576≤n∧n≤1048575)(hsm:(0:Int)=2∨(0:Int)=3→0≤n∧n<8)(hib:wz.heap[ib]?=some (.cells #[.int .i64 0,.int .i64 a,.int .i64 c,.int .i64 n] 123 (0,0)))(hne:ib≠bb∧ib≠gr)(hK:∀(y17 y18 y19 y20 y101 y102 y103 y104 y105 y106 y107 y108 y109 y110 y111 y112 y113 y114 y115 y116 y117 y118 y119 y120 y121 y122 y123 y124 y125 y126 y127 y128 y129 y130 y131 y132 y133 y134 y135 y136 y137 y138 y139 y140 y141 y142 y143 y144 y145 y146 y147 y148 y149 y150 y151 y152 y153 y154 y155 y156 y157 y158 y159 y160 y161 y162 y163 y164 y165 y166 y167 y168 y169 y170 y171 y172 y173 y174 y175 y176 y177 y178 y179 y180 y181 y182 y183 y184 y185 y186 y187 y188 y189 y190 y191 y192 y193 y194 y195 y196 y197 y198 y199 y200 y201 y202 y203 y204 y205 y206 y207 y208 y209 y210 y211 y212 y213 y214 y215 y216 y217 y218 y219 y220 y221 y222 y223 y224 y225 y226 y227 y228 y229 y230 y231 y232 y233 y234 y235 y236 y237 y238 y239 y240 y241 y242 y243 y244 y245 y246 y247 y248 y249 y250 y251 y252 y253 y254 y255 y256 y257 y258 y259 y260 y261 y262 y263 y264 y265 y266 y267 y268 y269 y270 y271 y272 y273 y274 y275 y276 y277 y278 y279 y280 y281 y282 y283 y284 y285 y286 y287 y288 y289 y290 y291 y292 y293 y294 y295 y296 y297 y298 y299 y300 y301 y302 y303 y304 y305:Value) (s13 s14:Value) (wx:World),(∃(m5:Mach) (nx wr:Int),s13=.int .i64 nx∧s14=.int .i64 wr∧Hid (-4398046511104≤nx∧nx≤4398046511104)∧Hid (ZS w0 D rb bb gr cr mb cm m5 wx)∧Hid (RanR m5 nx wr (doM m4 0 a c n value)))→K ⟨List.toArray (x0::x1::x2 :: .int .i64 value :: .pointer (some ⟨bb,0,none⟩)::x5::x6::x7::x8::x9::x10 :: .pointer (some ⟨ib,0,none⟩)::x12::s13::s14 :: .int .i64 (m4.reg a) :: .int .i64 (m4.reg c)::y17::y18::y19::y20::x21::x22::x23::x24::x25::x26::x27::x28::x29::x30::x31::x32::x33::x34::x35::x36::x37::x38::x39::x40::x41::x42::x43::x44::x45::x46::x47::x48::x49::x50::x51::x52::x53::x54::x55::x56::x57::x58::x59::x60::x61::x62::x63::x64::x65::x66::x67::x68::x69::x70::x71::x72::x73::x74::x75::x76::x77::x78::x79::x80::x81::x82::x83::x84::x85::x86::x87::x88::x89::x90::x91::x92::x93::x94::x95::x96::x97::x98::x99 :: .int .i64 0::y101::y102::y103::y104::y105::y106::y107::y108::y109::y110::y111::y112::y113::y114::y115::y116::y117::y118::y119::y120::y121::y122::y123::y124::y125::y126::y127::y128::y129::y130::y131::y132::y133::y134::y135::y136::y137::y138::y139::y140::y141::y142::y143::y144::y145::y146::y147::y148::y149::y150::y151::y152::y153::y154::y155::y156::y157::y158::y159::y160::y161::y162::y163::y164::y165::y166::y167::y168::y169::y170::y171::y172::y173::y174::y175::y176::y177::y178::y179::y180::y181::y182::y183::y184::y185::y186::y187::y188::y189::y190::y191::y192::y193::y194::y195::y196::y197::y198::y199::y200::y201::y202::y203::y204::y205::y206::y207::y208::y209::y210::y211::y212::y213::y214::y215::y216::y217::y218::y219::y220::y221::y222::y223::y224::y225::y226::y227::y228::y229::y230::y231::y232::y233::y234::y235::y236::y237::y238::y239::y240::y241::y242::y243::y244::y245::y246::y247::y248::y249::y250::y251::y252::y253::y254::y255::y256::y257::y258::y259::y260::y261::y262::y263::y264::y265::y266::y267::y268::y269::y270::y271::y272::y273::y274::y275::y276::y277::y278::y279::y280::y281::y282::y283::y284::y285::y286::y287::y288::y289::y290::y291::y292::y293::y294::y295::y296::y297::y298::y299::y300::y301::y302::y303::y304::y305::[]),[]⟩ wx):(zbb [1,1,1,1,1,1,1,1,1,1,1,1,0,1]).wp Tryd.prog (Exit.then K Q') ⟨List.toArray (x0::x1::x2 :: .int .i64 value :: .pointer (some ⟨bb,0,none⟩)::x5::x6::x7::x8::x9::x10 :: .pointer (some ⟨ib,0,none⟩)::x12 :: .int .i64 (m4.pc+1) :: .int .i64 (-1) :: .int .i64 (m4.reg a) :: .int .i64 (m4.reg c)::x17::x18::x19::x20::x21::x22::x23::x24::x25::x26::x27::x28::x29::x30::x31::x32::x33::x34::x35::x36::x37::x38::x39::x40::x41::x42::x43::x44::x45::x46::x47::x48::x49::x50::x51::x52::x53::x54::x55::x56::x57::x58::x59::x60::x61::x62::x63::x64::x65::x66::x67::x68::x69::x70::x71::x72::x73::x74::x75::x76::x77::x78::x79::x80::x81::x82::x83::x84::x85::x86::x87::x88::x89::x90::x91::x92::x93::x94::x95::x96::x97::x98::x99 :: .int .i64 0::x101::x102::x103::x104::x105::x106::x107::x108::x109::x110::x111::x112::x113::x114::x115::x116::x117::x118::x119::x120::x121::x122::x123::x124::x125::x126::x127::x128::x129::x130::x131::x132::x133::x134::x135::x136::x137::x138::x139::x140::x141::x142::x143::x144::x145::x146::x147::x148::x149::x150::x151::x152::x153::x154::x155::x156::x157::x158::x159::x160::x161::x162::x163::x164::x165::x166::x167::x168::x169::x170::x171::x172::x173::x174::x175::x176::x177::x178::x179::x180::x181::x182::x183::x184::x185::x186::x187::x188::x189::x190::x191::x192::x193::x194::x195::x196::x197::x198::x199::x200::x201::x202::x203::x204::x205::x206::x207::x208::x209::x210::x211::x212::x213::x214::x215::x216::x217::x218::x219::x220::x221::x222::x223::x224::x225::x226::x227::x228::x229::x230::x231::x232::x233::x234::x235::x236::x237::x238::x239::x240::x241::x242::x243::x244::x245::x246::x247::x248::x249::x250::x251::x252::x253::x254::x255::x256::x257::x258::x259::x260::x261::x262::x263::x264::x265::x266::x267::x268::x269::x270::x271::x272::x273::x274::x275::x276::x277::x278::x279::x280::x281::x282::x283::x284::x285::x286::x287::x288::x289::x290::x291::x292::x293::x294::x295::x296::x297::x298::x299::x300::x301::x302::x303::x304::x305::[]),[]⟩ wz:=by
 have HK:=Lib.hid hK
 clear hK
 conv=>arg 2;whnf
 go_cut [13,14] from 101 (fun s13 s14 wx =>∃(m5:Mach) (nx wr:Int),s13=.int .i64 nx∧s14=.int .i64 wr∧Hid (-4398046511104≤nx∧nx≤4398046511104)∧Hid (ZS w0 D rb bb gr cr mb cm m5 wx)∧Hid (RanR m5 nx wr (doM m4 0 a c n value)))
 case rest=>
  exact HK.out _ _ _ _ _ _ _ _ _ _ _ _ _ _ _ _ _ _ _ _ _ _ _ _ _ _ _ _ _ _ _ _ _ _ _ _ _ _ _ _ _ _ _ _ _ _ _ _ _ _ _ _ _ _ _ _ _ _ _ _ _ _ _ _ _ _ _ _ _ _ _ _ _ _ _ _ _ _ _ _ _ _ _ _ _ _ _ _ _ _ _ _ _ _ _ _ _ _ _ _ _ _ _ _ _ _ _ _ _ _ _ _ _ _ _ _ _ _ _ _ _ _ _ _ _ _ _ _ _ _ _ _ _ _ _ _ _ _ _ _ _ _ _ _ _ _ _ _ _ _ _ _ _ _ _ _ _ _ _ _ _ _ _ _ _ _ _ _ _ _ _ _ _ _ _ _ _ _ _ _ _ _ _ _ _ _ _ _ _ _ _ _ _ _ _ _ _ _ _ _ _ _ _ _ _ _ _ _ _ _ _ _ hcut
 case first=>
  clear HK
  have hn1:=hnn.1
  have hn2:=hnn.2
  have HSML:=Lib.hid hsm
  have hpc:=HOK4.out.pc
  have wra:=HOK4.out.wreg a
  have wrc:=HOK4.out.wreg c
  unfold WordZ at wra wrc
  have ha':(a:Int)<8:=by omega
  have hc':(c:Int)<8:=by omega
  clear hsm
  have q0:wz.cell? ⟨ib,0,none⟩=some (.int .i64 0):=zaa hib 0
  have q1:wz.cell? ⟨ib,1,none⟩=some (.int .i64 a):=zaa hib 1
  have q2:wz.cell? ⟨ib,2,none⟩=some (.int .i64 c):=zaa hib 2
  have q3:wz.cell? ⟨ib,3,none⟩=some (.int .i64 n):=zaa hib 3
  have k0:wz.cell? ⟨bb,0,none⟩=some (.slice (some ⟨gr,0,none⟩) 8 cr):=zaa HZ.out.box 0
  have k1:wz.cell? ⟨bb,1,none⟩=some (.int .i64 m4.pc):=zaa HZ.out.box 1
  have ra:=HZ.out.reg_at ha
  have rc:=HZ.out.reg_at hc8
  have lbb:=HZ.out.blt
  have lgr:=HZ.out.rlt
  have lib:=(Array.getElem?_eq_some_iff.1 hib).1
  have wpc:IntKind.i64.wrap (m4.pc+1)=m4.pc+1:=IntWalk.i64_in _ (by omega)
  have n1b:¬ib=bb:=hne.1
  have n2b:¬ib=gr:=hne.2
  have n3b:¬bb=ib:=fun e=>hne.1 e.symm
  have n4b:¬gr=ib:=fun e=>hne.2 e.symm
  have hne1:¬gr=bb:=HZ.out.grb
  have hne2:¬bb=gr:=fun e=>HZ.out.grb e.symm
  clear hib hne
  have HRN:=Lib.hid (show -4398046511104≤m4.pc+1∧m4.pc+1≤4398046511104 by omega)
  have fra:wz.frozen? ⟨gr,a,none⟩=false:=HZ.out.regs.frozenAt a
  have k7:wz.cell? ⟨bb,7,none⟩=some (.int .i64 m4.fin):=zaa HZ.out.box 7
  have f7:=zab HZ.out.box 7
  go_wp2_with fail
  go_meet
  case rel=>exact⟨{m4 with fin:=1},m4.pc+1,-1,rfl,rfl,HRN,Lib.hid (HZ.out.put 7 (.int .i64 1) {m4 with fin:=1} rfl rfl rfl rfl).zs,Lib.hid (RanR.bad HF4.out (e:=1) (by decide) _ rfl)⟩
theorem zkL{w0:World}{D:Nat→Prop}{rb bb gr cr mb cm:Nat}{ao:Option Addr}{co:Nat}{m4:Mach}{a c ib:Nat}{n value:Int}{wz:World}{K:Act→World→Prop}{Q':Exit→Act→World→Prop}{x0 x1 x2 x5 x6 x7 x8 x9 x10 x12 x17 x18 x19 x20 x21 x22 x23 x24 x25 x26 x27 x28 x29 x30 x31 x32 x33 x34 x35 x36 x37 x38 x39 x40 x41 x42 x43 x44 x45 x46 x47 x48 x49 x50 x51 x52 x53 x54 x55 x56 x57 x58 x59 x60 x61 x62 x63 x64 x65 x66 x67 x68 x69 x70 x71 x72 x73 x74 x75 x76 x77 x78 x79 x80 x81 x82 x83 x84 x85 x86 x87 x88 x89 x90 x91 x92 x93 x94 x95 x96 x97 x98 x99 x101 x102 x103 x104 x105 x106 x107 x108 x109 x110 x111 x112 x113 x114 x115 x116 x117 x118 x119 x120 x121 x122 x123 x124 x125 x126 x127 x128 x129 x130 x131 x132 x133 x134 x135 x136 x137 x138 x139 x140 x141 x142 x143 x144 x145 x146 x147 x148 x149 x150 x151 x152 x153 x154 x155 x156 x157 x158 x159 x160 x161 x162 x163 x164 x165 x166 x167 x168 x169 x170 x171 x172 x173 x174 x175 x176 x177 x178 x179 x180 x181 x182 x183 x184 x185 x186 x187 x188 x189 x190 x191 x192 x193 x194 x195 x196 x197 x198 x199 x200 x201 x202 x203 x204 x205 x206 x207 x208 x209 x210 x211 x212 x213 x214 x215 x216 x217 x218 x219 x220 x221 x222 x223 x224 x225 x226 x227 x228 x229 x230 x231 x232 x233 x234 x235 x236 x237 x238 x239 x240 x241 x242 x243 x244 x245 x246 x247 x248 x249 x250 x251 x252 x253 x254 x255 x256 x257 x258 x259 x260 x261 x262 x263 x264 x265 x266 x267 x268 x269 x270 x271 x272 x273 x274 x275 x276 x277 x278 x279 x280 x281 x282 x283 x284 x285 x286 x287 x288 x289 x290 x291 x292 x293 x294 x295 x296 x297 x298 x299 x300 x301 x302 x303 x304 x305:Value}(HZ:Hid (ZSt w0 D rb bb gr cr mb cm m4 ao co wz))(HOK4:Hid (MOk m4))(HF4:Hid (m4.fin=0))(ha:a<8)(hc8:c<8)(hnn:-1048576≤n∧n≤1048575)(hsm:(1:Int)=2∨(1:Int)=3→0≤n∧n<8)(hib:wz.heap[ib]?=some (.cells #[.int .i64 1,.int .i64 a,.int .i64 c,.int .i64 n] 123 (0,0)))(hne:ib≠bb∧ib≠gr)(hK:∀(y17 y18 y19 y20 y101 y102 y103 y104 y105 y106 y107 y108 y109 y110 y111 y112 y113 y114 y115 y116 y117 y118 y119 y120 y121 y122 y123 y124 y125 y126 y127 y128 y129 y130 y131 y132 y133 y134 y135 y136 y137 y138 y139 y140 y141 y142 y143 y144 y145 y146 y147 y148 y149 y150 y151 y152 y153 y154 y155 y156 y157 y158 y159 y160 y161 y162 y163 y164 y165 y166 y167 y168 y169 y170 y171 y172 y173 y174 y175 y176 y177 y178 y179 y180 y181 y182 y183 y184 y185 y186 y187 y188 y189 y190 y191 y192 y193 y194 y195 y196 y197 y198 y199 y200 y201 y202 y203 y204 y205 y206 y207 y208 y209 y210 y211 y212 y213 y214 y215 y216 y217 y218 y219 y220 y221 y222 y223 y224 y225 y226 y227 y228 y229 y230 y231 y232 y233 y234 y235 y236 y237 y238 y239 y240 y241 y242 y243 y244 y245 y246 y247 y248 y249 y250 y251 y252 y253 y254 y255 y256 y257 y258 y259 y260 y261 y262 y263 y264 y265 y266 y267 y268 y269 y270 y271 y272 y273 y274 y275 y276 y277 y278 y279 y280 y281 y282 y283 y284 y285 y286 y287 y288 y289 y290 y291 y292 y293 y294 y295 y296 y297 y298 y299 y300 y301 y302 y303 y304 y305:Value) (s13 s14:Value) (wx:World),(∃(m5:Mach) (nx wr:Int),s13=.int .i64 nx∧s14=.int .i64 wr∧Hid (-4398046511104≤nx∧nx≤4398046511104)∧Hid (ZS w0 D rb bb gr cr mb cm m5 wx)∧Hid (RanR m5 nx wr (doM m4 1 a c n value)))→K ⟨List.toArray (x0::x1::x2 :: .int .i64 value :: .pointer (some ⟨bb,0,none⟩)::x5::x6::x7::x8::x9::x10 :: .pointer (some ⟨ib,0,none⟩)::x12::s13::s14 :: .int .i64 (m4.reg a) :: .int .i64 (m4.reg c)::y17::y18::y19::y20::x21::x22::x23::x24::x25::x26::x27::x28::x29::x30::x31::x32::x33::x34::x35::x36::x37::x38::x39::x40::x41::x42::x43::x44::x45::x46::x47::x48::x49::x50::x51::x52::x53::x54::x55::x56::x57::x58::x59::x60::x61::x62::x63::x64::x65::x66::x67::x68::x69::x70::x71::x72::x73::x74::x75::x76::x77::x78::x79::x80::x81::x82::x83::x84::x85::x86::x87::x88::x89::x90::x91::x92::x93::x94::x95::x96::x97::x98::x99 :: .int .i64 1::y101::y102::y103::y104::y105::y106::y107::y108::y109::y110::y111::y112::y113::y114::y115::y116::y117::y118::y119::y120::y121::y122::y123::y124::y125::y126::y127::y128::y129::y130::y131::y132::y133::y134::y135::y136::y137::y138::y139::y140::y141::y142::y143::y144::y145::y146::y147::y148::y149::y150::y151::y152::y153::y154::y155::y156::y157::y158::y159::y160::y161::y162::y163::y164::y165::y166::y167::y168::y169::y170::y171::y172::y173::y174::y175::y176::y177::y178::y179::y180::y181::y182::y183::y184::y185::y186::y187::y188::y189::y190::y191::y192::y193::y194::y195::y196::y197::y198::y199::y200::y201::y202::y203::y204::y205::y206::y207::y208::y209::y210::y211::y212::y213::y214::y215::y216::y217::y218::y219::y220::y221::y222::y223::y224::y225::y226::y227::y228::y229::y230::y231::y232::y233::y234::y235::y236::y237::y238::y239::y240::y241::y242::y243::y244::y245::y246::y247::y248::y249::y250::y251::y252::y253::y254::y255::y256::y257::y258::y259::y260::y261::y262::y263::y264::y265::y266::y267::y268::y269::y270::y271::y272::y273::y274::y275::y276::y277::y278::y279::y280::y281::y282::y283::y284::y285::y286::y287::y288::y289::y290::y291::y292::y293::y294::y295::y296::y297::y298::y299::y300::y301::y302::y303::y304::y305::[]),[]⟩ wx):(zbb [1,1,1,1,1,1,1,1,1,1,1,1,0,1]).wp Tryd.prog (Exit.then K Q') ⟨List.toArray (x0::x1::x2 :: .int .i64 value :: .pointer (some ⟨bb,0,none⟩)::x5::x6::x7::x8::x9::x10 :: .pointer (some ⟨ib,0,none⟩)::x12 :: .int .i64 (m4.pc+1) :: .int .i64 (-1) :: .int .i64 (m4.reg a) :: .int .i64 (m4.reg c)::x17::x18::x19::x20::x21::x22::x23::x24::x25::x26::x27::x28::x29::x30::x31::x32::x33::x34::x35::x36::x37::x38::x39::x40::x41::x42::x43::x44::x45::x46::x47::x48::x49::x50::x51::x52::x53::x54::x55::x56::x57::x58::x59::x60::x61::x62::x63::x64::x65::x66::x67::x68::x69::x70::x71::x72::x73::x74::x75::x76::x77::x78::x79::x80::x81::x82::x83::x84::x85::x86::x87::x88::x89::x90::x91::x92::x93::x94::x95::x96::x97::x98::x99 :: .int .i64 1::x101::x102::x103::x104::x105::x106::x107::x108::x109::x110::x111::x112::x113::x114::x115::x116::x117::x118::x119::x120::x121::x122::x123::x124::x125::x126::x127::x128::x129::x130::x131::x132::x133::x134::x135::x136::x137::x138::x139::x140::x141::x142::x143::x144::x145::x146::x147::x148::x149::x150::x151::x152::x153::x154::x155::x156::x157::x158::x159::x160::x161::x162::x163::x164::x165::x166::x167::x168::x169::x170::x171::x172::x173::x174::x175::x176::x177::x178::x179::x180::x181::x182::x183::x184::x185::x186::x187::x188::x189::x190::x191::x192::x193::x194::x195::x196::x197::x198::x199::x200::x201::x202::x203::x204::x205::x206::x207::x208::x209::x210::x211::x212::x213::x214::x215::x216::x217::x218::x219::x220::x221::x222::x223::x224::x225::x226::x227::x228::x229::x230::x231::x232::x233::x234::x235::x236::x237::x238::x239::x240::x241::x242::x243::x244::x245::x246::x247::x248::x249::x250::x251::x252::x253::x254::x255::x256::x257::x258::x259::x260::x261::x262::x263::x264::x265::x266::x267::x268::x269::x270::x271::x272::x273::x274::x275::x276::x277::x278::x279::x280::x281::x282::x283::x284::x285::x286::x287::x288::x289::x290::x291::x292::x293::x294::x295::x296::x297::x298::x299::x300::x301::x302::x303::x304::x305::[]),[]⟩ wz:=by
 have HK:=Lib.hid hK
 clear hK
 conv=>arg 2;whnf
 go_cut [13,14] from 101 (fun s13 s14 wx =>∃(m5:Mach) (nx wr:Int),s13=.int .i64 nx∧s14=.int .i64 wr∧Hid (-4398046511104≤nx∧nx≤4398046511104)∧Hid (ZS w0 D rb bb gr cr mb cm m5 wx)∧Hid (RanR m5 nx wr (doM m4 1 a c n value)))
 case rest=>
  exact HK.out _ _ _ _ _ _ _ _ _ _ _ _ _ _ _ _ _ _ _ _ _ _ _ _ _ _ _ _ _ _ _ _ _ _ _ _ _ _ _ _ _ _ _ _ _ _ _ _ _ _ _ _ _ _ _ _ _ _ _ _ _ _ _ _ _ _ _ _ _ _ _ _ _ _ _ _ _ _ _ _ _ _ _ _ _ _ _ _ _ _ _ _ _ _ _ _ _ _ _ _ _ _ _ _ _ _ _ _ _ _ _ _ _ _ _ _ _ _ _ _ _ _ _ _ _ _ _ _ _ _ _ _ _ _ _ _ _ _ _ _ _ _ _ _ _ _ _ _ _ _ _ _ _ _ _ _ _ _ _ _ _ _ _ _ _ _ _ _ _ _ _ _ _ _ _ _ _ _ _ _ _ _ _ _ _ _ _ _ _ _ _ _ _ _ _ _ _ _ _ _ _ _ _ _ _ _ _ _ _ _ _ _ hcut
 case first=>
  clear HK
  have hn1:=hnn.1
  have hn2:=hnn.2
  have HSML:=Lib.hid hsm
  have hpc:=HOK4.out.pc
  have wra:=HOK4.out.wreg a
  have wrc:=HOK4.out.wreg c
  unfold WordZ at wra wrc
  have ha':(a:Int)<8:=by omega
  have hc':(c:Int)<8:=by omega
  clear hsm
  have q0:wz.cell? ⟨ib,0,none⟩=some (.int .i64 1):=zaa hib 0
  have q1:wz.cell? ⟨ib,1,none⟩=some (.int .i64 a):=zaa hib 1
  have q2:wz.cell? ⟨ib,2,none⟩=some (.int .i64 c):=zaa hib 2
  have q3:wz.cell? ⟨ib,3,none⟩=some (.int .i64 n):=zaa hib 3
  have k0:wz.cell? ⟨bb,0,none⟩=some (.slice (some ⟨gr,0,none⟩) 8 cr):=zaa HZ.out.box 0
  have k1:wz.cell? ⟨bb,1,none⟩=some (.int .i64 m4.pc):=zaa HZ.out.box 1
  have ra:=HZ.out.reg_at ha
  have rc:=HZ.out.reg_at hc8
  have lbb:=HZ.out.blt
  have lgr:=HZ.out.rlt
  have lib:=(Array.getElem?_eq_some_iff.1 hib).1
  have wpc:IntKind.i64.wrap (m4.pc+1)=m4.pc+1:=IntWalk.i64_in _ (by omega)
  have n1b:¬ib=bb:=hne.1
  have n2b:¬ib=gr:=hne.2
  have n3b:¬bb=ib:=fun e=>hne.1 e.symm
  have n4b:¬gr=ib:=fun e=>hne.2 e.symm
  have hne1:¬gr=bb:=HZ.out.grb
  have hne2:¬bb=gr:=fun e=>HZ.out.grb e.symm
  clear hib hne
  have HRN:=Lib.hid (show -4398046511104≤m4.pc+1∧m4.pc+1≤4398046511104 by omega)
  have fra:wz.frozen? ⟨gr,a,none⟩=false:=HZ.out.regs.frozenAt a
  go_wp2_with fail
  go_meet
  case rel=>exact⟨m4.setReg a n,m4.pc+1,-1,rfl,rfl,HRN,Lib.hid (HZ.out.setReg a n).zs,Lib.hid (Or.inl ⟨HF4.out,rfl⟩)⟩
theorem zkM{w0:World}{D:Nat→Prop}{rb bb gr cr mb cm:Nat}{ao:Option Addr}{co:Nat}{m4:Mach}{a c ib:Nat}{n value:Int}{wz:World}{K:Act→World→Prop}{Q':Exit→Act→World→Prop}{x0 x1 x2 x5 x6 x7 x8 x9 x10 x12 x17 x18 x19 x20 x21 x22 x23 x24 x25 x26 x27 x28 x29 x30 x31 x32 x33 x34 x35 x36 x37 x38 x39 x40 x41 x42 x43 x44 x45 x46 x47 x48 x49 x50 x51 x52 x53 x54 x55 x56 x57 x58 x59 x60 x61 x62 x63 x64 x65 x66 x67 x68 x69 x70 x71 x72 x73 x74 x75 x76 x77 x78 x79 x80 x81 x82 x83 x84 x85 x86 x87 x88 x89 x90 x91 x92 x93 x94 x95 x96 x97 x98 x99 x101 x102 x103 x104 x105 x106 x107 x108 x109 x110 x111 x112 x113 x114 x115 x116 x117 x118 x119 x120 x121 x122 x123 x124 x125 x126 x127 x128 x129 x130 x131 x132 x133 x134 x135 x136 x137 x138 x139 x140 x141 x142 x143 x144 x145 x146 x147 x148 x149 x150 x151 x152 x153 x154 x155 x156 x157 x158 x159 x160 x161 x162 x163 x164 x165 x166 x167 x168 x169 x170 x171 x172 x173 x174 x175 x176 x177 x178 x179 x180 x181 x182 x183 x184 x185 x186 x187 x188 x189 x190 x191 x192 x193 x194 x195 x196 x197 x198 x199 x200 x201 x202 x203 x204 x205 x206 x207 x208 x209 x210 x211 x212 x213 x214 x215 x216 x217 x218 x219 x220 x221 x222 x223 x224 x225 x226 x227 x228 x229 x230 x231 x232 x233 x234 x235 x236 x237 x238 x239 x240 x241 x242 x243 x244 x245 x246 x247 x248 x249 x250 x251 x252 x253 x254 x255 x256 x257 x258 x259 x260 x261 x262 x263 x264 x265 x266 x267 x268 x269 x270 x271 x272 x273 x274 x275 x276 x277 x278 x279 x280 x281 x282 x283 x284 x285 x286 x287 x288 x289 x290 x291 x292 x293 x294 x295 x296 x297 x298 x299 x300 x301 x302 x303 x304 x305:Value}(HZ:Hid (ZSt w0 D rb bb gr cr mb cm m4 ao co wz))(HOK4:Hid (MOk m4))(HF4:Hid (m4.fin=0))(ha:a<8)(hc8:c<8)(hnn:-1048576≤n∧n≤1048575)(hsm:(2:Int)=2∨(2:Int)=3→0≤n∧n<8)(hib:wz.heap[ib]?=some (.cells #[.int .i64 2,.int .i64 a,.int .i64 c,.int .i64 n] 123 (0,0)))(hne:ib≠bb∧ib≠gr)(hK:∀(y17 y18 y19 y20 y101 y102 y103 y104 y105 y106 y107 y108 y109 y110 y111 y112 y113 y114 y115 y116 y117 y118 y119 y120 y121 y122 y123 y124 y125 y126 y127 y128 y129 y130 y131 y132 y133 y134 y135 y136 y137 y138 y139 y140 y141 y142 y143 y144 y145 y146 y147 y148 y149 y150 y151 y152 y153 y154 y155 y156 y157 y158 y159 y160 y161 y162 y163 y164 y165 y166 y167 y168 y169 y170 y171 y172 y173 y174 y175 y176 y177 y178 y179 y180 y181 y182 y183 y184 y185 y186 y187 y188 y189 y190 y191 y192 y193 y194 y195 y196 y197 y198 y199 y200 y201 y202 y203 y204 y205 y206 y207 y208 y209 y210 y211 y212 y213 y214 y215 y216 y217 y218 y219 y220 y221 y222 y223 y224 y225 y226 y227 y228 y229 y230 y231 y232 y233 y234 y235 y236 y237 y238 y239 y240 y241 y242 y243 y244 y245 y246 y247 y248 y249 y250 y251 y252 y253 y254 y255 y256 y257 y258 y259 y260 y261 y262 y263 y264 y265 y266 y267 y268 y269 y270 y271 y272 y273 y274 y275 y276 y277 y278 y279 y280 y281 y282 y283 y284 y285 y286 y287 y288 y289 y290 y291 y292 y293 y294 y295 y296 y297 y298 y299 y300 y301 y302 y303 y304 y305:Value) (s13 s14:Value) (wx:World),(∃(m5:Mach) (nx wr:Int),s13=.int .i64 nx∧s14=.int .i64 wr∧Hid (-4398046511104≤nx∧nx≤4398046511104)∧Hid (ZS w0 D rb bb gr cr mb cm m5 wx)∧Hid (RanR m5 nx wr (doM m4 2 a c n value)))→K ⟨List.toArray (x0::x1::x2 :: .int .i64 value :: .pointer (some ⟨bb,0,none⟩)::x5::x6::x7::x8::x9::x10 :: .pointer (some ⟨ib,0,none⟩)::x12::s13::s14 :: .int .i64 (m4.reg a) :: .int .i64 (m4.reg c)::y17::y18::y19::y20::x21::x22::x23::x24::x25::x26::x27::x28::x29::x30::x31::x32::x33::x34::x35::x36::x37::x38::x39::x40::x41::x42::x43::x44::x45::x46::x47::x48::x49::x50::x51::x52::x53::x54::x55::x56::x57::x58::x59::x60::x61::x62::x63::x64::x65::x66::x67::x68::x69::x70::x71::x72::x73::x74::x75::x76::x77::x78::x79::x80::x81::x82::x83::x84::x85::x86::x87::x88::x89::x90::x91::x92::x93::x94::x95::x96::x97::x98::x99 :: .int .i64 2::y101::y102::y103::y104::y105::y106::y107::y108::y109::y110::y111::y112::y113::y114::y115::y116::y117::y118::y119::y120::y121::y122::y123::y124::y125::y126::y127::y128::y129::y130::y131::y132::y133::y134::y135::y136::y137::y138::y139::y140::y141::y142::y143::y144::y145::y146::y147::y148::y149::y150::y151::y152::y153::y154::y155::y156::y157::y158::y159::y160::y161::y162::y163::y164::y165::y166::y167::y168::y169::y170::y171::y172::y173::y174::y175::y176::y177::y178::y179::y180::y181::y182::y183::y184::y185::y186::y187::y188::y189::y190::y191::y192::y193::y194::y195::y196::y197::y198::y199::y200::y201::y202::y203::y204::y205::y206::y207::y208::y209::y210::y211::y212::y213::y214::y215::y216::y217::y218::y219::y220::y221::y222::y223::y224::y225::y226::y227::y228::y229::y230::y231::y232::y233::y234::y235::y236::y237::y238::y239::y240::y241::y242::y243::y244::y245::y246::y247::y248::y249::y250::y251::y252::y253::y254::y255::y256::y257::y258::y259::y260::y261::y262::y263::y264::y265::y266::y267::y268::y269::y270::y271::y272::y273::y274::y275::y276::y277::y278::y279::y280::y281::y282::y283::y284::y285::y286::y287::y288::y289::y290::y291::y292::y293::y294::y295::y296::y297::y298::y299::y300::y301::y302::y303::y304::y305::[]),[]⟩ wx):(zbb [1,1,1,1,1,1,1,1,1,1,1,1,0,1]).wp Tryd.prog (Exit.then K Q') ⟨List.toArray (x0::x1::x2 :: .int .i64 value :: .pointer (some ⟨bb,0,none⟩)::x5::x6::x7::x8::x9::x10 :: .pointer (some ⟨ib,0,none⟩)::x12 :: .int .i64 (m4.pc+1) :: .int .i64 (-1) :: .int .i64 (m4.reg a) :: .int .i64 (m4.reg c)::x17::x18::x19::x20::x21::x22::x23::x24::x25::x26::x27::x28::x29::x30::x31::x32::x33::x34::x35::x36::x37::x38::x39::x40::x41::x42::x43::x44::x45::x46::x47::x48::x49::x50::x51::x52::x53::x54::x55::x56::x57::x58::x59::x60::x61::x62::x63::x64::x65::x66::x67::x68::x69::x70::x71::x72::x73::x74::x75::x76::x77::x78::x79::x80::x81::x82::x83::x84::x85::x86::x87::x88::x89::x90::x91::x92::x93::x94::x95::x96::x97::x98::x99 :: .int .i64 2::x101::x102::x103::x104::x105::x106::x107::x108::x109::x110::x111::x112::x113::x114::x115::x116::x117::x118::x119::x120::x121::x122::x123::x124::x125::x126::x127::x128::x129::x130::x131::x132::x133::x134::x135::x136::x137::x138::x139::x140::x141::x142::x143::x144::x145::x146::x147::x148::x149::x150::x151::x152::x153::x154::x155::x156::x157::x158::x159::x160::x161::x162::x163::x164::x165::x166::x167::x168::x169::x170::x171::x172::x173::x174::x175::x176::x177::x178::x179::x180::x181::x182::x183::x184::x185::x186::x187::x188::x189::x190::x191::x192::x193::x194::x195::x196::x197::x198::x199::x200::x201::x202::x203::x204::x205::x206::x207::x208::x209::x210::x211::x212::x213::x214::x215::x216::x217::x218::x219::x220::x221::x222::x223::x224::x225::x226::x227::x228::x229::x230::x231::x232::x233::x234::x235::x236::x237::x238::x239::x240::x241::x242::x243::x244::x245::x246::x247::x248::x249::x250::x251::x252::x253::x254::x255::x256::x257::x258::x259::x260::x261::x262::x263::x264::x265::x266::x267::x268::x269::x270::x271::x272::x273::x274::x275::x276::x277::x278::x279::x280::x281::x282::x283::x284::x285::x286::x287::x288::x289::x290::x291::x292::x293::x294::x295::x296::x297::x298::x299::x300::x301::x302::x303::x304::x305::[]),[]⟩ wz:=by
 have HK:=Lib.hid hK
 clear hK
 conv=>arg 2;whnf
 go_cut [13,14] from 101 (fun s13 s14 wx =>∃(m5:Mach) (nx wr:Int),s13=.int .i64 nx∧s14=.int .i64 wr∧Hid (-4398046511104≤nx∧nx≤4398046511104)∧Hid (ZS w0 D rb bb gr cr mb cm m5 wx)∧Hid (RanR m5 nx wr (doM m4 2 a c n value)))
 case rest=>
  exact HK.out _ _ _ _ _ _ _ _ _ _ _ _ _ _ _ _ _ _ _ _ _ _ _ _ _ _ _ _ _ _ _ _ _ _ _ _ _ _ _ _ _ _ _ _ _ _ _ _ _ _ _ _ _ _ _ _ _ _ _ _ _ _ _ _ _ _ _ _ _ _ _ _ _ _ _ _ _ _ _ _ _ _ _ _ _ _ _ _ _ _ _ _ _ _ _ _ _ _ _ _ _ _ _ _ _ _ _ _ _ _ _ _ _ _ _ _ _ _ _ _ _ _ _ _ _ _ _ _ _ _ _ _ _ _ _ _ _ _ _ _ _ _ _ _ _ _ _ _ _ _ _ _ _ _ _ _ _ _ _ _ _ _ _ _ _ _ _ _ _ _ _ _ _ _ _ _ _ _ _ _ _ _ _ _ _ _ _ _ _ _ _ _ _ _ _ _ _ _ _ _ _ _ _ _ _ _ _ _ _ _ _ _ hcut
 case first=>
  clear HK
  have hn1:=hnn.1
  have hn2:=hnn.2
  have HSML:=Lib.hid hsm
  have hpc:=HOK4.out.pc
  have wra:=HOK4.out.wreg a
  have wrc:=HOK4.out.wreg c
  unfold WordZ at wra wrc
  have ha':(a:Int)<8:=by omega
  have hc':(c:Int)<8:=by omega
  clear hsm
  have q0:wz.cell? ⟨ib,0,none⟩=some (.int .i64 2):=zaa hib 0
  have q1:wz.cell? ⟨ib,1,none⟩=some (.int .i64 a):=zaa hib 1
  have q2:wz.cell? ⟨ib,2,none⟩=some (.int .i64 c):=zaa hib 2
  have q3:wz.cell? ⟨ib,3,none⟩=some (.int .i64 n):=zaa hib 3
  have k0:wz.cell? ⟨bb,0,none⟩=some (.slice (some ⟨gr,0,none⟩) 8 cr):=zaa HZ.out.box 0
  have k1:wz.cell? ⟨bb,1,none⟩=some (.int .i64 m4.pc):=zaa HZ.out.box 1
  have ra:=HZ.out.reg_at ha
  have rc:=HZ.out.reg_at hc8
  have lbb:=HZ.out.blt
  have lgr:=HZ.out.rlt
  have lib:=(Array.getElem?_eq_some_iff.1 hib).1
  have wpc:IntKind.i64.wrap (m4.pc+1)=m4.pc+1:=IntWalk.i64_in _ (by omega)
  have n1b:¬ib=bb:=hne.1
  have n2b:¬ib=gr:=hne.2
  have n3b:¬bb=ib:=fun e=>hne.1 e.symm
  have n4b:¬gr=ib:=fun e=>hne.2 e.symm
  have hne1:¬gr=bb:=HZ.out.grb
  have hne2:¬bb=gr:=fun e=>HZ.out.grb e.symm
  clear hib hne
  have HRN:=Lib.hid (show -4398046511104≤m4.pc+1∧m4.pc+1≤4398046511104 by omega)
  have fra:wz.frozen? ⟨gr,a,none⟩=false:=HZ.out.regs.frozenAt a
  obtain⟨kn0,kn8⟩:=HSML.out (by decide)
  obtain⟨k,rfl⟩:∃k:Nat,n=(k:Int):=⟨n.toNat,by omega⟩
  have hk:k<8:=by omega
  have hk':(k:Int)<8:=by omega
  have rk:=HZ.out.reg_at hk
  have wrk:=HOK4.out.wreg k
  unfold WordZ at wrk
  have w2:IntKind.i64.wrap (m4.reg c+m4.reg k)=m4.reg c+m4.reg k:=IntWalk.i64_in _ (by omega)
  have g1:-4398046511104≤m4.reg c+m4.reg k:=by omega
  have g2:m4.reg c+m4.reg k≤4398046511104:=by omega
  generalize hzz:m4.reg c+m4.reg k=z at *
  have HZZ:=Lib.hid hzz
  have HFC:=Lib.hid (fun w=>(zbK z w (by omega) (by omega)).mono (fun e w'' h=>(⟨h.1,h.2.symm⟩:e=.returned (.int .i64 (zaH z))∧w''=w)))
  have HPS:=Lib.hid (fun q:Nat=>(HZ.out.drewN q).setReg a (zaH z))
  go_wp2_with fail
  refine wp_region_still_tail 14 (by kernel_rfl) (by kernel_rfl) ?_
  simp only[List.take_succ_cons,List.take_zero,List.drop_succ_cons,List.drop_zero]
  repeat (first|still_step|(refine wpStill_step (fun K hK=>?_);go_simp;refine⟨_,HFC.out _,hK _ ?_⟩;clear hK K))
  try refine wpStill_nil ?_
  go_wp2_with fail
  go_meet
  case rel=>exact⟨m4.setReg a (zaH z),m4.pc+1,-1,rfl,rfl,HRN,Lib.hid (HPS.out _).zs,Lib.hid (Or.inl ⟨HF4.out,by rw[←HZZ.out];rfl⟩)⟩
theorem zkN{w0:World}{D:Nat→Prop}{rb bb gr cr mb cm:Nat}{ao:Option Addr}{co:Nat}{m4:Mach}{a c ib:Nat}{n value:Int}{wz:World}{K:Act→World→Prop}{Q':Exit→Act→World→Prop}{x0 x1 x2 x5 x6 x7 x8 x9 x10 x12 x17 x18 x19 x20 x21 x22 x23 x24 x25 x26 x27 x28 x29 x30 x31 x32 x33 x34 x35 x36 x37 x38 x39 x40 x41 x42 x43 x44 x45 x46 x47 x48 x49 x50 x51 x52 x53 x54 x55 x56 x57 x58 x59 x60 x61 x62 x63 x64 x65 x66 x67 x68 x69 x70 x71 x72 x73 x74 x75 x76 x77 x78 x79 x80 x81 x82 x83 x84 x85 x86 x87 x88 x89 x90 x91 x92 x93 x94 x95 x96 x97 x98 x99 x101 x102 x103 x104 x105 x106 x107 x108 x109 x110 x111 x112 x113 x114 x115 x116 x117 x118 x119 x120 x121 x122 x123 x124 x125 x126 x127 x128 x129 x130 x131 x132 x133 x134 x135 x136 x137 x138 x139 x140 x141 x142 x143 x144 x145 x146 x147 x148 x149 x150 x151 x152 x153 x154 x155 x156 x157 x158 x159 x160 x161 x162 x163 x164 x165 x166 x167 x168 x169 x170 x171 x172 x173 x174 x175 x176 x177 x178 x179 x180 x181 x182 x183 x184 x185 x186 x187 x188 x189 x190 x191 x192 x193 x194 x195 x196 x197 x198 x199 x200 x201 x202 x203 x204 x205 x206 x207 x208 x209 x210 x211 x212 x213 x214 x215 x216 x217 x218 x219 x220 x221 x222 x223 x224 x225 x226 x227 x228 x229 x230 x231 x232 x233 x234 x235 x236 x237 x238 x239 x240 x241 x242 x243 x244 x245 x246 x247 x248 x249 x250 x251 x252 x253 x254 x255 x256 x257 x258 x259 x260 x261 x262 x263 x264 x265 x266 x267 x268 x269 x270 x271 x272 x273 x274 x275 x276 x277 x278 x279 x280 x281 x282 x283 x284 x285 x286 x287 x288 x289 x290 x291 x292 x293 x294 x295 x296 x297 x298 x299 x300 x301 x302 x303 x304 x305:Value}(HZ:Hid (ZSt w0 D rb bb gr cr mb cm m4 ao co wz))(HOK4:Hid (MOk m4))(HF4:Hid (m4.fin=0))(ha:a<8)(hc8:c<8)(hnn:-1048576≤n∧n≤1048575)(hsm:(3:Int)=2∨(3:Int)=3→0≤n∧n<8)(hib:wz.heap[ib]?=some (.cells #[.int .i64 3,.int .i64 a,.int .i64 c,.int .i64 n] 123 (0,0)))(hne:ib≠bb∧ib≠gr)(hK:∀(y17 y18 y19 y20 y101 y102 y103 y104 y105 y106 y107 y108 y109 y110 y111 y112 y113 y114 y115 y116 y117 y118 y119 y120 y121 y122 y123 y124 y125 y126 y127 y128 y129 y130 y131 y132 y133 y134 y135 y136 y137 y138 y139 y140 y141 y142 y143 y144 y145 y146 y147 y148 y149 y150 y151 y152 y153 y154 y155 y156 y157 y158 y159 y160 y161 y162 y163 y164 y165 y166 y167 y168 y169 y170 y171 y172 y173 y174 y175 y176 y177 y178 y179 y180 y181 y182 y183 y184 y185 y186 y187 y188 y189 y190 y191 y192 y193 y194 y195 y196 y197 y198 y199 y200 y201 y202 y203 y204 y205 y206 y207 y208 y209 y210 y211 y212 y213 y214 y215 y216 y217 y218 y219 y220 y221 y222 y223 y224 y225 y226 y227 y228 y229 y230 y231 y232 y233 y234 y235 y236 y237 y238 y239 y240 y241 y242 y243 y244 y245 y246 y247 y248 y249 y250 y251 y252 y253 y254 y255 y256 y257 y258 y259 y260 y261 y262 y263 y264 y265 y266 y267 y268 y269 y270 y271 y272 y273 y274 y275 y276 y277 y278 y279 y280 y281 y282 y283 y284 y285 y286 y287 y288 y289 y290 y291 y292 y293 y294 y295 y296 y297 y298 y299 y300 y301 y302 y303 y304 y305:Value) (s13 s14:Value) (wx:World),(∃(m5:Mach) (nx wr:Int),s13=.int .i64 nx∧s14=.int .i64 wr∧Hid (-4398046511104≤nx∧nx≤4398046511104)∧Hid (ZS w0 D rb bb gr cr mb cm m5 wx)∧Hid (RanR m5 nx wr (doM m4 3 a c n value)))→K ⟨List.toArray (x0::x1::x2 :: .int .i64 value :: .pointer (some ⟨bb,0,none⟩)::x5::x6::x7::x8::x9::x10 :: .pointer (some ⟨ib,0,none⟩)::x12::s13::s14 :: .int .i64 (m4.reg a) :: .int .i64 (m4.reg c)::y17::y18::y19::y20::x21::x22::x23::x24::x25::x26::x27::x28::x29::x30::x31::x32::x33::x34::x35::x36::x37::x38::x39::x40::x41::x42::x43::x44::x45::x46::x47::x48::x49::x50::x51::x52::x53::x54::x55::x56::x57::x58::x59::x60::x61::x62::x63::x64::x65::x66::x67::x68::x69::x70::x71::x72::x73::x74::x75::x76::x77::x78::x79::x80::x81::x82::x83::x84::x85::x86::x87::x88::x89::x90::x91::x92::x93::x94::x95::x96::x97::x98::x99 :: .int .i64 3::y101::y102::y103::y104::y105::y106::y107::y108::y109::y110::y111::y112::y113::y114::y115::y116::y117::y118::y119::y120::y121::y122::y123::y124::y125::y126::y127::y128::y129::y130::y131::y132::y133::y134::y135::y136::y137::y138::y139::y140::y141::y142::y143::y144::y145::y146::y147::y148::y149::y150::y151::y152::y153::y154::y155::y156::y157::y158::y159::y160::y161::y162::y163::y164::y165::y166::y167::y168::y169::y170::y171::y172::y173::y174::y175::y176::y177::y178::y179::y180::y181::y182::y183::y184::y185::y186::y187::y188::y189::y190::y191::y192::y193::y194::y195::y196::y197::y198::y199::y200::y201::y202::y203::y204::y205::y206::y207::y208::y209::y210::y211::y212::y213::y214::y215::y216::y217::y218::y219::y220::y221::y222::y223::y224::y225::y226::y227::y228::y229::y230::y231::y232::y233::y234::y235::y236::y237::y238::y239::y240::y241::y242::y243::y244::y245::y246::y247::y248::y249::y250::y251::y252::y253::y254::y255::y256::y257::y258::y259::y260::y261::y262::y263::y264::y265::y266::y267::y268::y269::y270::y271::y272::y273::y274::y275::y276::y277::y278::y279::y280::y281::y282::y283::y284::y285::y286::y287::y288::y289::y290::y291::y292::y293::y294::y295::y296::y297::y298::y299::y300::y301::y302::y303::y304::y305::[]),[]⟩ wx):(zbb [1,1,1,1,1,1,1,1,1,1,1,1,0,1]).wp Tryd.prog (Exit.then K Q') ⟨List.toArray (x0::x1::x2 :: .int .i64 value :: .pointer (some ⟨bb,0,none⟩)::x5::x6::x7::x8::x9::x10 :: .pointer (some ⟨ib,0,none⟩)::x12 :: .int .i64 (m4.pc+1) :: .int .i64 (-1) :: .int .i64 (m4.reg a) :: .int .i64 (m4.reg c)::x17::x18::x19::x20::x21::x22::x23::x24::x25::x26::x27::x28::x29::x30::x31::x32::x33::x34::x35::x36::x37::x38::x39::x40::x41::x42::x43::x44::x45::x46::x47::x48::x49::x50::x51::x52::x53::x54::x55::x56::x57::x58::x59::x60::x61::x62::x63::x64::x65::x66::x67::x68::x69::x70::x71::x72::x73::x74::x75::x76::x77::x78::x79::x80::x81::x82::x83::x84::x85::x86::x87::x88::x89::x90::x91::x92::x93::x94::x95::x96::x97::x98::x99 :: .int .i64 3::x101::x102::x103::x104::x105::x106::x107::x108::x109::x110::x111::x112::x113::x114::x115::x116::x117::x118::x119::x120::x121::x122::x123::x124::x125::x126::x127::x128::x129::x130::x131::x132::x133::x134::x135::x136::x137::x138::x139::x140::x141::x142::x143::x144::x145::x146::x147::x148::x149::x150::x151::x152::x153::x154::x155::x156::x157::x158::x159::x160::x161::x162::x163::x164::x165::x166::x167::x168::x169::x170::x171::x172::x173::x174::x175::x176::x177::x178::x179::x180::x181::x182::x183::x184::x185::x186::x187::x188::x189::x190::x191::x192::x193::x194::x195::x196::x197::x198::x199::x200::x201::x202::x203::x204::x205::x206::x207::x208::x209::x210::x211::x212::x213::x214::x215::x216::x217::x218::x219::x220::x221::x222::x223::x224::x225::x226::x227::x228::x229::x230::x231::x232::x233::x234::x235::x236::x237::x238::x239::x240::x241::x242::x243::x244::x245::x246::x247::x248::x249::x250::x251::x252::x253::x254::x255::x256::x257::x258::x259::x260::x261::x262::x263::x264::x265::x266::x267::x268::x269::x270::x271::x272::x273::x274::x275::x276::x277::x278::x279::x280::x281::x282::x283::x284::x285::x286::x287::x288::x289::x290::x291::x292::x293::x294::x295::x296::x297::x298::x299::x300::x301::x302::x303::x304::x305::[]),[]⟩ wz:=by
 have HK:=Lib.hid hK
 clear hK
 conv=>arg 2;whnf
 go_cut [13,14] from 101 (fun s13 s14 wx =>∃(m5:Mach) (nx wr:Int),s13=.int .i64 nx∧s14=.int .i64 wr∧Hid (-4398046511104≤nx∧nx≤4398046511104)∧Hid (ZS w0 D rb bb gr cr mb cm m5 wx)∧Hid (RanR m5 nx wr (doM m4 3 a c n value)))
 case rest=>
  exact HK.out _ _ _ _ _ _ _ _ _ _ _ _ _ _ _ _ _ _ _ _ _ _ _ _ _ _ _ _ _ _ _ _ _ _ _ _ _ _ _ _ _ _ _ _ _ _ _ _ _ _ _ _ _ _ _ _ _ _ _ _ _ _ _ _ _ _ _ _ _ _ _ _ _ _ _ _ _ _ _ _ _ _ _ _ _ _ _ _ _ _ _ _ _ _ _ _ _ _ _ _ _ _ _ _ _ _ _ _ _ _ _ _ _ _ _ _ _ _ _ _ _ _ _ _ _ _ _ _ _ _ _ _ _ _ _ _ _ _ _ _ _ _ _ _ _ _ _ _ _ _ _ _ _ _ _ _ _ _ _ _ _ _ _ _ _ _ _ _ _ _ _ _ _ _ _ _ _ _ _ _ _ _ _ _ _ _ _ _ _ _ _ _ _ _ _ _ _ _ _ _ _ _ _ _ _ _ _ _ _ _ _ _ hcut
 case first=>
  clear HK
  have hn1:=hnn.1
  have hn2:=hnn.2
  have HSML:=Lib.hid hsm
  have hpc:=HOK4.out.pc
  have wra:=HOK4.out.wreg a
  have wrc:=HOK4.out.wreg c
  unfold WordZ at wra wrc
  have ha':(a:Int)<8:=by omega
  have hc':(c:Int)<8:=by omega
  clear hsm
  have q0:wz.cell? ⟨ib,0,none⟩=some (.int .i64 3):=zaa hib 0
  have q1:wz.cell? ⟨ib,1,none⟩=some (.int .i64 a):=zaa hib 1
  have q2:wz.cell? ⟨ib,2,none⟩=some (.int .i64 c):=zaa hib 2
  have q3:wz.cell? ⟨ib,3,none⟩=some (.int .i64 n):=zaa hib 3
  have k0:wz.cell? ⟨bb,0,none⟩=some (.slice (some ⟨gr,0,none⟩) 8 cr):=zaa HZ.out.box 0
  have k1:wz.cell? ⟨bb,1,none⟩=some (.int .i64 m4.pc):=zaa HZ.out.box 1
  have ra:=HZ.out.reg_at ha
  have rc:=HZ.out.reg_at hc8
  have lbb:=HZ.out.blt
  have lgr:=HZ.out.rlt
  have lib:=(Array.getElem?_eq_some_iff.1 hib).1
  have wpc:IntKind.i64.wrap (m4.pc+1)=m4.pc+1:=IntWalk.i64_in _ (by omega)
  have n1b:¬ib=bb:=hne.1
  have n2b:¬ib=gr:=hne.2
  have n3b:¬bb=ib:=fun e=>hne.1 e.symm
  have n4b:¬gr=ib:=fun e=>hne.2 e.symm
  have hne1:¬gr=bb:=HZ.out.grb
  have hne2:¬bb=gr:=fun e=>HZ.out.grb e.symm
  clear hib hne
  have HRN:=Lib.hid (show -4398046511104≤m4.pc+1∧m4.pc+1≤4398046511104 by omega)
  have fra:wz.frozen? ⟨gr,a,none⟩=false:=HZ.out.regs.frozenAt a
  obtain⟨kn0,kn8⟩:=HSML.out (by decide)
  obtain⟨k,rfl⟩:∃k:Nat,n=(k:Int):=⟨n.toNat,by omega⟩
  have hk:k<8:=by omega
  have hk':(k:Int)<8:=by omega
  have rk:=HZ.out.reg_at hk
  have wrk:=HOK4.out.wreg k
  unfold WordZ at wrk
  have w2:IntKind.i64.wrap (m4.reg c-m4.reg k)=m4.reg c-m4.reg k:=IntWalk.i64_in _ (by omega)
  have g1:-4398046511104≤m4.reg c-m4.reg k:=by omega
  have g2:m4.reg c-m4.reg k≤4398046511104:=by omega
  generalize hzz:m4.reg c-m4.reg k=z at *
  have HZZ:=Lib.hid hzz
  have HFC:=Lib.hid (fun w=>(zbK z w (by omega) (by omega)).mono (fun e w'' h=>(⟨h.1,h.2.symm⟩:e=.returned (.int .i64 (zaH z))∧w''=w)))
  have HPS:=Lib.hid (fun q:Nat=>(HZ.out.drewN q).setReg a (zaH z))
  go_wp2_with fail
  refine wp_region_still_tail 14 (by kernel_rfl) (by kernel_rfl) ?_
  simp only[List.take_succ_cons,List.take_zero,List.drop_succ_cons,List.drop_zero]
  repeat (first|still_step|(refine wpStill_step (fun K hK=>?_);go_simp;refine⟨_,HFC.out _,hK _ ?_⟩;clear hK K))
  try refine wpStill_nil ?_
  go_wp2_with fail
  go_meet
  case rel=>exact⟨m4.setReg a (zaH z),m4.pc+1,-1,rfl,rfl,HRN,Lib.hid (HPS.out _).zs,Lib.hid (Or.inl ⟨HF4.out,by rw[←HZZ.out];rfl⟩)⟩
end Go.Proofs.YtflonfcemlfbdaaDoor
