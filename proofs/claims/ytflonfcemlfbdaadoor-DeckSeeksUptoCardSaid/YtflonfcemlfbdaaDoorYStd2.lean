/- The switch of the document's stepped, instructions 8 to 11. No condition beyond those of each row. -/
import Derived.Test.YtflonfcemlfbdaaDoorYStc
import Derived.Handy
import Derived.StillTailTactics
import Derived.Deep.RegionWith
import Derived.Deep.RegionLaw
import Derived.Deep.CutBlock
import Derived.Deep.CutRange
import Derived.Deep.RegionHeld3
import Derived.Deep.LoopGhost
namespace Go.Proofs.YtflonfcemlfbdaaDoor
open Go Go.RowKit Go.ChangeShapes Go.WideShapes Go.Deep
set_option maxHeartbeats 8000000
set_option maxRecDepth 100000
set_option linter.unusedVariables false
attribute [local go_sem ↓] Go.wp_at_zero Go.wp_at_succ
theorem zkS{w0:World}{D:Nat→Prop}{rb bb gr cr mb cm:Nat}{ao:Option Addr}{co:Nat}{m4:Mach}{a c ib:Nat}{n value:Int}{wz:World}{K:Act→World→Prop}{Q':Exit→Act→World→Prop}{x0 x1 x2 x5 x6 x7 x8 x9 x10 x12 x17 x18 x19 x20 x21 x22 x23 x24 x25 x26 x27 x28 x29 x30 x31 x32 x33 x34 x35 x36 x37 x38 x39 x40 x41 x42 x43 x44 x45 x46 x47 x48 x49 x50 x51 x52 x53 x54 x55 x56 x57 x58 x59 x60 x61 x62 x63 x64 x65 x66 x67 x68 x69 x70 x71 x72 x73 x74 x75 x76 x77 x78 x79 x80 x81 x82 x83 x84 x85 x86 x87 x88 x89 x90 x91 x92 x93 x94 x95 x96 x97 x98 x99 x101 x102 x103 x104 x105 x106 x107 x108 x109 x110 x111 x112 x113 x114 x115 x116 x117 x118 x119 x120 x121 x122 x123 x124 x125 x126 x127 x128 x129 x130 x131 x132 x133 x134 x135 x136 x137 x138 x139 x140 x141 x142 x143 x144 x145 x146 x147 x148 x149 x150 x151 x152 x153 x154 x155 x156 x157 x158 x159 x160 x161 x162 x163 x164 x165 x166 x167 x168 x169 x170 x171 x172 x173 x174 x175 x176 x177 x178 x179 x180 x181 x182 x183 x184 x185 x186 x187 x188 x189 x190 x191 x192 x193 x194 x195 x196 x197 x198 x199 x200 x201 x202 x203 x204 x205 x206 x207 x208 x209 x210 x211 x212 x213 x214 x215 x216 x217 x218 x219 x220 x221 x222 x223 x224 x225 x226 x227 x228 x229 x230 x231 x232 x233 x234 x235 x236 x237 x238 x239 x240 x241 x242 x243 x244 x245 x246 x247 x248 x249 x250 x251 x252 x253 x254 x255 x256 x257 x258 x259 x260 x261 x262 x263 x264 x265 x266 x267 x268 x269 x270 x271 x272 x273 x274 x275 x276 x277 x278 x279 x280 x281 x282 x283 x284 x285 x286 x287 x288 x289 x290 x291 x292 x293 x294 x295 x296 x297 x298 x299 x300 x301 x302 x303 x304 x305:Value}(HZ:Hid (ZSt w0 D rb bb gr cr mb cm m4 ao co wz))(HOK4:Hid (MOk m4))(HF4:Hid (m4.fin=0))(ha:a<8)(hc8:c<8)(hnn:-1048576≤n∧n≤1048575)(hsm:(8:Int)=2∨(8:Int)=3→0≤n∧n<8)(hib:wz.heap[ib]?=some (.cells #[.int .i64 8,.int .i64 a,.int .i64 c,.int .i64 n] 123 (0,0)))(hne:ib≠bb∧ib≠gr)(hK:∀(y17 y18 y19 y20 y101 y102 y103 y104 y105 y106 y107 y108 y109 y110 y111 y112 y113 y114 y115 y116 y117 y118 y119 y120 y121 y122 y123 y124 y125 y126 y127 y128 y129 y130 y131 y132 y133 y134 y135 y136 y137 y138 y139 y140 y141 y142 y143 y144 y145 y146 y147 y148 y149 y150 y151 y152 y153 y154 y155 y156 y157 y158 y159 y160 y161 y162 y163 y164 y165 y166 y167 y168 y169 y170 y171 y172 y173 y174 y175 y176 y177 y178 y179 y180 y181 y182 y183 y184 y185 y186 y187 y188 y189 y190 y191 y192 y193 y194 y195 y196 y197 y198 y199 y200 y201 y202 y203 y204 y205 y206 y207 y208 y209 y210 y211 y212 y213 y214 y215 y216 y217 y218 y219 y220 y221 y222 y223 y224 y225 y226 y227 y228 y229 y230 y231 y232 y233 y234 y235 y236 y237 y238 y239 y240 y241 y242 y243 y244 y245 y246 y247 y248 y249 y250 y251 y252 y253 y254 y255 y256 y257 y258 y259 y260 y261 y262 y263 y264 y265 y266 y267 y268 y269 y270 y271 y272 y273 y274 y275 y276 y277 y278 y279 y280 y281 y282 y283 y284 y285 y286 y287 y288 y289 y290 y291 y292 y293 y294 y295 y296 y297 y298 y299 y300 y301 y302 y303 y304 y305:Value) (s13 s14:Value) (wx:World),(∃(m5:Mach) (nx wr:Int),s13=.int .i64 nx∧s14=.int .i64 wr∧Hid (-4398046511104≤nx∧nx≤4398046511104)∧Hid (ZS w0 D rb bb gr cr mb cm m5 wx)∧Hid (RanR m5 nx wr (doM m4 8 a c n value)))→K ⟨List.toArray (x0::x1::x2 :: .int .i64 value :: .pointer (some ⟨bb,0,none⟩)::x5::x6::x7::x8::x9::x10 :: .pointer (some ⟨ib,0,none⟩)::x12::s13::s14 :: .int .i64 (m4.reg a) :: .int .i64 (m4.reg c)::y17::y18::y19::y20::x21::x22::x23::x24::x25::x26::x27::x28::x29::x30::x31::x32::x33::x34::x35::x36::x37::x38::x39::x40::x41::x42::x43::x44::x45::x46::x47::x48::x49::x50::x51::x52::x53::x54::x55::x56::x57::x58::x59::x60::x61::x62::x63::x64::x65::x66::x67::x68::x69::x70::x71::x72::x73::x74::x75::x76::x77::x78::x79::x80::x81::x82::x83::x84::x85::x86::x87::x88::x89::x90::x91::x92::x93::x94::x95::x96::x97::x98::x99 :: .int .i64 8::y101::y102::y103::y104::y105::y106::y107::y108::y109::y110::y111::y112::y113::y114::y115::y116::y117::y118::y119::y120::y121::y122::y123::y124::y125::y126::y127::y128::y129::y130::y131::y132::y133::y134::y135::y136::y137::y138::y139::y140::y141::y142::y143::y144::y145::y146::y147::y148::y149::y150::y151::y152::y153::y154::y155::y156::y157::y158::y159::y160::y161::y162::y163::y164::y165::y166::y167::y168::y169::y170::y171::y172::y173::y174::y175::y176::y177::y178::y179::y180::y181::y182::y183::y184::y185::y186::y187::y188::y189::y190::y191::y192::y193::y194::y195::y196::y197::y198::y199::y200::y201::y202::y203::y204::y205::y206::y207::y208::y209::y210::y211::y212::y213::y214::y215::y216::y217::y218::y219::y220::y221::y222::y223::y224::y225::y226::y227::y228::y229::y230::y231::y232::y233::y234::y235::y236::y237::y238::y239::y240::y241::y242::y243::y244::y245::y246::y247::y248::y249::y250::y251::y252::y253::y254::y255::y256::y257::y258::y259::y260::y261::y262::y263::y264::y265::y266::y267::y268::y269::y270::y271::y272::y273::y274::y275::y276::y277::y278::y279::y280::y281::y282::y283::y284::y285::y286::y287::y288::y289::y290::y291::y292::y293::y294::y295::y296::y297::y298::y299::y300::y301::y302::y303::y304::y305::[]),[]⟩ wx):(zbb [1,1,1,1,1,1,1,1,1,1,1,1,0,1]).wp Tryd.prog (Exit.then K Q') ⟨List.toArray (x0::x1::x2 :: .int .i64 value :: .pointer (some ⟨bb,0,none⟩)::x5::x6::x7::x8::x9::x10 :: .pointer (some ⟨ib,0,none⟩)::x12 :: .int .i64 (m4.pc+1) :: .int .i64 (-1) :: .int .i64 (m4.reg a) :: .int .i64 (m4.reg c)::x17::x18::x19::x20::x21::x22::x23::x24::x25::x26::x27::x28::x29::x30::x31::x32::x33::x34::x35::x36::x37::x38::x39::x40::x41::x42::x43::x44::x45::x46::x47::x48::x49::x50::x51::x52::x53::x54::x55::x56::x57::x58::x59::x60::x61::x62::x63::x64::x65::x66::x67::x68::x69::x70::x71::x72::x73::x74::x75::x76::x77::x78::x79::x80::x81::x82::x83::x84::x85::x86::x87::x88::x89::x90::x91::x92::x93::x94::x95::x96::x97::x98::x99 :: .int .i64 8::x101::x102::x103::x104::x105::x106::x107::x108::x109::x110::x111::x112::x113::x114::x115::x116::x117::x118::x119::x120::x121::x122::x123::x124::x125::x126::x127::x128::x129::x130::x131::x132::x133::x134::x135::x136::x137::x138::x139::x140::x141::x142::x143::x144::x145::x146::x147::x148::x149::x150::x151::x152::x153::x154::x155::x156::x157::x158::x159::x160::x161::x162::x163::x164::x165::x166::x167::x168::x169::x170::x171::x172::x173::x174::x175::x176::x177::x178::x179::x180::x181::x182::x183::x184::x185::x186::x187::x188::x189::x190::x191::x192::x193::x194::x195::x196::x197::x198::x199::x200::x201::x202::x203::x204::x205::x206::x207::x208::x209::x210::x211::x212::x213::x214::x215::x216::x217::x218::x219::x220::x221::x222::x223::x224::x225::x226::x227::x228::x229::x230::x231::x232::x233::x234::x235::x236::x237::x238::x239::x240::x241::x242::x243::x244::x245::x246::x247::x248::x249::x250::x251::x252::x253::x254::x255::x256::x257::x258::x259::x260::x261::x262::x263::x264::x265::x266::x267::x268::x269::x270::x271::x272::x273::x274::x275::x276::x277::x278::x279::x280::x281::x282::x283::x284::x285::x286::x287::x288::x289::x290::x291::x292::x293::x294::x295::x296::x297::x298::x299::x300::x301::x302::x303::x304::x305::[]),[]⟩ wz:=by
 have HK:=Lib.hid hK
 clear hK
 conv=>arg 2;whnf
 go_cut [13,14] from 101 (fun s13 s14 wx =>∃(m5:Mach) (nx wr:Int),s13=.int .i64 nx∧s14=.int .i64 wr∧Hid (-4398046511104≤nx∧nx≤4398046511104)∧Hid (ZS w0 D rb bb gr cr mb cm m5 wx)∧Hid (RanR m5 nx wr (doM m4 8 a c n value)))
 case rest=>
  exact HK.out _ _ _ _ _ _ _ _ _ _ _ _ _ _ _ _ _ _ _ _ _ _ _ _ _ _ _ _ _ _ _ _ _ _ _ _ _ _ _ _ _ _ _ _ _ _ _ _ _ _ _ _ _ _ _ _ _ _ _ _ _ _ _ _ _ _ _ _ _ _ _ _ _ _ _ _ _ _ _ _ _ _ _ _ _ _ _ _ _ _ _ _ _ _ _ _ _ _ _ _ _ _ _ _ _ _ _ _ _ _ _ _ _ _ _ _ _ _ _ _ _ _ _ _ _ _ _ _ _ _ _ _ _ _ _ _ _ _ _ _ _ _ _ _ _ _ _ _ _ _ _ _ _ _ _ _ _ _ _ _ _ _ _ _ _ _ _ _ _ _ _ _ _ _ _ _ _ _ _ _ _ _ _ _ _ _ _ _ _ _ _ _ _ _ _ _ _ _ _ _ _ _ _ _ _ _ _ _ _ _ _ _ hcut
 case first=>
  clear HK
  have hn1:=hnn.1
  have hn2:=hnn.2
  have HSML:=Lib.hid hsm
  have hpc:=HOK4.out.pc
  have wra:=HOK4.out.wreg a
  have wrc:=HOK4.out.wreg c
  unfold WordZ at wra wrc
  have ha':(a:Int)<8:=by omega
  have hc':(c:Int)<8:=by omega
  clear hsm
  have q0:wz.cell? ⟨ib,0,none⟩=some (.int .i64 8):=zaa hib 0
  have q1:wz.cell? ⟨ib,1,none⟩=some (.int .i64 a):=zaa hib 1
  have q2:wz.cell? ⟨ib,2,none⟩=some (.int .i64 c):=zaa hib 2
  have q3:wz.cell? ⟨ib,3,none⟩=some (.int .i64 n):=zaa hib 3
  have k0:wz.cell? ⟨bb,0,none⟩=some (.slice (some ⟨gr,0,none⟩) 8 cr):=zaa HZ.out.box 0
  have k1:wz.cell? ⟨bb,1,none⟩=some (.int .i64 m4.pc):=zaa HZ.out.box 1
  have ra:=HZ.out.reg_at ha
  have rc:=HZ.out.reg_at hc8
  have lbb:=HZ.out.blt
  have lgr:=HZ.out.rlt
  have lib:=(Array.getElem?_eq_some_iff.1 hib).1
  have wpc:IntKind.i64.wrap (m4.pc+1)=m4.pc+1:=IntWalk.i64_in _ (by omega)
  have n1b:¬ib=bb:=hne.1
  have n2b:¬ib=gr:=hne.2
  have n3b:¬bb=ib:=fun e=>hne.1 e.symm
  have n4b:¬gr=ib:=fun e=>hne.2 e.symm
  have hne1:¬gr=bb:=HZ.out.grb
  have hne2:¬bb=gr:=fun e=>HZ.out.grb e.symm
  clear hib hne
  have HRN:=Lib.hid (show -4398046511104≤m4.pc+1∧m4.pc+1≤4398046511104 by omega)
  have fra:wz.frozen? ⟨gr,a,none⟩=false:=HZ.out.regs.frozenAt a
  have w2:IntKind.i64.wrap (m4.pc+n)=m4.pc+n:=IntWalk.i64_in _ (by omega)
  have HRJ:=Lib.hid (show -4398046511104≤m4.pc+n∧m4.pc+n≤4398046511104 by omega)
  by_cases ht:m4.reg a<0
  ·
   have HDO:Hid (doM m4 8 a c n value=(m4.goTo (m4.pc+n),0,-1)):=Lib.hid (by show (m4.goTo (if m4.reg a<0 then m4.pc+n else m4.pc+1),0,-1)=_;rw[if_pos ht])
   have htb:decide (m4.reg a<0)=true:=by exact decide_eq_true ht
   generalize m4.reg a=y at *
   skip
   go_wp2_with fail
   go_meet
   case rel=>exact⟨m4,m4.pc+n,-1,rfl,rfl,HRJ,Lib.hid (HZ.out).zs,Lib.hid (Or.inl ⟨HF4.out,HDO.out⟩)⟩
  ·
   have HDO:Hid (doM m4 8 a c n value=(m4.goTo (m4.pc+1),0,-1)):=Lib.hid (by show (m4.goTo (if m4.reg a<0 then m4.pc+n else m4.pc+1),0,-1)=_;rw[if_neg ht])
   have htb:decide (m4.reg a<0)=false:=by exact decide_eq_false ht
   generalize m4.reg a=y at *
   skip
   go_wp2_with fail
   go_meet
   case rel=>exact⟨m4,m4.pc+1,-1,rfl,rfl,HRN,Lib.hid (HZ.out).zs,Lib.hid (Or.inl ⟨HF4.out,HDO.out⟩)⟩
theorem zkT{w0:World}{D:Nat→Prop}{rb bb gr cr mb cm:Nat}{ao:Option Addr}{co:Nat}{m4:Mach}{a c ib:Nat}{n value:Int}{wz:World}{K:Act→World→Prop}{Q':Exit→Act→World→Prop}{x0 x1 x2 x5 x6 x7 x8 x9 x10 x12 x17 x18 x19 x20 x21 x22 x23 x24 x25 x26 x27 x28 x29 x30 x31 x32 x33 x34 x35 x36 x37 x38 x39 x40 x41 x42 x43 x44 x45 x46 x47 x48 x49 x50 x51 x52 x53 x54 x55 x56 x57 x58 x59 x60 x61 x62 x63 x64 x65 x66 x67 x68 x69 x70 x71 x72 x73 x74 x75 x76 x77 x78 x79 x80 x81 x82 x83 x84 x85 x86 x87 x88 x89 x90 x91 x92 x93 x94 x95 x96 x97 x98 x99 x101 x102 x103 x104 x105 x106 x107 x108 x109 x110 x111 x112 x113 x114 x115 x116 x117 x118 x119 x120 x121 x122 x123 x124 x125 x126 x127 x128 x129 x130 x131 x132 x133 x134 x135 x136 x137 x138 x139 x140 x141 x142 x143 x144 x145 x146 x147 x148 x149 x150 x151 x152 x153 x154 x155 x156 x157 x158 x159 x160 x161 x162 x163 x164 x165 x166 x167 x168 x169 x170 x171 x172 x173 x174 x175 x176 x177 x178 x179 x180 x181 x182 x183 x184 x185 x186 x187 x188 x189 x190 x191 x192 x193 x194 x195 x196 x197 x198 x199 x200 x201 x202 x203 x204 x205 x206 x207 x208 x209 x210 x211 x212 x213 x214 x215 x216 x217 x218 x219 x220 x221 x222 x223 x224 x225 x226 x227 x228 x229 x230 x231 x232 x233 x234 x235 x236 x237 x238 x239 x240 x241 x242 x243 x244 x245 x246 x247 x248 x249 x250 x251 x252 x253 x254 x255 x256 x257 x258 x259 x260 x261 x262 x263 x264 x265 x266 x267 x268 x269 x270 x271 x272 x273 x274 x275 x276 x277 x278 x279 x280 x281 x282 x283 x284 x285 x286 x287 x288 x289 x290 x291 x292 x293 x294 x295 x296 x297 x298 x299 x300 x301 x302 x303 x304 x305:Value}(HZ:Hid (ZSt w0 D rb bb gr cr mb cm m4 ao co wz))(HOK4:Hid (MOk m4))(HF4:Hid (m4.fin=0))(ha:a<8)(hc8:c<8)(hnn:-1048576≤n∧n≤1048575)(hsm:(9:Int)=2∨(9:Int)=3→0≤n∧n<8)(hib:wz.heap[ib]?=some (.cells #[.int .i64 9,.int .i64 a,.int .i64 c,.int .i64 n] 123 (0,0)))(hne:ib≠bb∧ib≠gr)(hK:∀(y17 y18 y19 y20 y101 y102 y103 y104 y105 y106 y107 y108 y109 y110 y111 y112 y113 y114 y115 y116 y117 y118 y119 y120 y121 y122 y123 y124 y125 y126 y127 y128 y129 y130 y131 y132 y133 y134 y135 y136 y137 y138 y139 y140 y141 y142 y143 y144 y145 y146 y147 y148 y149 y150 y151 y152 y153 y154 y155 y156 y157 y158 y159 y160 y161 y162 y163 y164 y165 y166 y167 y168 y169 y170 y171 y172 y173 y174 y175 y176 y177 y178 y179 y180 y181 y182 y183 y184 y185 y186 y187 y188 y189 y190 y191 y192 y193 y194 y195 y196 y197 y198 y199 y200 y201 y202 y203 y204 y205 y206 y207 y208 y209 y210 y211 y212 y213 y214 y215 y216 y217 y218 y219 y220 y221 y222 y223 y224 y225 y226 y227 y228 y229 y230 y231 y232 y233 y234 y235 y236 y237 y238 y239 y240 y241 y242 y243 y244 y245 y246 y247 y248 y249 y250 y251 y252 y253 y254 y255 y256 y257 y258 y259 y260 y261 y262 y263 y264 y265 y266 y267 y268 y269 y270 y271 y272 y273 y274 y275 y276 y277 y278 y279 y280 y281 y282 y283 y284 y285 y286 y287 y288 y289 y290 y291 y292 y293 y294 y295 y296 y297 y298 y299 y300 y301 y302 y303 y304 y305:Value) (s13 s14:Value) (wx:World),(∃(m5:Mach) (nx wr:Int),s13=.int .i64 nx∧s14=.int .i64 wr∧Hid (-4398046511104≤nx∧nx≤4398046511104)∧Hid (ZS w0 D rb bb gr cr mb cm m5 wx)∧Hid (RanR m5 nx wr (doM m4 9 a c n value)))→K ⟨List.toArray (x0::x1::x2 :: .int .i64 value :: .pointer (some ⟨bb,0,none⟩)::x5::x6::x7::x8::x9::x10 :: .pointer (some ⟨ib,0,none⟩)::x12::s13::s14 :: .int .i64 (m4.reg a) :: .int .i64 (m4.reg c)::y17::y18::y19::y20::x21::x22::x23::x24::x25::x26::x27::x28::x29::x30::x31::x32::x33::x34::x35::x36::x37::x38::x39::x40::x41::x42::x43::x44::x45::x46::x47::x48::x49::x50::x51::x52::x53::x54::x55::x56::x57::x58::x59::x60::x61::x62::x63::x64::x65::x66::x67::x68::x69::x70::x71::x72::x73::x74::x75::x76::x77::x78::x79::x80::x81::x82::x83::x84::x85::x86::x87::x88::x89::x90::x91::x92::x93::x94::x95::x96::x97::x98::x99 :: .int .i64 9::y101::y102::y103::y104::y105::y106::y107::y108::y109::y110::y111::y112::y113::y114::y115::y116::y117::y118::y119::y120::y121::y122::y123::y124::y125::y126::y127::y128::y129::y130::y131::y132::y133::y134::y135::y136::y137::y138::y139::y140::y141::y142::y143::y144::y145::y146::y147::y148::y149::y150::y151::y152::y153::y154::y155::y156::y157::y158::y159::y160::y161::y162::y163::y164::y165::y166::y167::y168::y169::y170::y171::y172::y173::y174::y175::y176::y177::y178::y179::y180::y181::y182::y183::y184::y185::y186::y187::y188::y189::y190::y191::y192::y193::y194::y195::y196::y197::y198::y199::y200::y201::y202::y203::y204::y205::y206::y207::y208::y209::y210::y211::y212::y213::y214::y215::y216::y217::y218::y219::y220::y221::y222::y223::y224::y225::y226::y227::y228::y229::y230::y231::y232::y233::y234::y235::y236::y237::y238::y239::y240::y241::y242::y243::y244::y245::y246::y247::y248::y249::y250::y251::y252::y253::y254::y255::y256::y257::y258::y259::y260::y261::y262::y263::y264::y265::y266::y267::y268::y269::y270::y271::y272::y273::y274::y275::y276::y277::y278::y279::y280::y281::y282::y283::y284::y285::y286::y287::y288::y289::y290::y291::y292::y293::y294::y295::y296::y297::y298::y299::y300::y301::y302::y303::y304::y305::[]),[]⟩ wx):(zbb [1,1,1,1,1,1,1,1,1,1,1,1,0,1]).wp Tryd.prog (Exit.then K Q') ⟨List.toArray (x0::x1::x2 :: .int .i64 value :: .pointer (some ⟨bb,0,none⟩)::x5::x6::x7::x8::x9::x10 :: .pointer (some ⟨ib,0,none⟩)::x12 :: .int .i64 (m4.pc+1) :: .int .i64 (-1) :: .int .i64 (m4.reg a) :: .int .i64 (m4.reg c)::x17::x18::x19::x20::x21::x22::x23::x24::x25::x26::x27::x28::x29::x30::x31::x32::x33::x34::x35::x36::x37::x38::x39::x40::x41::x42::x43::x44::x45::x46::x47::x48::x49::x50::x51::x52::x53::x54::x55::x56::x57::x58::x59::x60::x61::x62::x63::x64::x65::x66::x67::x68::x69::x70::x71::x72::x73::x74::x75::x76::x77::x78::x79::x80::x81::x82::x83::x84::x85::x86::x87::x88::x89::x90::x91::x92::x93::x94::x95::x96::x97::x98::x99 :: .int .i64 9::x101::x102::x103::x104::x105::x106::x107::x108::x109::x110::x111::x112::x113::x114::x115::x116::x117::x118::x119::x120::x121::x122::x123::x124::x125::x126::x127::x128::x129::x130::x131::x132::x133::x134::x135::x136::x137::x138::x139::x140::x141::x142::x143::x144::x145::x146::x147::x148::x149::x150::x151::x152::x153::x154::x155::x156::x157::x158::x159::x160::x161::x162::x163::x164::x165::x166::x167::x168::x169::x170::x171::x172::x173::x174::x175::x176::x177::x178::x179::x180::x181::x182::x183::x184::x185::x186::x187::x188::x189::x190::x191::x192::x193::x194::x195::x196::x197::x198::x199::x200::x201::x202::x203::x204::x205::x206::x207::x208::x209::x210::x211::x212::x213::x214::x215::x216::x217::x218::x219::x220::x221::x222::x223::x224::x225::x226::x227::x228::x229::x230::x231::x232::x233::x234::x235::x236::x237::x238::x239::x240::x241::x242::x243::x244::x245::x246::x247::x248::x249::x250::x251::x252::x253::x254::x255::x256::x257::x258::x259::x260::x261::x262::x263::x264::x265::x266::x267::x268::x269::x270::x271::x272::x273::x274::x275::x276::x277::x278::x279::x280::x281::x282::x283::x284::x285::x286::x287::x288::x289::x290::x291::x292::x293::x294::x295::x296::x297::x298::x299::x300::x301::x302::x303::x304::x305::[]),[]⟩ wz:=by
 have HK:=Lib.hid hK
 clear hK
 conv=>arg 2;whnf
 go_cut [13,14] from 101 (fun s13 s14 wx =>∃(m5:Mach) (nx wr:Int),s13=.int .i64 nx∧s14=.int .i64 wr∧Hid (-4398046511104≤nx∧nx≤4398046511104)∧Hid (ZS w0 D rb bb gr cr mb cm m5 wx)∧Hid (RanR m5 nx wr (doM m4 9 a c n value)))
 case rest=>
  exact HK.out _ _ _ _ _ _ _ _ _ _ _ _ _ _ _ _ _ _ _ _ _ _ _ _ _ _ _ _ _ _ _ _ _ _ _ _ _ _ _ _ _ _ _ _ _ _ _ _ _ _ _ _ _ _ _ _ _ _ _ _ _ _ _ _ _ _ _ _ _ _ _ _ _ _ _ _ _ _ _ _ _ _ _ _ _ _ _ _ _ _ _ _ _ _ _ _ _ _ _ _ _ _ _ _ _ _ _ _ _ _ _ _ _ _ _ _ _ _ _ _ _ _ _ _ _ _ _ _ _ _ _ _ _ _ _ _ _ _ _ _ _ _ _ _ _ _ _ _ _ _ _ _ _ _ _ _ _ _ _ _ _ _ _ _ _ _ _ _ _ _ _ _ _ _ _ _ _ _ _ _ _ _ _ _ _ _ _ _ _ _ _ _ _ _ _ _ _ _ _ _ _ _ _ _ _ _ _ _ _ _ _ _ hcut
 case first=>
  clear HK
  have hn1:=hnn.1
  have hn2:=hnn.2
  have HSML:=Lib.hid hsm
  have hpc:=HOK4.out.pc
  have wra:=HOK4.out.wreg a
  have wrc:=HOK4.out.wreg c
  unfold WordZ at wra wrc
  have ha':(a:Int)<8:=by omega
  have hc':(c:Int)<8:=by omega
  clear hsm
  have q0:wz.cell? ⟨ib,0,none⟩=some (.int .i64 9):=zaa hib 0
  have q1:wz.cell? ⟨ib,1,none⟩=some (.int .i64 a):=zaa hib 1
  have q2:wz.cell? ⟨ib,2,none⟩=some (.int .i64 c):=zaa hib 2
  have q3:wz.cell? ⟨ib,3,none⟩=some (.int .i64 n):=zaa hib 3
  have k0:wz.cell? ⟨bb,0,none⟩=some (.slice (some ⟨gr,0,none⟩) 8 cr):=zaa HZ.out.box 0
  have k1:wz.cell? ⟨bb,1,none⟩=some (.int .i64 m4.pc):=zaa HZ.out.box 1
  have ra:=HZ.out.reg_at ha
  have rc:=HZ.out.reg_at hc8
  have lbb:=HZ.out.blt
  have lgr:=HZ.out.rlt
  have lib:=(Array.getElem?_eq_some_iff.1 hib).1
  have wpc:IntKind.i64.wrap (m4.pc+1)=m4.pc+1:=IntWalk.i64_in _ (by omega)
  have n1b:¬ib=bb:=hne.1
  have n2b:¬ib=gr:=hne.2
  have n3b:¬bb=ib:=fun e=>hne.1 e.symm
  have n4b:¬gr=ib:=fun e=>hne.2 e.symm
  have hne1:¬gr=bb:=HZ.out.grb
  have hne2:¬bb=gr:=fun e=>HZ.out.grb e.symm
  clear hib hne
  have HRN:=Lib.hid (show -4398046511104≤m4.pc+1∧m4.pc+1≤4398046511104 by omega)
  have fra:wz.frozen? ⟨gr,a,none⟩=false:=HZ.out.regs.frozenAt a
  have w2:IntKind.i64.wrap (m4.pc+n)=m4.pc+n:=IntWalk.i64_in _ (by omega)
  have HRJ:=Lib.hid (show -4398046511104≤m4.pc+n∧m4.pc+n≤4398046511104 by omega)
  go_wp2_with fail
  go_meet
  case rel=>exact⟨m4,m4.pc+n,-1,rfl,rfl,HRJ,Lib.hid (HZ.out).zs,Lib.hid (Or.inl ⟨HF4.out,rfl⟩)⟩
theorem zj1{w0:World}{D:Nat→Prop}{rb bb gr cr mb cm:Nat}{ao:Option Addr}{co:Nat}{m4:Mach}{a c ib:Nat}{n value:Int}{wz:World}{K:Act→World→Prop}{Q':Exit→Act→World→Prop}{x0 x1 x2 x5 x6 x7 x8 x9 x10 x12 x17 x18 x19 x20 x21 x22 x23 x24 x25 x26 x27 x28 x29 x30 x31 x32 x33 x34 x35 x36 x37 x38 x39 x40 x41 x42 x43 x44 x45 x46 x47 x48 x49 x50 x51 x52 x53 x54 x55 x56 x57 x58 x59 x60 x61 x62 x63 x64 x65 x66 x67 x68 x69 x70 x71 x72 x73 x74 x75 x76 x77 x78 x79 x80 x81 x82 x83 x84 x85 x86 x87 x88 x89 x90 x91 x92 x93 x94 x95 x96 x97 x98 x99 x101 x102 x103 x104 x105 x106 x107 x108 x109 x110 x111 x112 x113 x114 x115 x116 x117 x118 x119 x120 x121 x122 x123 x124 x125 x126 x127 x128 x129 x130 x131 x132 x133 x134 x135 x136 x137 x138 x139 x140 x141 x142 x143 x144 x145 x146 x147 x148 x149 x150 x151 x152 x153 x154 x155 x156 x157 x158 x159 x160 x161 x162 x163 x164 x165 x166 x167 x168 x169 x170 x171 x172 x173 x174 x175 x176 x177 x178 x179 x180 x181 x182 x183 x184 x185 x186 x187 x188 x189 x190 x191 x192 x193 x194 x195 x196 x197 x198 x199 x200 x201 x202 x203 x204 x205 x206 x207 x208 x209 x210 x211 x212 x213 x214 x215 x216 x217 x218 x219 x220 x221 x222 x223 x224 x225 x226 x227 x228 x229 x230 x231 x232 x233 x234 x235 x236 x237 x238 x239 x240 x241 x242 x243 x244 x245 x246 x247 x248 x249 x250 x251 x252 x253 x254 x255 x256 x257 x258 x259 x260 x261 x262 x263 x264 x265 x266 x267 x268 x269 x270 x271 x272 x273 x274 x275 x276 x277 x278 x279 x280 x281 x282 x283 x284 x285 x286 x287 x288 x289 x290 x291 x292 x293 x294 x295 x296 x297 x298 x299 x300 x301 x302 x303 x304 x305:Value}(HZ:Hid (ZSt w0 D rb bb gr cr mb cm m4 ao co wz))(HOK4:Hid (MOk m4))(HF4:Hid (m4.fin=0))(ha:a<8)(hc8:c<8)(hnn:-1048576≤n∧n≤1048575)(hsm:(10:Int)=2∨(10:Int)=3→0≤n∧n<8)(hib:wz.heap[ib]?=some (.cells #[.int .i64 10,.int .i64 a,.int .i64 c,.int .i64 n] 123 (0,0)))(hne:ib≠bb∧ib≠gr)(hK:∀(y17 y18 y19 y20 y101 y102 y103 y104 y105 y106 y107 y108 y109 y110 y111 y112 y113 y114 y115 y116 y117 y118 y119 y120 y121 y122 y123 y124 y125 y126 y127 y128 y129 y130 y131 y132 y133 y134 y135 y136 y137 y138 y139 y140 y141 y142 y143 y144 y145 y146 y147 y148 y149 y150 y151 y152 y153 y154 y155 y156 y157 y158 y159 y160 y161 y162 y163 y164 y165 y166 y167 y168 y169 y170 y171 y172 y173 y174 y175 y176 y177 y178 y179 y180 y181 y182 y183 y184 y185 y186 y187 y188 y189 y190 y191 y192 y193 y194 y195 y196 y197 y198 y199 y200 y201 y202 y203 y204 y205 y206 y207 y208 y209 y210 y211 y212 y213 y214 y215 y216 y217 y218 y219 y220 y221 y222 y223 y224 y225 y226 y227 y228 y229 y230 y231 y232 y233 y234 y235 y236 y237 y238 y239 y240 y241 y242 y243 y244 y245 y246 y247 y248 y249 y250 y251 y252 y253 y254 y255 y256 y257 y258 y259 y260 y261 y262 y263 y264 y265 y266 y267 y268 y269 y270 y271 y272 y273 y274 y275 y276 y277 y278 y279 y280 y281 y282 y283 y284 y285 y286 y287 y288 y289 y290 y291 y292 y293 y294 y295 y296 y297 y298 y299 y300 y301 y302 y303 y304 y305:Value) (s13 s14:Value) (wx:World),(∃(m5:Mach) (nx wr:Int),s13=.int .i64 nx∧s14=.int .i64 wr∧Hid (-4398046511104≤nx∧nx≤4398046511104)∧Hid (ZS w0 D rb bb gr cr mb cm m5 wx)∧Hid (RanR m5 nx wr (doM m4 10 a c n value)))→K ⟨List.toArray (x0::x1::x2 :: .int .i64 value :: .pointer (some ⟨bb,0,none⟩)::x5::x6::x7::x8::x9::x10 :: .pointer (some ⟨ib,0,none⟩)::x12::s13::s14 :: .int .i64 (m4.reg a) :: .int .i64 (m4.reg c)::y17::y18::y19::y20::x21::x22::x23::x24::x25::x26::x27::x28::x29::x30::x31::x32::x33::x34::x35::x36::x37::x38::x39::x40::x41::x42::x43::x44::x45::x46::x47::x48::x49::x50::x51::x52::x53::x54::x55::x56::x57::x58::x59::x60::x61::x62::x63::x64::x65::x66::x67::x68::x69::x70::x71::x72::x73::x74::x75::x76::x77::x78::x79::x80::x81::x82::x83::x84::x85::x86::x87::x88::x89::x90::x91::x92::x93::x94::x95::x96::x97::x98::x99 :: .int .i64 10::y101::y102::y103::y104::y105::y106::y107::y108::y109::y110::y111::y112::y113::y114::y115::y116::y117::y118::y119::y120::y121::y122::y123::y124::y125::y126::y127::y128::y129::y130::y131::y132::y133::y134::y135::y136::y137::y138::y139::y140::y141::y142::y143::y144::y145::y146::y147::y148::y149::y150::y151::y152::y153::y154::y155::y156::y157::y158::y159::y160::y161::y162::y163::y164::y165::y166::y167::y168::y169::y170::y171::y172::y173::y174::y175::y176::y177::y178::y179::y180::y181::y182::y183::y184::y185::y186::y187::y188::y189::y190::y191::y192::y193::y194::y195::y196::y197::y198::y199::y200::y201::y202::y203::y204::y205::y206::y207::y208::y209::y210::y211::y212::y213::y214::y215::y216::y217::y218::y219::y220::y221::y222::y223::y224::y225::y226::y227::y228::y229::y230::y231::y232::y233::y234::y235::y236::y237::y238::y239::y240::y241::y242::y243::y244::y245::y246::y247::y248::y249::y250::y251::y252::y253::y254::y255::y256::y257::y258::y259::y260::y261::y262::y263::y264::y265::y266::y267::y268::y269::y270::y271::y272::y273::y274::y275::y276::y277::y278::y279::y280::y281::y282::y283::y284::y285::y286::y287::y288::y289::y290::y291::y292::y293::y294::y295::y296::y297::y298::y299::y300::y301::y302::y303::y304::y305::[]),[]⟩ wx):(zbb [1,1,1,1,1,1,1,1,1,1,1,1,0,1]).wp Tryd.prog (Exit.then K Q') ⟨List.toArray (x0::x1::x2 :: .int .i64 value :: .pointer (some ⟨bb,0,none⟩)::x5::x6::x7::x8::x9::x10 :: .pointer (some ⟨ib,0,none⟩)::x12 :: .int .i64 (m4.pc+1) :: .int .i64 (-1) :: .int .i64 (m4.reg a) :: .int .i64 (m4.reg c)::x17::x18::x19::x20::x21::x22::x23::x24::x25::x26::x27::x28::x29::x30::x31::x32::x33::x34::x35::x36::x37::x38::x39::x40::x41::x42::x43::x44::x45::x46::x47::x48::x49::x50::x51::x52::x53::x54::x55::x56::x57::x58::x59::x60::x61::x62::x63::x64::x65::x66::x67::x68::x69::x70::x71::x72::x73::x74::x75::x76::x77::x78::x79::x80::x81::x82::x83::x84::x85::x86::x87::x88::x89::x90::x91::x92::x93::x94::x95::x96::x97::x98::x99 :: .int .i64 10::x101::x102::x103::x104::x105::x106::x107::x108::x109::x110::x111::x112::x113::x114::x115::x116::x117::x118::x119::x120::x121::x122::x123::x124::x125::x126::x127::x128::x129::x130::x131::x132::x133::x134::x135::x136::x137::x138::x139::x140::x141::x142::x143::x144::x145::x146::x147::x148::x149::x150::x151::x152::x153::x154::x155::x156::x157::x158::x159::x160::x161::x162::x163::x164::x165::x166::x167::x168::x169::x170::x171::x172::x173::x174::x175::x176::x177::x178::x179::x180::x181::x182::x183::x184::x185::x186::x187::x188::x189::x190::x191::x192::x193::x194::x195::x196::x197::x198::x199::x200::x201::x202::x203::x204::x205::x206::x207::x208::x209::x210::x211::x212::x213::x214::x215::x216::x217::x218::x219::x220::x221::x222::x223::x224::x225::x226::x227::x228::x229::x230::x231::x232::x233::x234::x235::x236::x237::x238::x239::x240::x241::x242::x243::x244::x245::x246::x247::x248::x249::x250::x251::x252::x253::x254::x255::x256::x257::x258::x259::x260::x261::x262::x263::x264::x265::x266::x267::x268::x269::x270::x271::x272::x273::x274::x275::x276::x277::x278::x279::x280::x281::x282::x283::x284::x285::x286::x287::x288::x289::x290::x291::x292::x293::x294::x295::x296::x297::x298::x299::x300::x301::x302::x303::x304::x305::[]),[]⟩ wz:=by
 have HK:=Lib.hid hK
 clear hK
 conv=>arg 2;whnf
 go_cut [13,14] from 101 (fun s13 s14 wx =>∃(m5:Mach) (nx wr:Int),s13=.int .i64 nx∧s14=.int .i64 wr∧Hid (-4398046511104≤nx∧nx≤4398046511104)∧Hid (ZS w0 D rb bb gr cr mb cm m5 wx)∧Hid (RanR m5 nx wr (doM m4 10 a c n value)))
 case rest=>
  exact HK.out _ _ _ _ _ _ _ _ _ _ _ _ _ _ _ _ _ _ _ _ _ _ _ _ _ _ _ _ _ _ _ _ _ _ _ _ _ _ _ _ _ _ _ _ _ _ _ _ _ _ _ _ _ _ _ _ _ _ _ _ _ _ _ _ _ _ _ _ _ _ _ _ _ _ _ _ _ _ _ _ _ _ _ _ _ _ _ _ _ _ _ _ _ _ _ _ _ _ _ _ _ _ _ _ _ _ _ _ _ _ _ _ _ _ _ _ _ _ _ _ _ _ _ _ _ _ _ _ _ _ _ _ _ _ _ _ _ _ _ _ _ _ _ _ _ _ _ _ _ _ _ _ _ _ _ _ _ _ _ _ _ _ _ _ _ _ _ _ _ _ _ _ _ _ _ _ _ _ _ _ _ _ _ _ _ _ _ _ _ _ _ _ _ _ _ _ _ _ _ _ _ _ _ _ _ _ _ _ _ _ _ _ hcut
 case first=>
  clear HK
  have hn1:=hnn.1
  have hn2:=hnn.2
  have HSML:=Lib.hid hsm
  have hpc:=HOK4.out.pc
  have wra:=HOK4.out.wreg a
  have wrc:=HOK4.out.wreg c
  unfold WordZ at wra wrc
  have ha':(a:Int)<8:=by omega
  have hc':(c:Int)<8:=by omega
  clear hsm
  have q0:wz.cell? ⟨ib,0,none⟩=some (.int .i64 10):=zaa hib 0
  have q1:wz.cell? ⟨ib,1,none⟩=some (.int .i64 a):=zaa hib 1
  have q2:wz.cell? ⟨ib,2,none⟩=some (.int .i64 c):=zaa hib 2
  have q3:wz.cell? ⟨ib,3,none⟩=some (.int .i64 n):=zaa hib 3
  have k0:wz.cell? ⟨bb,0,none⟩=some (.slice (some ⟨gr,0,none⟩) 8 cr):=zaa HZ.out.box 0
  have k1:wz.cell? ⟨bb,1,none⟩=some (.int .i64 m4.pc):=zaa HZ.out.box 1
  have ra:=HZ.out.reg_at ha
  have rc:=HZ.out.reg_at hc8
  have lbb:=HZ.out.blt
  have lgr:=HZ.out.rlt
  have lib:=(Array.getElem?_eq_some_iff.1 hib).1
  have wpc:IntKind.i64.wrap (m4.pc+1)=m4.pc+1:=IntWalk.i64_in _ (by omega)
  have n1b:¬ib=bb:=hne.1
  have n2b:¬ib=gr:=hne.2
  have n3b:¬bb=ib:=fun e=>hne.1 e.symm
  have n4b:¬gr=ib:=fun e=>hne.2 e.symm
  have hne1:¬gr=bb:=HZ.out.grb
  have hne2:¬bb=gr:=fun e=>HZ.out.grb e.symm
  clear hib hne
  have HRN:=Lib.hid (show -4398046511104≤m4.pc+1∧m4.pc+1≤4398046511104 by omega)
  have fra:wz.frozen? ⟨gr,a,none⟩=false:=HZ.out.regs.frozenAt a
  by_cases hn:n=0∨n=1
  ·
   have HDO:Hid (doM m4 10 a c n value=((m4.setReg a value).goTo (m4.pc+1),0,-1)):=Lib.hid (by show (if n=0∨n=1 then _ else _)=_;rw[if_pos hn])
   rcases hn with rfl|rfl
   ·
    go_wp2_with fail
    go_meet
    case rel=>exact⟨m4.setReg a value,m4.pc+1,-1,rfl,rfl,HRN,Lib.hid (HZ.out.setReg a value).zs,Lib.hid (Or.inl ⟨HF4.out,HDO.out⟩)⟩
   ·
    go_wp2_with fail
    go_meet
    case rel=>exact⟨m4.setReg a value,m4.pc+1,-1,rfl,rfl,HRN,Lib.hid (HZ.out.setReg a value).zs,Lib.hid (Or.inl ⟨HF4.out,HDO.out⟩)⟩
  ·
   by_cases hn2:n=2
   ·
    subst hn2
    have k10:wz.cell? ⟨bb,10,none⟩=some (.int .i64 m4.ready):=zaa HZ.out.box 10
    go_wp2_with fail
    go_meet
    case rel=>exact⟨m4.setReg a m4.ready,m4.pc+1,-1,rfl,rfl,HRN,Lib.hid (HZ.out.setReg a m4.ready).zs,Lib.hid (Or.inl ⟨HF4.out,rfl⟩)⟩
   ·
    have HDO:Hid (doM m4 10 a c n value=(m4,3,-1)):=Lib.hid (by show (if n=0∨n=1 then _ else if n=2 then _ else _)=_;rw[if_neg hn,if_neg hn2])
    have e0:(n == 0)=false:=by rw[beq_eq_false_iff_ne];exact fun h=>hn (Or.inl h)
    have e1:(n == 1)=false:=by rw[beq_eq_false_iff_ne];exact fun h=>hn (Or.inr h)
    have e2:(n == 2)=false:=by rw[beq_eq_false_iff_ne];exact hn2
    clear hn hn2
    have k7:wz.cell? ⟨bb,7,none⟩=some (.int .i64 m4.fin):=zaa HZ.out.box 7
    have f7:=zab HZ.out.box 7
    go_wp2_with fail
    go_meet
    case rel=>exact⟨{m4 with fin:=3},m4.pc+1,-1,rfl,rfl,HRN,Lib.hid (HZ.out.put 7 (.int .i64 3) {m4 with fin:=3} rfl rfl rfl rfl).zs,Lib.hid (RanR.bad HF4.out (e:=3) (by decide) _ HDO.out)⟩
theorem zj2{w0:World}{D:Nat→Prop}{rb bb gr cr mb cm:Nat}{ao:Option Addr}{co:Nat}{m4:Mach}{a c ib:Nat}{n value:Int}{wz:World}{K:Act→World→Prop}{Q':Exit→Act→World→Prop}{x0 x1 x2 x5 x6 x7 x8 x9 x10 x12 x17 x18 x19 x20 x21 x22 x23 x24 x25 x26 x27 x28 x29 x30 x31 x32 x33 x34 x35 x36 x37 x38 x39 x40 x41 x42 x43 x44 x45 x46 x47 x48 x49 x50 x51 x52 x53 x54 x55 x56 x57 x58 x59 x60 x61 x62 x63 x64 x65 x66 x67 x68 x69 x70 x71 x72 x73 x74 x75 x76 x77 x78 x79 x80 x81 x82 x83 x84 x85 x86 x87 x88 x89 x90 x91 x92 x93 x94 x95 x96 x97 x98 x99 x101 x102 x103 x104 x105 x106 x107 x108 x109 x110 x111 x112 x113 x114 x115 x116 x117 x118 x119 x120 x121 x122 x123 x124 x125 x126 x127 x128 x129 x130 x131 x132 x133 x134 x135 x136 x137 x138 x139 x140 x141 x142 x143 x144 x145 x146 x147 x148 x149 x150 x151 x152 x153 x154 x155 x156 x157 x158 x159 x160 x161 x162 x163 x164 x165 x166 x167 x168 x169 x170 x171 x172 x173 x174 x175 x176 x177 x178 x179 x180 x181 x182 x183 x184 x185 x186 x187 x188 x189 x190 x191 x192 x193 x194 x195 x196 x197 x198 x199 x200 x201 x202 x203 x204 x205 x206 x207 x208 x209 x210 x211 x212 x213 x214 x215 x216 x217 x218 x219 x220 x221 x222 x223 x224 x225 x226 x227 x228 x229 x230 x231 x232 x233 x234 x235 x236 x237 x238 x239 x240 x241 x242 x243 x244 x245 x246 x247 x248 x249 x250 x251 x252 x253 x254 x255 x256 x257 x258 x259 x260 x261 x262 x263 x264 x265 x266 x267 x268 x269 x270 x271 x272 x273 x274 x275 x276 x277 x278 x279 x280 x281 x282 x283 x284 x285 x286 x287 x288 x289 x290 x291 x292 x293 x294 x295 x296 x297 x298 x299 x300 x301 x302 x303 x304 x305:Value}(HZ:Hid (ZSt w0 D rb bb gr cr mb cm m4 ao co wz))(HOK4:Hid (MOk m4))(HF4:Hid (m4.fin=0))(ha:a<8)(hc8:c<8)(hnn:-1048576≤n∧n≤1048575)(hsm:(11:Int)=2∨(11:Int)=3→0≤n∧n<8)(hib:wz.heap[ib]?=some (.cells #[.int .i64 11,.int .i64 a,.int .i64 c,.int .i64 n] 123 (0,0)))(hne:ib≠bb∧ib≠gr)(hK:∀(y17 y18 y19 y20 y101 y102 y103 y104 y105 y106 y107 y108 y109 y110 y111 y112 y113 y114 y115 y116 y117 y118 y119 y120 y121 y122 y123 y124 y125 y126 y127 y128 y129 y130 y131 y132 y133 y134 y135 y136 y137 y138 y139 y140 y141 y142 y143 y144 y145 y146 y147 y148 y149 y150 y151 y152 y153 y154 y155 y156 y157 y158 y159 y160 y161 y162 y163 y164 y165 y166 y167 y168 y169 y170 y171 y172 y173 y174 y175 y176 y177 y178 y179 y180 y181 y182 y183 y184 y185 y186 y187 y188 y189 y190 y191 y192 y193 y194 y195 y196 y197 y198 y199 y200 y201 y202 y203 y204 y205 y206 y207 y208 y209 y210 y211 y212 y213 y214 y215 y216 y217 y218 y219 y220 y221 y222 y223 y224 y225 y226 y227 y228 y229 y230 y231 y232 y233 y234 y235 y236 y237 y238 y239 y240 y241 y242 y243 y244 y245 y246 y247 y248 y249 y250 y251 y252 y253 y254 y255 y256 y257 y258 y259 y260 y261 y262 y263 y264 y265 y266 y267 y268 y269 y270 y271 y272 y273 y274 y275 y276 y277 y278 y279 y280 y281 y282 y283 y284 y285 y286 y287 y288 y289 y290 y291 y292 y293 y294 y295 y296 y297 y298 y299 y300 y301 y302 y303 y304 y305:Value) (s13 s14:Value) (wx:World),(∃(m5:Mach) (nx wr:Int),s13=.int .i64 nx∧s14=.int .i64 wr∧Hid (-4398046511104≤nx∧nx≤4398046511104)∧Hid (ZS w0 D rb bb gr cr mb cm m5 wx)∧Hid (RanR m5 nx wr (doM m4 11 a c n value)))→K ⟨List.toArray (x0::x1::x2 :: .int .i64 value :: .pointer (some ⟨bb,0,none⟩)::x5::x6::x7::x8::x9::x10 :: .pointer (some ⟨ib,0,none⟩)::x12::s13::s14 :: .int .i64 (m4.reg a) :: .int .i64 (m4.reg c)::y17::y18::y19::y20::x21::x22::x23::x24::x25::x26::x27::x28::x29::x30::x31::x32::x33::x34::x35::x36::x37::x38::x39::x40::x41::x42::x43::x44::x45::x46::x47::x48::x49::x50::x51::x52::x53::x54::x55::x56::x57::x58::x59::x60::x61::x62::x63::x64::x65::x66::x67::x68::x69::x70::x71::x72::x73::x74::x75::x76::x77::x78::x79::x80::x81::x82::x83::x84::x85::x86::x87::x88::x89::x90::x91::x92::x93::x94::x95::x96::x97::x98::x99 :: .int .i64 11::y101::y102::y103::y104::y105::y106::y107::y108::y109::y110::y111::y112::y113::y114::y115::y116::y117::y118::y119::y120::y121::y122::y123::y124::y125::y126::y127::y128::y129::y130::y131::y132::y133::y134::y135::y136::y137::y138::y139::y140::y141::y142::y143::y144::y145::y146::y147::y148::y149::y150::y151::y152::y153::y154::y155::y156::y157::y158::y159::y160::y161::y162::y163::y164::y165::y166::y167::y168::y169::y170::y171::y172::y173::y174::y175::y176::y177::y178::y179::y180::y181::y182::y183::y184::y185::y186::y187::y188::y189::y190::y191::y192::y193::y194::y195::y196::y197::y198::y199::y200::y201::y202::y203::y204::y205::y206::y207::y208::y209::y210::y211::y212::y213::y214::y215::y216::y217::y218::y219::y220::y221::y222::y223::y224::y225::y226::y227::y228::y229::y230::y231::y232::y233::y234::y235::y236::y237::y238::y239::y240::y241::y242::y243::y244::y245::y246::y247::y248::y249::y250::y251::y252::y253::y254::y255::y256::y257::y258::y259::y260::y261::y262::y263::y264::y265::y266::y267::y268::y269::y270::y271::y272::y273::y274::y275::y276::y277::y278::y279::y280::y281::y282::y283::y284::y285::y286::y287::y288::y289::y290::y291::y292::y293::y294::y295::y296::y297::y298::y299::y300::y301::y302::y303::y304::y305::[]),[]⟩ wx):(zbb [1,1,1,1,1,1,1,1,1,1,1,1,0,1]).wp Tryd.prog (Exit.then K Q') ⟨List.toArray (x0::x1::x2 :: .int .i64 value :: .pointer (some ⟨bb,0,none⟩)::x5::x6::x7::x8::x9::x10 :: .pointer (some ⟨ib,0,none⟩)::x12 :: .int .i64 (m4.pc+1) :: .int .i64 (-1) :: .int .i64 (m4.reg a) :: .int .i64 (m4.reg c)::x17::x18::x19::x20::x21::x22::x23::x24::x25::x26::x27::x28::x29::x30::x31::x32::x33::x34::x35::x36::x37::x38::x39::x40::x41::x42::x43::x44::x45::x46::x47::x48::x49::x50::x51::x52::x53::x54::x55::x56::x57::x58::x59::x60::x61::x62::x63::x64::x65::x66::x67::x68::x69::x70::x71::x72::x73::x74::x75::x76::x77::x78::x79::x80::x81::x82::x83::x84::x85::x86::x87::x88::x89::x90::x91::x92::x93::x94::x95::x96::x97::x98::x99 :: .int .i64 11::x101::x102::x103::x104::x105::x106::x107::x108::x109::x110::x111::x112::x113::x114::x115::x116::x117::x118::x119::x120::x121::x122::x123::x124::x125::x126::x127::x128::x129::x130::x131::x132::x133::x134::x135::x136::x137::x138::x139::x140::x141::x142::x143::x144::x145::x146::x147::x148::x149::x150::x151::x152::x153::x154::x155::x156::x157::x158::x159::x160::x161::x162::x163::x164::x165::x166::x167::x168::x169::x170::x171::x172::x173::x174::x175::x176::x177::x178::x179::x180::x181::x182::x183::x184::x185::x186::x187::x188::x189::x190::x191::x192::x193::x194::x195::x196::x197::x198::x199::x200::x201::x202::x203::x204::x205::x206::x207::x208::x209::x210::x211::x212::x213::x214::x215::x216::x217::x218::x219::x220::x221::x222::x223::x224::x225::x226::x227::x228::x229::x230::x231::x232::x233::x234::x235::x236::x237::x238::x239::x240::x241::x242::x243::x244::x245::x246::x247::x248::x249::x250::x251::x252::x253::x254::x255::x256::x257::x258::x259::x260::x261::x262::x263::x264::x265::x266::x267::x268::x269::x270::x271::x272::x273::x274::x275::x276::x277::x278::x279::x280::x281::x282::x283::x284::x285::x286::x287::x288::x289::x290::x291::x292::x293::x294::x295::x296::x297::x298::x299::x300::x301::x302::x303::x304::x305::[]),[]⟩ wz:=by
 have HK:=Lib.hid hK
 clear hK
 conv=>arg 2;whnf
 go_cut [13,14] from 101 (fun s13 s14 wx =>∃(m5:Mach) (nx wr:Int),s13=.int .i64 nx∧s14=.int .i64 wr∧Hid (-4398046511104≤nx∧nx≤4398046511104)∧Hid (ZS w0 D rb bb gr cr mb cm m5 wx)∧Hid (RanR m5 nx wr (doM m4 11 a c n value)))
 case rest=>
  exact HK.out _ _ _ _ _ _ _ _ _ _ _ _ _ _ _ _ _ _ _ _ _ _ _ _ _ _ _ _ _ _ _ _ _ _ _ _ _ _ _ _ _ _ _ _ _ _ _ _ _ _ _ _ _ _ _ _ _ _ _ _ _ _ _ _ _ _ _ _ _ _ _ _ _ _ _ _ _ _ _ _ _ _ _ _ _ _ _ _ _ _ _ _ _ _ _ _ _ _ _ _ _ _ _ _ _ _ _ _ _ _ _ _ _ _ _ _ _ _ _ _ _ _ _ _ _ _ _ _ _ _ _ _ _ _ _ _ _ _ _ _ _ _ _ _ _ _ _ _ _ _ _ _ _ _ _ _ _ _ _ _ _ _ _ _ _ _ _ _ _ _ _ _ _ _ _ _ _ _ _ _ _ _ _ _ _ _ _ _ _ _ _ _ _ _ _ _ _ _ _ _ _ _ _ _ _ _ _ _ _ _ _ _ hcut
 case first=>
  clear HK
  have hn1:=hnn.1
  have hn2:=hnn.2
  have HSML:=Lib.hid hsm
  have hpc:=HOK4.out.pc
  have wra:=HOK4.out.wreg a
  have wrc:=HOK4.out.wreg c
  unfold WordZ at wra wrc
  have ha':(a:Int)<8:=by omega
  have hc':(c:Int)<8:=by omega
  clear hsm
  have q0:wz.cell? ⟨ib,0,none⟩=some (.int .i64 11):=zaa hib 0
  have q1:wz.cell? ⟨ib,1,none⟩=some (.int .i64 a):=zaa hib 1
  have q2:wz.cell? ⟨ib,2,none⟩=some (.int .i64 c):=zaa hib 2
  have q3:wz.cell? ⟨ib,3,none⟩=some (.int .i64 n):=zaa hib 3
  have k0:wz.cell? ⟨bb,0,none⟩=some (.slice (some ⟨gr,0,none⟩) 8 cr):=zaa HZ.out.box 0
  have k1:wz.cell? ⟨bb,1,none⟩=some (.int .i64 m4.pc):=zaa HZ.out.box 1
  have ra:=HZ.out.reg_at ha
  have rc:=HZ.out.reg_at hc8
  have lbb:=HZ.out.blt
  have lgr:=HZ.out.rlt
  have lib:=(Array.getElem?_eq_some_iff.1 hib).1
  have wpc:IntKind.i64.wrap (m4.pc+1)=m4.pc+1:=IntWalk.i64_in _ (by omega)
  have n1b:¬ib=bb:=hne.1
  have n2b:¬ib=gr:=hne.2
  have n3b:¬bb=ib:=fun e=>hne.1 e.symm
  have n4b:¬gr=ib:=fun e=>hne.2 e.symm
  have hne1:¬gr=bb:=HZ.out.grb
  have hne2:¬bb=gr:=fun e=>HZ.out.grb e.symm
  clear hib hne
  have HRN:=Lib.hid (show -4398046511104≤m4.pc+1∧m4.pc+1≤4398046511104 by omega)
  have fra:wz.frozen? ⟨gr,a,none⟩=false:=HZ.out.regs.frozenAt a
  have HDO:Hid (doM m4 11 a c n value=if n=3 then ((({m4 with out:=if m4.out.length<200 then m4.out++[m4.reg a] else m4.out}:Mach)).goTo (m4.pc+1),0,-1) else if n=4∧0≤m4.reg a∧m4.reg a<16 then ((if m4.want<0 then ({m4 with want:=m4.reg a,ready:=0}:Mach) else m4).goTo (m4.pc+1),0,-1) else (m4,3,-1)):=Lib.hid rfl
  by_cases h3:n=3
  ·
   subst h3
   have k9:wz.cell? ⟨bb,9,none⟩=some (.slice ao m4.out.length co):=zaa HZ.out.box 9
   have f9:=zab HZ.out.box 9
   by_cases ht:m4.out.length<200
   ·
    have HD2:Hid (doM m4 11 a c 3 value=((({m4 with out:=m4.out++[m4.reg a]}:Mach)).goTo (m4.pc+1),0,-1)):=Lib.hid (by rw[HDO.out,if_pos rfl,if_pos ht])
    have hti:(m4.out.length:Int)<200:=by omega
    have HTL:=Lib.hid ht
    have HONE:=Lib.hid HZ.out.one
    have HGA:=Lib.hid (fun O=>HZ.out.alloc O)
    clear ht HDO
    generalize hzz:m4.reg a=z at *
    have HZZ:=Lib.hid hzz
    clear hzz
    go_wp2_with (at_builtin;go_loud (refine zbm _ rfl (.tmp 261) (.tmp 263) 24 rfl 0 3 (.int .i64 0) 8 Tryd.underlying24 zbh rfl (.slice ao m4.out.length co) m4.out.length (m4.out.map (Value.int .i64)) rfl (HGA.out _).out (.slice (some ⟨_,0,none⟩) 1 1) 1 _ [.int .i64 z] rfl (zhj _ _ z (by simp)) (by simp[Value.oneCell']) (by have:=HTL.out;simp;unfold maxLen;omega) (by have:=HTL.out;simp;omega) (Nat.zero_le _) ?_);intro a5 c5 w5 hown5 hgrow5 hat5;have HX:=ZSt.tell (HGA.out _) hgrow5 hown5 hat5;have hb5:=(hgrow5.block bb (HGA.out _).blt (fun e=>HONE.out e.symm)).trans (HGA.out _).box;have f9':=zab hb5 9;have c9':w5.cell? ⟨bb,9,none⟩=some (.slice ao m4.out.length co):=zaa hb5 9;have lc5:bb<w5.heap.size:=(Array.getElem?_eq_some_iff.1 hb5).1;have HXX:=Lib.hid HX;have e1:m4.out.length+[Value.int IntKind.i64 z].length=m4.out.length+1:=rfl;clear hown5 hgrow5 hat5 HX hb5)
    go_meet
    case rel=>exact⟨{m4 with out:=m4.out++[z]},m4.pc+1,-1,rfl,rfl,HRN,Lib.hid (HXX.out).zs,Lib.hid (Or.inl ⟨HF4.out,HD2.out⟩)⟩
   ·
    have HD2:Hid (doM m4 11 a c 3 value=(m4.goTo (m4.pc+1),0,-1)):=Lib.hid (by rw[HDO.out,if_pos rfl,if_neg ht])
    have hti:¬(m4.out.length:Int)<200:=by omega
    go_wp2_with fail
    go_meet
    case rel=>exact⟨m4,m4.pc+1,-1,rfl,rfl,HRN,Lib.hid (HZ.out).zs,Lib.hid (Or.inl ⟨HF4.out,HD2.out⟩)⟩
  ·
   have e3:(n == 3)=false:=by rw[beq_eq_false_iff_ne];exact h3
   by_cases h4:n=4
   ·
    subst h4
    by_cases hr:0≤m4.reg a∧m4.reg a≤15
    ·
     have HJ:=Lib.hid (fun w=>za0 (m4.reg a) 0 15 w hr)
     have k11:wz.cell? ⟨bb,11,none⟩=some (.int .i64 m4.want):=zaa HZ.out.box 11
     have f11:=zab HZ.out.box 11
     have k10:wz.cell? ⟨bb,10,none⟩=some (.int .i64 m4.ready):=zaa HZ.out.box 10
     have f10:=zab HZ.out.box 10
     have hw1:=HOK4.out.want
     by_cases hw:m4.want<0
     ·
      have hwe:m4.want = -1:=by omega
      have HD2:Hid (doM m4 11 a c 4 value=((({m4 with want:=m4.reg a,ready:=0}:Mach)).goTo (m4.pc+1),0,-1)):=Lib.hid (by rw[HDO.out,if_neg (by decide),if_pos ⟨rfl,hr.1,by omega⟩,if_pos hw])
      rw[hwe] at k11
      have HWE:=Lib.hid hwe
      clear hw hwe hr HDO hw1
      go_wp2_with (go_at_call 13;refine(HJ.out _).mono ?_;rintro e w' ⟨rfl,rfl⟩)
      go_meet
      case rel=>exact⟨{m4 with want:=m4.reg a,ready:=0},m4.pc+1,-1,rfl,rfl,HRN,Lib.hid ((HZ.out.put 11 (.int .i64 (m4.reg a)) {m4 with want:=m4.reg a} rfl rfl rfl rfl).put 10 (.int .i64 0) {m4 with want:=m4.reg a,ready:=0} rfl rfl rfl rfl).zs,Lib.hid (Or.inl ⟨HF4.out,HD2.out⟩)⟩
     ·
      have hwe:(m4.want == -1)=false:=by rw[beq_eq_false_iff_ne];omega
      have HD2:Hid (doM m4 11 a c 4 value=(m4.goTo (m4.pc+1),0,-1)):=Lib.hid (by rw[HDO.out,if_neg (by decide),if_pos ⟨rfl,hr.1,by omega⟩,if_neg hw])
      clear hw hr HDO hw1
      go_wp2_with (go_at_call 13;refine(HJ.out _).mono ?_;rintro e w' ⟨rfl,rfl⟩)
      go_meet
      case rel=>exact⟨m4,m4.pc+1,-1,rfl,rfl,HRN,Lib.hid (HZ.out).zs,Lib.hid (Or.inl ⟨HF4.out,HD2.out⟩)⟩
    ·
     have HJ:=Lib.hid (fun w=>zcw (m4.reg a) 0 15 w hr)
     have HD2:Hid (doM m4 11 a c 4 value=(m4,3,-1)):=Lib.hid (by rw[HDO.out,if_neg (by decide),if_neg (fun h=>hr ⟨h.2.1,by omega⟩)])
     clear hr HDO
     have k7:wz.cell? ⟨bb,7,none⟩=some (.int .i64 m4.fin):=zaa HZ.out.box 7
     have f7:=zab HZ.out.box 7
     go_wp2_with (go_at_call 13;refine(HJ.out _).mono ?_;rintro e w' ⟨rfl,rfl⟩)
     go_meet
     case rel=>exact⟨{m4 with fin:=3},m4.pc+1,-1,rfl,rfl,HRN,Lib.hid (HZ.out.put 7 (.int .i64 3) {m4 with fin:=3} rfl rfl rfl rfl).zs,Lib.hid (RanR.bad HF4.out (e:=3) (by decide) _ HD2.out)⟩
   ·
    have e4:(n == 4)=false:=by rw[beq_eq_false_iff_ne];exact h4
    have HD2:Hid (doM m4 11 a c n value=(m4,3,-1)):=Lib.hid (by rw[HDO.out,if_neg h3,if_neg (fun h=>h4 h.1)])
    clear h3 h4 HDO
    have k7:wz.cell? ⟨bb,7,none⟩=some (.int .i64 m4.fin):=zaa HZ.out.box 7
    have f7:=zab HZ.out.box 7
    go_wp2_with fail
    go_meet
    case rel=>exact⟨{m4 with fin:=3},m4.pc+1,-1,rfl,rfl,HRN,Lib.hid (HZ.out.put 7 (.int .i64 3) {m4 with fin:=3} rfl rfl rfl rfl).zs,Lib.hid (RanR.bad HF4.out (e:=3) (by decide) _ HD2.out)⟩
end Go.Proofs.YtflonfcemlfbdaaDoor
