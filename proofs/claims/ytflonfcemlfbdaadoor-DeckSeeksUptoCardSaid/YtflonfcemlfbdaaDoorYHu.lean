/- Pieces of Space.Store: the calls. No condition beyond the readings. -/
import Derived.Test.YtflonfcemlfbdaaDoorYHp
import Derived.Handy
import Derived.StillTailTactics
import Derived.Deep.RegionWith
import Derived.Deep.RegionLaw
import Derived.Deep.CutBlock
import Derived.Deep.CutRange
import Derived.Deep.RegionHeld3
import Derived.Deep.LoopGhost
namespace Go.Proofs.YtflonfcemlfbdaaDoor
open Go Go.RowKit Go.ChangeShapes Go.WideShapes Go.Deep
set_option maxHeartbeats 8000000
set_option maxRecDepth 100000
set_option linter.unusedVariables false
attribute [local go_sem ↓] Go.wp_at_zero Go.wp_at_succ
theorem zky{wz wq w2:World}{rs2:List (List Int)}{zs2:List Int}{ad2 ar2:Option Addr}{cd2 cr2:Nat}{vs2:List Value}{i:Int}(hq:Below wz.heap.size wz wq)(ho:FrOwn wq.heap.size w2 (.slice ad2 rs2.length cd2) (.slice ar2 zs2.length cr2) rs2 zs2 vs2)(hb:Below wq.heap.size wq w2):∃(fb:Nat) (ad3 ar3:Option Addr) (cd3 cr3:Nat) (vs3:List Value),Value.pointer (some ⟨w2.heap.size,0,none⟩)=.pointer (some ⟨fb,0,none⟩)∧Value.int .i64 i=.int .i64 i∧Value.int .i64 0=.int .i64 0∧Hid ((w2.alloc (.cells #[.slice ad2 rs2.length cd2,.slice ar2 zs2.length cr2] 60 (0,0))).heap[fb]?=some (.cells #[.slice ad3 rs2.length cd3,.slice ar3 zs2.length cr3] 60 (0,0)))∧Hid (FrOwn wz.heap.size (w2.alloc (.cells #[.slice ad2 rs2.length cd2,.slice ar2 zs2.length cr2] 60 (0,0))) (.slice ad3 rs2.length cd3) (.slice ar3 zs2.length cr3) rs2 zs2 vs3)∧Hid (Below wz.heap.size wz (w2.alloc (.cells #[.slice ad2 rs2.length cd2,.slice ar2 zs2.length cr2] 60 (0,0)))):=by
 have hw:=hq.trans (hb.mono hq.size)
 exact⟨_,ad2,ar2,cd2,cr2,vs2,rfl,rfl,rfl,Lib.hid (alloc_at rfl),Lib.hid ((zbv ho (zai _ _)).base hq.size),Lib.hid (hw.alloc hw.size _)⟩
theorem zkz{wz wq w2:World}{rs2:List (List Int)}{zs2:List Int}{ad2 ar2:Option Addr}{cd2 cr2:Nat}{vs2:List Value}{i:Int}(hq:Below wz.heap.size wz wq)(ho:FrOwn wq.heap.size w2 (.slice ad2 rs2.length cd2) (.slice ar2 zs2.length cr2) rs2 zs2 vs2)(hb:Below wq.heap.size wq w2)(hx:w2.heap[wz.heap.size]?=some (.cells #[.slice none 0 0,.slice none 0 0] 60 (0,0))):∃(fb:Nat) (ad3 ar3:Option Addr) (cd3 cr3:Nat) (vs3:List Value),Value.pointer (some ⟨wz.heap.size,0,none⟩)=.pointer (some ⟨fb,0,none⟩)∧Value.int .i64 i=.int .i64 i∧Value.int .i64 0=.int .i64 0∧Hid (((w2.setCell ⟨wz.heap.size,0,none⟩ (.slice ad2 rs2.length cd2)).setCell ⟨wz.heap.size,1,none⟩ (.slice ar2 zs2.length cr2)).heap[fb]?=some (.cells #[.slice ad3 rs2.length cd3,.slice ar3 zs2.length cr3] 60 (0,0)))∧Hid (FrOwn wz.heap.size ((w2.setCell ⟨wz.heap.size,0,none⟩ (.slice ad2 rs2.length cd2)).setCell ⟨wz.heap.size,1,none⟩ (.slice ar2 zs2.length cr2)) (.slice ad3 rs2.length cd3) (.slice ar3 zs2.length cr3) rs2 zs2 vs3)∧Hid (Below wz.heap.size wz ((w2.setCell ⟨wz.heap.size,0,none⟩ (.slice ad2 rs2.length cd2)).setCell ⟨wz.heap.size,1,none⟩ (.slice ar2 zs2.length cr2))):=by
 have hw:=hq.trans (hb.mono hq.size)
 have h1:(w2.setCell ⟨wz.heap.size,0,none⟩ (.slice ad2 rs2.length cd2)).heap[wz.heap.size]?=some (.cells #[.slice ad2 rs2.length cd2,.slice none 0 0] 60 (0,0)):=zaf hx _
 exact⟨_,ad2,ar2,cd2,cr2,vs2,rfl,rfl,rfl,Lib.hid (zaf h1 _),Lib.hid (((ho.base hq.size).set hx (by decide) (by decide)).set h1 (by decide) (by decide)),Lib.hid ((hw.setCell (Nat.le_refl _) _).setCell (Nat.le_refl _) _)⟩
theorem zkA{wz wq w2:World}{O:Obj}(hq:Below wz.heap.size wz wq)(hb:Below wq.heap.size wq w2):Value.int .i64 7=.int .i64 7∧Hid (Below wz.heap.size wz (w2.alloc O)):=by
 have hw:=hq.trans (hb.mono hq.size)
 exact⟨rfl,Lib.hid (hw.alloc hw.size _)⟩
theorem zkB{wz wq w2:World}{u1 u2:Value}(hq:Below wz.heap.size wz wq)(hb:Below wq.heap.size wq w2):Value.int .i64 7=.int .i64 7∧Hid (Below wz.heap.size wz ((w2.setCell ⟨wz.heap.size,0,none⟩ u1).setCell ⟨wz.heap.size,1,none⟩ u2)):=by
 have hw:=hq.trans (hb.mono hq.size)
 exact⟨rfl,Lib.hid ((hw.setCell (Nat.le_refl _) _).setCell (Nat.le_refl _) _)⟩
theorem zkC{K2:Act→World→Prop}{Q0:Ending→World→Prop}{sb hb p nd nr:Nat}{ad ar:Option Addr}{cd cr:Nat}{fl:Int}{pg:List Int}{wz:World}{rs2:List (List Int)}{zs2:List Int}{i:Int}{K:Act→World→Prop}{x1 x2 x3 x4 x5 x6 x8 x9 x10 x11 x12 x13 x14 x15 x16 x17 x18 x19 x20 x21 x22 x23 x24 x25 x26 x27 x28 x29 x30 x31 x32 x33 x34 x35 x36 x37 x38 x39 x40 x41 x42 x43 x44 x45 x46 x47 x48 x49 x50 x51 x52 x53 x54 x55 x56 x57 x58 x59 x60 x61 x62 x63 x64 x65 x66 x67 x68 x69 x70 x71 x72 x73 x74 x75 x76 x77 x78 x79 x80 x81 x82 x83 x84 x85 x86 x87 x88 x89 x90 x91 x92 x93 x94 x95 x96 x97 x98 x99:Value}(HB:Hid (wz.heap[hb]?=some (.cells #[.slice ad nd cd,.slice ar nr cr] 64 (0,0))))(HS:Hid (SpcS sb hb pg fl wz))(hl:pg.length=16)(hp:p<16)(HC:Hid (∀W,Below wz.heap.size wz W→Calls Tryd.prog 55 #[.agg #[.slice ad nd cd,.slice ar nr cr]] W (zdi W i rs2 zs2)))(hK:∀(y14 y15 y16 y17 y18 y19 y20 y21 y22 y23 y24 y25 y26 y27 y28 y29 y30 y31 y32 y33 y34 y35 y36 y37 y38 y39 y40 y41 y42 y43 y44 y45 y46 y47 y48 y49 y50 y51 y52 y53 y54 y55 y56 y57 y58 y59 y60 y61 y62 y63 y64 y65 y66 y67 y68 y69 y70 y71 y72 y73 y74 y75 y76 y77 y78 y79 y80 y81 y82 y83 y84 y85 y86 y87 y88 y89 y90 y91 y92 y93 y94 y95 y96 y97 y98 y99:Value) (s8 s9 s10:Value) (wx:World),(∃(fb:Nat) (ad2 ar2:Option Addr) (cd2 cr2:Nat) (vs2:List Value),s8=.pointer (some ⟨fb,0,none⟩)∧s9=.int .i64 i∧s10=.int .i64 0∧Hid (wx.heap[fb]?=some (.cells #[.slice ad2 rs2.length cd2,.slice ar2 zs2.length cr2] 60 (0,0)))∧Hid (FrOwn wz.heap.size wx (.slice ad2 rs2.length cd2) (.slice ar2 zs2.length cr2) rs2 zs2 vs2)∧Hid (Below wz.heap.size wz wx))→K ⟨List.toArray (.pointer (some ⟨sb,0,none⟩)::x1::x2::x3::x4::x5::x6 :: .int .i64 (p:Int)::s8::s9::s10::x11::x12::x13::y14::y15::y16::y17::y18::y19::y20::y21::y22::y23::y24::y25::y26::y27::y28::y29::y30::y31::y32::y33::y34::y35::y36::y37::y38::y39::y40::y41::y42::y43::y44::y45::y46::y47::y48::y49::y50::y51::y52::y53::y54::y55::y56::y57::y58::y59::y60::y61::y62::y63::y64::y65::y66::y67::y68::y69::y70::y71::y72::y73::y74::y75::y76::y77::y78::y79::y80::y81::y82::y83::y84::y85::y86::y87::y88::y89::y90::y91::y92::y93::y94::y95::y96::y97::y98::y99::[]),[]⟩ wx):(zdl [1,1,1,0,1,0,0]).wp Tryd.prog (Exit.then K (Exit.then K2 (bodyPost Tryd.prog Tryd.f34 Q0))) ⟨List.toArray (.pointer (some ⟨sb,0,none⟩)::x1::x2::x3::x4::x5::x6 :: .int .i64 (p:Int)::x8::x9::x10::x11::x12::x13::x14::x15::x16::x17::x18::x19::x20::x21::x22::x23::x24::x25::x26::x27::x28::x29::x30::x31::x32::x33::x34::x35::x36::x37::x38::x39::x40::x41::x42::x43::x44::x45::x46::x47::x48::x49::x50::x51::x52::x53::x54::x55::x56::x57::x58::x59::x60::x61::x62::x63::x64::x65::x66::x67::x68::x69::x70::x71::x72::x73::x74::x75::x76::x77::x78::x79::x80::x81::x82::x83::x84::x85::x86::x87::x88::x89::x90::x91::x92::x93::x94::x95::x96::x97::x98::x99::[]),[]⟩ wz:=by
 have HK:=Lib.hid hK
 clear hK
 conv=>arg 2;whnf
 go_cut [8,9,10] from 14 (fun s8 s9 s10 wx =>∃(fb:Nat) (ad2 ar2:Option Addr) (cd2 cr2:Nat) (vs2:List Value),s8=.pointer (some ⟨fb,0,none⟩)∧s9=.int .i64 i∧s10=.int .i64 0∧Hid (wx.heap[fb]?=some (.cells #[.slice ad2 rs2.length cd2,.slice ar2 zs2.length cr2] 60 (0,0)))∧Hid (FrOwn wz.heap.size wx (.slice ad2 rs2.length cd2) (.slice ar2 zs2.length cr2) rs2 zs2 vs2)∧Hid (Below wz.heap.size wz wx))
 case rest=>
  exact HK.out _ _ _ _ _ _ _ _ _ _ _ _ _ _ _ _ _ _ _ _ _ _ _ _ _ _ _ _ _ _ _ _ _ _ _ _ _ _ _ _ _ _ _ _ _ _ _ _ _ _ _ _ _ _ _ _ _ _ _ _ _ _ _ _ _ _ _ _ _ _ _ _ _ _ _ _ _ _ _ _ _ _ _ _ _ _ _ _ _ _ hcut
 case first=>
  clear HK
  have c0:=zaW HS.out
  have l1:=zaG HS.out
  have b0:wz.cell? ⟨hb,0,none⟩=some (.slice ad nd cd):=zaa HB.out 0
  have b1:wz.cell? ⟨hb,1,none⟩=some (.slice ar nr cr):=zaa HB.out 1
  have lh:hb<wz.heap.size:=(Array.getElem?_eq_some_iff.1 HB.out).1
  have hpi:(p:Int)<16:=by omega
  have hp0:(0:Int)≤(p:Int):=by omega
  go_wp2_with fail
  refine(HC.out _ (Below.refl _ _)).mono ?_
  rintro e w2 ⟨ad2,cd2,ar2,cr2,vs2,rfl,hown,hb2⟩
  have HOWN:=Lib.hid hown
  have HB2:=Lib.hid hb2
  have hs2:=hb2.size
  clear hown hb2
  go_wp2_with fail
  go_meet
  exact⟨_,ad2,ar2,cd2,cr2,vs2,rfl,rfl,rfl,Lib.hid (alloc_at rfl),Lib.hid (zbv HOWN.out (zai _ _)),Lib.hid (HB2.out.alloc hs2 _)⟩
theorem zkD{K2:Act→World→Prop}{Q0:Ending→World→Prop}{sb hb p nd nr:Nat}{ad ar:Option Addr}{cd cr:Nat}{fl:Int}{pg:List Int}{wz:World}{K:Act→World→Prop}{x1 x2 x3 x4 x5 x6 x8 x9 x10 x11 x12 x13 x14 x15 x16 x17 x18 x19 x20 x21 x22 x23 x24 x25 x26 x27 x28 x29 x30 x31 x32 x33 x34 x35 x36 x37 x38 x39 x40 x41 x42 x43 x44 x45 x46 x47 x48 x49 x50 x51 x52 x53 x54 x55 x56 x57 x58 x59 x60 x61 x62 x63 x64 x65 x66 x67 x68 x69 x70 x71 x72 x73 x74 x75 x76 x77 x78 x79 x80 x81 x82 x83 x84 x85 x86 x87 x88 x89 x90 x91 x92 x93 x94 x95 x96 x97 x98 x99:Value}(HB:Hid (wz.heap[hb]?=some (.cells #[.slice ad nd cd,.slice ar nr cr] 64 (0,0))))(HS:Hid (SpcS sb hb pg fl wz))(hl:pg.length=16)(hp:p<16)(HC:Hid (∀W,Below wz.heap.size wz W→Calls Tryd.prog 55 #[.agg #[.slice ad nd cd,.slice ar nr cr]] W (ziP W 7)))(hK:∀(y14 y15 y16 y17 y18 y19 y20 y21 y22 y23 y24 y25 y26 y27 y28 y29 y30 y31 y32 y33 y34 y35 y36 y37 y38 y39 y40 y41 y42 y43 y44 y45 y46 y47 y48 y49 y50 y51 y52 y53 y54 y55 y56 y57 y58 y59 y60 y61 y62 y63 y64 y65 y66 y67 y68 y69 y70 y71 y72 y73 y74 y75 y76 y77 y78 y79 y80 y81 y82 y83 y84 y85 y86 y87 y88 y89 y90 y91 y92 y93 y94 y95 y96 y97 y98 y99:Value) (s8 s9 s10:Value) (wx:World),(s10=.int .i64 7∧Hid (Below wz.heap.size wz wx))→K ⟨List.toArray (.pointer (some ⟨sb,0,none⟩)::x1::x2::x3::x4::x5::x6 :: .int .i64 (p:Int)::s8::s9::s10::x11::x12::x13::y14::y15::y16::y17::y18::y19::y20::y21::y22::y23::y24::y25::y26::y27::y28::y29::y30::y31::y32::y33::y34::y35::y36::y37::y38::y39::y40::y41::y42::y43::y44::y45::y46::y47::y48::y49::y50::y51::y52::y53::y54::y55::y56::y57::y58::y59::y60::y61::y62::y63::y64::y65::y66::y67::y68::y69::y70::y71::y72::y73::y74::y75::y76::y77::y78::y79::y80::y81::y82::y83::y84::y85::y86::y87::y88::y89::y90::y91::y92::y93::y94::y95::y96::y97::y98::y99::[]),[]⟩ wx):(zdl [1,1,1,0,1,0,0]).wp Tryd.prog (Exit.then K (Exit.then K2 (bodyPost Tryd.prog Tryd.f34 Q0))) ⟨List.toArray (.pointer (some ⟨sb,0,none⟩)::x1::x2::x3::x4::x5::x6 :: .int .i64 (p:Int)::x8::x9::x10::x11::x12::x13::x14::x15::x16::x17::x18::x19::x20::x21::x22::x23::x24::x25::x26::x27::x28::x29::x30::x31::x32::x33::x34::x35::x36::x37::x38::x39::x40::x41::x42::x43::x44::x45::x46::x47::x48::x49::x50::x51::x52::x53::x54::x55::x56::x57::x58::x59::x60::x61::x62::x63::x64::x65::x66::x67::x68::x69::x70::x71::x72::x73::x74::x75::x76::x77::x78::x79::x80::x81::x82::x83::x84::x85::x86::x87::x88::x89::x90::x91::x92::x93::x94::x95::x96::x97::x98::x99::[]),[]⟩ wz:=by
 have HK:=Lib.hid hK
 clear hK
 conv=>arg 2;whnf
 go_cut [8,9,10] from 14 (fun s8 s9 s10 wx=>s10=.int .i64 7∧Hid (Below wz.heap.size wz wx))
 case rest=>
  exact HK.out _ _ _ _ _ _ _ _ _ _ _ _ _ _ _ _ _ _ _ _ _ _ _ _ _ _ _ _ _ _ _ _ _ _ _ _ _ _ _ _ _ _ _ _ _ _ _ _ _ _ _ _ _ _ _ _ _ _ _ _ _ _ _ _ _ _ _ _ _ _ _ _ _ _ _ _ _ _ _ _ _ _ _ _ _ _ _ _ _ _ hcut
 case first=>
  clear HK
  have c0:=zaW HS.out
  have l1:=zaG HS.out
  have b0:wz.cell? ⟨hb,0,none⟩=some (.slice ad nd cd):=zaa HB.out 0
  have b1:wz.cell? ⟨hb,1,none⟩=some (.slice ar nr cr):=zaa HB.out 1
  have lh:hb<wz.heap.size:=(Array.getElem?_eq_some_iff.1 HB.out).1
  have hpi:(p:Int)<16:=by omega
  have hp0:(0:Int)≤(p:Int):=by omega
  go_wp2_with fail
  refine(HC.out _ (Below.refl _ _)).mono ?_
  rintro e w2 ⟨rfl,hb2⟩
  have HB2:=Lib.hid hb2
  have hs2:=hb2.size
  clear hb2
  go_wp2_with fail
  go_meet
  exact⟨rfl,Lib.hid (HB2.out.alloc hs2 _)⟩
theorem zhN{Q0:Ending→World→Prop}{sb hb p nd nr:Nat}{ad ar:Option Addr}{cd cr:Nat}{fl:Int}{pg:List Int}{wz:World}{rs2:List (List Int)}{zs2:List Int}{i:Int}{j:Nat}{n v a:Int}{K:Act→World→Prop}{x3 x4 x5 x6 x8 x9 x10 x11 x12 x13 x14 x15 x16 x17 x18 x19 x20 x21 x22 x23 x24 x25 x26 x27 x28 x29 x30 x31 x32 x33 x34 x35 x36 x37 x38 x39 x40 x41 x42 x43 x44 x45 x46 x47 x48 x49 x50 x51 x52 x53 x54 x55 x56 x57 x58 x59 x60 x61 x62 x63 x64 x65 x66 x67 x68 x69 x70 x71 x72 x73 x74 x75 x76 x77 x78 x79 x80 x81 x82 x83 x84 x85 x86 x87 x88 x89 x90 x91 x92 x93 x94 x95 x96 x97 x98 x99:Value}(HB:Hid (wz.heap[hb]?=some (.cells #[.slice ad nd cd,.slice ar nr cr] 64 (0,0))))(HS:Hid (SpcS sb hb pg fl wz))(hl:pg.length=16)(hp:p<16)(HC:Hid (∀W,Below wz.heap.size wz W→Calls Tryd.prog 56 #[.agg #[.slice ad nd cd,.slice ar nr cr],.int .i64 n,.int .i64 (j:Int),.int .i64 v] W (zdi W i rs2 zs2)))(HN:Hid (pg.getD p (-1)=n))(hj:j<16)(HA:Hid (a=((16*p+j:Nat):Int)))(hK:∀(y14 y15 y16 y17 y18 y19 y20 y21 y22 y23 y24 y25 y26 y27 y28 y29 y30 y31 y32 y33 y34 y35 y36 y37 y38 y39 y40 y41 y42 y43 y44 y45 y46 y47 y48 y49 y50 y51 y52 y53 y54 y55 y56 y57 y58 y59 y60 y61 y62 y63 y64 y65 y66 y67 y68 y69 y70 y71 y72 y73 y74 y75 y76 y77 y78 y79 y80 y81 y82 y83 y84 y85 y86 y87 y88 y89 y90 y91 y92 y93 y94 y95 y96 y97 y98 y99:Value) (s11 s12 s13:Value) (wx:World),(∃(fb:Nat) (ad2 ar2:Option Addr) (cd2 cr2:Nat) (vs2:List Value),s11=.pointer (some ⟨fb,0,none⟩)∧s12=.int .i64 i∧s13=.int .i64 0∧Hid (wx.heap[fb]?=some (.cells #[.slice ad2 rs2.length cd2,.slice ar2 zs2.length cr2] 60 (0,0)))∧Hid (FrOwn wz.heap.size wx (.slice ad2 rs2.length cd2) (.slice ar2 zs2.length cr2) rs2 zs2 vs2)∧Hid (Below wz.heap.size wz wx))→K ⟨List.toArray (.pointer (some ⟨sb,0,none⟩) :: .int .i64 a :: .int .i64 v::x3::x4::x5::x6 :: .int .i64 (p:Int)::x8::x9::x10::s11::s12::s13::y14::y15::y16::y17::y18::y19::y20::y21::y22::y23::y24::y25::y26::y27::y28::y29::y30::y31::y32::y33::y34::y35::y36::y37::y38::y39::y40::y41::y42::y43::y44::y45::y46::y47::y48::y49::y50::y51::y52::y53::y54::y55::y56::y57::y58::y59::y60::y61::y62::y63::y64::y65::y66::y67::y68::y69::y70::y71::y72::y73::y74::y75::y76::y77::y78::y79::y80::y81::y82::y83::y84::y85::y86::y87::y88::y89::y90::y91::y92::y93::y94::y95::y96::y97::y98::y99::[]),[]⟩ wx):(zdl [1,1,1,1,0]).wp Tryd.prog (Exit.then K (bodyPost Tryd.prog Tryd.f34 Q0)) ⟨List.toArray (.pointer (some ⟨sb,0,none⟩) :: .int .i64 a :: .int .i64 v::x3::x4::x5::x6 :: .int .i64 (p:Int)::x8::x9::x10::x11::x12::x13::x14::x15::x16::x17::x18::x19::x20::x21::x22::x23::x24::x25::x26::x27::x28::x29::x30::x31::x32::x33::x34::x35::x36::x37::x38::x39::x40::x41::x42::x43::x44::x45::x46::x47::x48::x49::x50::x51::x52::x53::x54::x55::x56::x57::x58::x59::x60::x61::x62::x63::x64::x65::x66::x67::x68::x69::x70::x71::x72::x73::x74::x75::x76::x77::x78::x79::x80::x81::x82::x83::x84::x85::x86::x87::x88::x89::x90::x91::x92::x93::x94::x95::x96::x97::x98::x99::[]),[]⟩ wz:=by
 have HK:=Lib.hid hK
 clear hK
 conv=>arg 2;whnf
 go_cut [11,12,13] from 14 (fun s11 s12 s13 wx =>∃(fb:Nat) (ad2 ar2:Option Addr) (cd2 cr2:Nat) (vs2:List Value),s11=.pointer (some ⟨fb,0,none⟩)∧s12=.int .i64 i∧s13=.int .i64 0∧Hid (wx.heap[fb]?=some (.cells #[.slice ad2 rs2.length cd2,.slice ar2 zs2.length cr2] 60 (0,0)))∧Hid (FrOwn wz.heap.size wx (.slice ad2 rs2.length cd2) (.slice ar2 zs2.length cr2) rs2 zs2 vs2)∧Hid (Below wz.heap.size wz wx))
 case rest=>
  exact HK.out _ _ _ _ _ _ _ _ _ _ _ _ _ _ _ _ _ _ _ _ _ _ _ _ _ _ _ _ _ _ _ _ _ _ _ _ _ _ _ _ _ _ _ _ _ _ _ _ _ _ _ _ _ _ _ _ _ _ _ _ _ _ _ _ _ _ _ _ _ _ _ _ _ _ _ _ _ _ _ _ _ _ _ _ _ _ _ _ _ _ hcut
 case first=>
  clear HK
  have c0:=zaW HS.out
  have l1:=zaG HS.out
  have b0:wz.cell? ⟨hb,0,none⟩=some (.slice ad nd cd):=zaa HB.out 0
  have b1:wz.cell? ⟨hb,1,none⟩=some (.slice ar nr cr):=zaa HB.out 1
  have lh:hb<wz.heap.size:=(Array.getElem?_eq_some_iff.1 HB.out).1
  have hpi:(p:Int)<16:=by omega
  have hp0:(0:Int)≤(p:Int):=by omega
  have c1:=zap HS.out hl hp
  rw[HN.out] at c1
  have hm:a.tmod 16=(j:Int):=by have:=HA.out;rw[Int.tmod_eq_emod_of_nonneg (by omega)];omega
  have hjw:IntKind.i64.wrap (j:Int)=(j:Int):=IntWalk.i64_in _ (by omega)
  go_region_with ((first|(go_at_call 56;(with_reducible refine(HC.out _ ?_).mono ?_);(first|exact Below.refl _ _|exact below_drewN (Below.refl _ _) 1);rintro e w2 ⟨ad2,cd2,ar2,cr2,vs2,rfl,hown,hb2⟩;have HOWN:=Lib.hid hown;have HB2:=Lib.hid hb2;have hs2:=hb2.size)|(go_at_call 56;(with_reducible refine(HC.out _ ?_).mono ?_);(first|exact zai _ _|exact below_drewN (zai _ _) 1);rintro e w2 ⟨ad2,cd2,ar2,cr2,vs2,rfl,hown,hb2⟩;have HOWN:=Lib.hid hown;have HB2:=Lib.hid hb2;have hs2:=hb2.size;have hx2:=zac hb2 (alloc_at (w:=wz) (o:=.cells #[.slice none 0 0,.slice none 0 0] 60 (0,0)) rfl) (by simp);have HX2:=Lib.hid hx2;have m0:w2.cell? ⟨wz.heap.size,0,none⟩=some (.slice none 0 0):=zaa hx2 0;have m1:w2.cell? ⟨wz.heap.size,1,none⟩=some (.slice none 0 0):=zaa hx2 1;have n0:=zab hx2 0;have n1:=zab hx2 1;have lx2:wz.heap.size<w2.heap.size:=(Array.getElem?_eq_some_iff.1 hx2).1;clear hx2)))
  all_goals (go_wp2_with fail;go_meet)
  all_goals (first|exact zky (Below.refl _ _) HOWN.out HB2.out|exact zky (below_drewN (Below.refl _ _) 1) HOWN.out HB2.out|exact zkz (zai _ _) HOWN.out HB2.out HX2.out|exact zkz (below_drewN (zai _ _) 1) HOWN.out HB2.out HX2.out)
theorem zjX{Q0:Ending→World→Prop}{sb hb p nd nr:Nat}{ad ar:Option Addr}{cd cr:Nat}{fl:Int}{pg:List Int}{wz:World}{j:Nat}{n v a:Int}{K:Act→World→Prop}{x3 x4 x5 x6 x8 x9 x10 x11 x12 x13 x14 x15 x16 x17 x18 x19 x20 x21 x22 x23 x24 x25 x26 x27 x28 x29 x30 x31 x32 x33 x34 x35 x36 x37 x38 x39 x40 x41 x42 x43 x44 x45 x46 x47 x48 x49 x50 x51 x52 x53 x54 x55 x56 x57 x58 x59 x60 x61 x62 x63 x64 x65 x66 x67 x68 x69 x70 x71 x72 x73 x74 x75 x76 x77 x78 x79 x80 x81 x82 x83 x84 x85 x86 x87 x88 x89 x90 x91 x92 x93 x94 x95 x96 x97 x98 x99:Value}(HB:Hid (wz.heap[hb]?=some (.cells #[.slice ad nd cd,.slice ar nr cr] 64 (0,0))))(HS:Hid (SpcS sb hb pg fl wz))(hl:pg.length=16)(hp:p<16)(HC:Hid (∀W,Below wz.heap.size wz W→Calls Tryd.prog 56 #[.agg #[.slice ad nd cd,.slice ar nr cr],.int .i64 n,.int .i64 (j:Int),.int .i64 v] W (ziP W 7)))(HN:Hid (pg.getD p (-1)=n))(hj:j<16)(HA:Hid (a=((16*p+j:Nat):Int)))(hK:∀(y14 y15 y16 y17 y18 y19 y20 y21 y22 y23 y24 y25 y26 y27 y28 y29 y30 y31 y32 y33 y34 y35 y36 y37 y38 y39 y40 y41 y42 y43 y44 y45 y46 y47 y48 y49 y50 y51 y52 y53 y54 y55 y56 y57 y58 y59 y60 y61 y62 y63 y64 y65 y66 y67 y68 y69 y70 y71 y72 y73 y74 y75 y76 y77 y78 y79 y80 y81 y82 y83 y84 y85 y86 y87 y88 y89 y90 y91 y92 y93 y94 y95 y96 y97 y98 y99:Value) (s11 s12 s13:Value) (wx:World),(s13=.int .i64 7∧Hid (Below wz.heap.size wz wx))→K ⟨List.toArray (.pointer (some ⟨sb,0,none⟩) :: .int .i64 a :: .int .i64 v::x3::x4::x5::x6 :: .int .i64 (p:Int)::x8::x9::x10::s11::s12::s13::y14::y15::y16::y17::y18::y19::y20::y21::y22::y23::y24::y25::y26::y27::y28::y29::y30::y31::y32::y33::y34::y35::y36::y37::y38::y39::y40::y41::y42::y43::y44::y45::y46::y47::y48::y49::y50::y51::y52::y53::y54::y55::y56::y57::y58::y59::y60::y61::y62::y63::y64::y65::y66::y67::y68::y69::y70::y71::y72::y73::y74::y75::y76::y77::y78::y79::y80::y81::y82::y83::y84::y85::y86::y87::y88::y89::y90::y91::y92::y93::y94::y95::y96::y97::y98::y99::[]),[]⟩ wx):(zdl [1,1,1,1,0]).wp Tryd.prog (Exit.then K (bodyPost Tryd.prog Tryd.f34 Q0)) ⟨List.toArray (.pointer (some ⟨sb,0,none⟩) :: .int .i64 a :: .int .i64 v::x3::x4::x5::x6 :: .int .i64 (p:Int)::x8::x9::x10::x11::x12::x13::x14::x15::x16::x17::x18::x19::x20::x21::x22::x23::x24::x25::x26::x27::x28::x29::x30::x31::x32::x33::x34::x35::x36::x37::x38::x39::x40::x41::x42::x43::x44::x45::x46::x47::x48::x49::x50::x51::x52::x53::x54::x55::x56::x57::x58::x59::x60::x61::x62::x63::x64::x65::x66::x67::x68::x69::x70::x71::x72::x73::x74::x75::x76::x77::x78::x79::x80::x81::x82::x83::x84::x85::x86::x87::x88::x89::x90::x91::x92::x93::x94::x95::x96::x97::x98::x99::[]),[]⟩ wz:=by
 have HK:=Lib.hid hK
 clear hK
 conv=>arg 2;whnf
 go_cut [11,12,13] from 14 (fun s11 s12 s13 wx=>s13=.int .i64 7∧Hid (Below wz.heap.size wz wx))
 case rest=>
  exact HK.out _ _ _ _ _ _ _ _ _ _ _ _ _ _ _ _ _ _ _ _ _ _ _ _ _ _ _ _ _ _ _ _ _ _ _ _ _ _ _ _ _ _ _ _ _ _ _ _ _ _ _ _ _ _ _ _ _ _ _ _ _ _ _ _ _ _ _ _ _ _ _ _ _ _ _ _ _ _ _ _ _ _ _ _ _ _ _ _ _ _ hcut
 case first=>
  clear HK
  have c0:=zaW HS.out
  have l1:=zaG HS.out
  have b0:wz.cell? ⟨hb,0,none⟩=some (.slice ad nd cd):=zaa HB.out 0
  have b1:wz.cell? ⟨hb,1,none⟩=some (.slice ar nr cr):=zaa HB.out 1
  have lh:hb<wz.heap.size:=(Array.getElem?_eq_some_iff.1 HB.out).1
  have hpi:(p:Int)<16:=by omega
  have hp0:(0:Int)≤(p:Int):=by omega
  have c1:=zap HS.out hl hp
  rw[HN.out] at c1
  have hm:a.tmod 16=(j:Int):=by have:=HA.out;rw[Int.tmod_eq_emod_of_nonneg (by omega)];omega
  have hjw:IntKind.i64.wrap (j:Int)=(j:Int):=IntWalk.i64_in _ (by omega)
  go_region_with ((first|(go_at_call 56;(with_reducible refine(HC.out _ ?_).mono ?_);(first|exact Below.refl _ _|exact below_drewN (Below.refl _ _) 1);rintro e w2 ⟨rfl,hb2⟩;have HB2:=Lib.hid hb2;have hs2:=hb2.size)|(go_at_call 56;(with_reducible refine(HC.out _ ?_).mono ?_);(first|exact zai _ _|exact below_drewN (zai _ _) 1);rintro e w2 ⟨rfl,hb2⟩;have HB2:=Lib.hid hb2;have hs2:=hb2.size;have hx2:=zac hb2 (alloc_at (w:=wz) (o:=.cells #[.slice none 0 0,.slice none 0 0] 60 (0,0)) rfl) (by simp);have HX2:=Lib.hid hx2;have m0:w2.cell? ⟨wz.heap.size,0,none⟩=some (.slice none 0 0):=zaa hx2 0;have m1:w2.cell? ⟨wz.heap.size,1,none⟩=some (.slice none 0 0):=zaa hx2 1;have n0:=zab hx2 0;have n1:=zab hx2 1;have lx2:wz.heap.size<w2.heap.size:=(Array.getElem?_eq_some_iff.1 hx2).1;clear hx2)))
  all_goals (go_wp2_with fail;go_meet)
  all_goals (first|exact zkA (Below.refl _ _) HB2.out|exact zkA (below_drewN (Below.refl _ _) 1) HB2.out|exact zkB (zai _ _) HB2.out|exact zkB (below_drewN (zai _ _) 1) HB2.out)
end Go.Proofs.YtflonfcemlfbdaaDoor
