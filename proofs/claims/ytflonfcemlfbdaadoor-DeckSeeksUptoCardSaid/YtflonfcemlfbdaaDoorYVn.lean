/- The deck's back. No condition beyond the deck's state. -/
import Derived.Test.YtflonfcemlfbdaaDoorYVk
import Derived.Test.YtflonfcemlfbdaaDoorYVm
import Derived.Handy
import Derived.StillTailTactics
import Derived.Deep.RegionWith
import Derived.Deep.RegionLaw
import Derived.Deep.CutBlock
import Derived.Deep.CutRange
import Derived.Deep.RegionHeld3
import Derived.Deep.LoopGhost
namespace Go.Proofs.YtflonfcemlfbdaaDoor
open Go Go.RowKit Go.ChangeShapes Go.WideShapes Go.Deep
set_option maxHeartbeats 8000000
set_option maxRecDepth 100000
set_option linter.unusedVariables false
attribute [local go_sem ↓] Go.wp_at_zero Go.wp_at_succ
def zkh(K:DkC)(n:Int)(e:Ending)(w':World):Prop:=(e=.returned (.int .i64 0)∧∃m j wr,DkS K m j wr w'∧(j:Int)≤n)∨(e=.returned (.int .i64 7)∧(K.N:Int)<16*(K.kp+2)∧OutF (fun g=>g=K.db) K.w1 w')
section
variable {K:DkC} {m:Mach} {i:Nat} {cb gr cr sb:Nat} {wrote:Int} {x:Bool} {vl:Value} {al:Option Addr} {nl cl:Nat} {LL:List Ev} {ao:Option Addr} {co:Nat} {F:Nat→Prop} {ap:Option Addr} {cp:Nat} {rows pts:List Pt} {w w':World}
theorem zjc(hK:DkK K)(h:Dk K m i cb gr cr sb wrote false al nl cl LL ao co F ap cp pts w)(n:Int)(hn0:0≤n)(hn1:n≤3000):Calls Tryd.prog 21 #[.pointer (some ⟨K.db,0,none⟩),.int .i64 n] w (zkh K n):=by
 have HK:=Lib.hid hK
 have HD:=Lib.hid h
 have HN:=Lib.hid (And.intro hn0 hn1)
 have hl8:pts.length≤8:=by have:=h.p.len;have:=hK.k1;omega
 have b11:w.cell? ⟨K.db,11,none⟩=some (.slice ap pts.length cp):=zaa h.p.ps.box 11
 have ld:K.db<w.heap.size:=h.p.ps.plt
 clear h hK hn0 hn1
 go_enter Tryd.func21,Tryd.ntmps21
 go_upto_block 0 with fail
 go_cut [5] from 6 to 47 (fun s5 wx =>∃b:Int,s5=.int .i64 b∧Hid (b = -1∨∃(j:Nat) (hj:j<pts.length),b=j∧pts[j].m.count≤n)∧Hid (Below w.heap.size w wx))
 case first=>
  go_wp2_with fail
  go_loopg [5,6,7,16] pts.length (fun gh s5 s6 s7 s16 wr =>∃(k:Nat) (b:Int),k≤pts.length∧gh=pts.length-k∧s16=.int .i64 k∧s5=.int .i64 b∧Hid (b = -1∨∃(j:Nat) (hj:j<pts.length),b=j∧pts[j].m.count≤n)∧Hid (Below w.heap.size w wr))
  case atStart=>exact⟨0,-1,Nat.zero_le _,by omega,rfl,rfl,Lib.hid (Or.inl rfl),Lib.hid (Below.refl _ _)⟩
  case round=>
   clear b11 ld
   obtain⟨k,b,hk,rfl,rfl,rfl,HBI,HB⟩:=hrel
   have HDR:=Lib.hid (HD.out.below HB.out)
   have b11:wr.cell? ⟨K.db,11,none⟩=some (.slice ap pts.length cp):=zaa HDR.out.p.ps.box 11
   have ld:K.db<wr.heap.size:=HDR.out.p.ps.plt
   by_cases hlt:k<pts.length
   ·
    obtain⟨rg,rfl,hrg,hcap,hcell⟩:=zdK HDR.out.p.row (by omega)
    have hll:(k:Int)<(pts.length:Int):=by omega
    have hwr:IntKind.i64.wrap ((k:Int)+1)=((k+1:Nat):Int):=by rw[IntWalk.i64_in _ (by omega)];rfl
    have hc:=hcell k hlt
    have HPK:=Lib.hid (show ∀q,pts[k]=q→q.m.count≤n→((k:Int) = -1∨∃(j:Nat) (hj:j<pts.length),(k:Int)=j∧pts[j].m.count≤n) from fun q hq hle=>Or.inr ⟨k,hlt,rfl,by rw[hq];exact hle⟩)
    have HBN:=Lib.hid (fun O=>HB.out.alloc HB.out.size O)
    unfold Pt.cells at hc
    have k0:wr.cell? ⟨rg,k*14,none⟩=_:=hc 0 _ (by omega) rfl
    have k1:wr.cell? ⟨rg,k*14+1,none⟩=_:=hc 1 _ (by omega) rfl
    have k2:wr.cell? ⟨rg,k*14+2,none⟩=_:=hc 2 _ (by omega) rfl
    have k3:wr.cell? ⟨rg,k*14+3,none⟩=_:=hc 3 _ (by omega) rfl
    have k4:wr.cell? ⟨rg,k*14+4,none⟩=_:=hc 4 _ (by omega) rfl
    have k5:wr.cell? ⟨rg,k*14+5,none⟩=_:=hc 5 _ (by omega) rfl
    have k6:wr.cell? ⟨rg,k*14+6,none⟩=_:=hc 6 _ (by omega) rfl
    have k7:wr.cell? ⟨rg,k*14+7,none⟩=_:=hc 7 _ (by omega) rfl
    have k8:wr.cell? ⟨rg,k*14+8,none⟩=_:=hc 8 _ (by omega) rfl
    have k9:wr.cell? ⟨rg,k*14+9,none⟩=_:=hc 9 _ (by omega) rfl
    have k10:wr.cell? ⟨rg,k*14+10,none⟩=_:=hc 10 _ (by omega) rfl
    have k11:wr.cell? ⟨rg,k*14+11,none⟩=_:=hc 11 _ (by omega) rfl
    have k12:wr.cell? ⟨rg,k*14+12,none⟩=_:=hc 12 _ (by omega) rfl
    have k13:wr.cell? ⟨rg,k*14+13,none⟩=_:=hc 13 _ (by omega) rfl
    have HPQ:=HPK.out _ rfl
    clear hc HPK
    have HCB:Hid (∀(j:Nat) (hj:j<pts.length),wr.cell? ⟨rg,j*14+6,none⟩=some (.int .i64 pts[j].m.count)):=Lib.hid (fun j hj=>hcell j hj 6 _ (by omega) rfl)
    have HPQ:=Lib.hid HPQ
    clear hcell
    generalize pts[k]=p at *
    rcases HBI.out with hb1|⟨j,hj,hb1,hjle⟩
    ·
     subst hb1
     by_cases hle:p.m.count≤n
     ·
      have HNEW:=Lib.hid (HPQ.out hle)
      have hle1:decide (p.m.count≤n)=true:=decide_eq_true hle
      clear hle
      generalize p.m.count=pc at *
      go_upto_region 5 with fail
      go_quiet (fail)
      go_wp2_with fail
      go_roundg (pts.length-(k+1))
      case measure=>omega
      case rel=>exact⟨k+1,k,by omega,rfl,rfl,rfl,HNEW,Lib.hid (below_drewN (HBN.out _) _)⟩
     ·
      have hle1:decide (p.m.count≤n)=false:=decide_eq_false hle
      clear hle
      generalize p.m.count=pc at *
      go_upto_region 5 with fail
      go_quiet (fail)
      go_wp2_with fail
      go_roundg (pts.length-(k+1))
      case measure=>omega
      case rel=>exact⟨k+1,-1,by omega,rfl,rfl,rfl,Lib.hid (Or.inl rfl),Lib.hid (below_drewN (HBN.out _) _)⟩
    ·
     subst hb1
     have kb:wr.cell? ⟨rg,j*14+6,none⟩=some (.int .i64 pts[j].m.count):=HCB.out j hj
     have hjl:(j:Int)<(pts.length:Int):=by omega
     have hj0:(0:Int)≤(j:Int):=by omega
     have hjn:¬(j:Int)<0:=by omega
     have hjd:decide ((j:Int)<0)=false:=decide_eq_false (by omega)
     generalize pts[j].m.count=jc at *
     by_cases hle:p.m.count≤n
     ·
      have HNEW:=Lib.hid (HPQ.out hle)
      have hle1:decide (p.m.count≤n)=true:=decide_eq_true hle
      by_cases hgt:jc<p.m.count
      ·
       have hgt1:decide (jc<p.m.count)=true:=decide_eq_true hgt
       clear hle hgt
       generalize p.m.count=pc at *
       go_upto_region 5 with fail
       go_quiet (fail)
       go_wp2_with fail
       go_roundg (pts.length-(k+1))
       case measure=>omega
       case rel=>exact⟨k+1,k,by omega,rfl,rfl,rfl,HNEW,Lib.hid (below_drewN (HBN.out _) _)⟩
      ·
       have hgt1:decide (jc<p.m.count)=false:=decide_eq_false hgt
       clear hle hgt
       generalize p.m.count=pc at *
       go_upto_region 5 with fail
       go_quiet (fail)
       go_wp2_with fail
       go_roundg (pts.length-(k+1))
       case measure=>omega
       case rel=>exact⟨k+1,j,by omega,rfl,rfl,rfl,HBI,Lib.hid (below_drewN (HBN.out _) _)⟩
     ·
      have hle1:decide (p.m.count≤n)=false:=decide_eq_false hle
      clear hle
      generalize p.m.count=pc at *
      go_upto_region 5 with fail
      go_quiet (fail)
      go_wp2_with fail
      go_roundg (pts.length-(k+1))
      case measure=>omega
      case rel=>exact⟨k+1,j,by omega,rfl,rfl,rfl,HBI,Lib.hid (below_drewN (HBN.out _) _)⟩
   ·
    have hll:¬(k:Int)<(pts.length:Int):=by omega
    go_wp2_with fail
    go_meet
    exact⟨b,rfl,HBI,HB⟩
 case rest=>
  clear b11 ld
  obtain⟨b,rfl,HBI,HB⟩:=hcut
  have HD3:=Lib.hid (HD.out.below HB.out)
  have b11:wc.cell? ⟨K.db,11,none⟩=some (.slice ap pts.length cp):=zaa HD3.out.p.ps.box 11
  have ld:K.db<wc.heap.size:=HD3.out.p.ps.plt
  rcases HBI.out with hb1|⟨j,hj,hb1,hjle⟩
  ·
   subst hb1
   have HBG:=Lib.hid (zhV HK.out HD3.out.p)
   go_wp2_with fail
   refine HBG.out.mono ?_
   rintro e w4 (⟨rfl,hs⟩|⟨rfl,h7,ho⟩)
   ·
    have HFIN:=Lib.hid (show zkh K n (.returned (.int .i64 0)) w4 from Or.inl ⟨rfl,_,0,_,hs,HN.out.1⟩)
    clear hs b11 ld HBG
    go_wp2
    go_ret
    exact HFIN.out
   ·
    have HFIN:=Lib.hid (show zkh K n (.returned (.int .i64 7)) w4 from Or.inr ⟨rfl,h7,ho⟩)
    clear h7 ho b11 ld HBG
    go_wp2
    go_ret
    exact HFIN.out
  ·
   subst hb1
   obtain⟨rg,rfl,hrg,hcap,hcell⟩:=zdK HD3.out.p.row (by omega)
   have hc:=hcell j hj
   have HPM:=Lib.hid (List.getElem_mem hj)
   have hjl:(j:Int)<(pts.length:Int):=by omega
   have hj0:(0:Int)≤(j:Int):=by omega
   have hjn:¬(j:Int)<0:=by omega
   have HLE:=Lib.hid hjle
   clear hjle hcell
   generalize pts[j]=p at *
   unfold Pt.cells at hc
   have k0:wc.cell? ⟨rg,j*14,none⟩=_:=hc 0 _ (by omega) rfl
   have k1:wc.cell? ⟨rg,j*14+1,none⟩=_:=hc 1 _ (by omega) rfl
   have k2:wc.cell? ⟨rg,j*14+2,none⟩=_:=hc 2 _ (by omega) rfl
   have k3:wc.cell? ⟨rg,j*14+3,none⟩=_:=hc 3 _ (by omega) rfl
   have k4:wc.cell? ⟨rg,j*14+4,none⟩=_:=hc 4 _ (by omega) rfl
   have k5:wc.cell? ⟨rg,j*14+5,none⟩=_:=hc 5 _ (by omega) rfl
   have k6:wc.cell? ⟨rg,j*14+6,none⟩=_:=hc 6 _ (by omega) rfl
   have k7:wc.cell? ⟨rg,j*14+7,none⟩=_:=hc 7 _ (by omega) rfl
   have k8:wc.cell? ⟨rg,j*14+8,none⟩=_:=hc 8 _ (by omega) rfl
   have k9:wc.cell? ⟨rg,j*14+9,none⟩=_:=hc 9 _ (by omega) rfl
   have k10:wc.cell? ⟨rg,j*14+10,none⟩=_:=hc 10 _ (by omega) rfl
   have k11:wc.cell? ⟨rg,j*14+11,none⟩=_:=hc 11 _ (by omega) rfl
   have k12:wc.cell? ⟨rg,j*14+12,none⟩=_:=hc 12 _ (by omega) rfl
   have k13:wc.cell? ⟨rg,j*14+13,none⟩=_:=hc 13 _ (by omega) rfl
   clear hc
   go_upto_region 11 with fail
   obtain⟨w4,hw4⟩:∃W,W=wc.alloc (.cells #[.slice (some ⟨p.gr,0,none⟩) 8 p.cr,.int .i64 p.m.pc,.int .i64 p.m.back,.bool p.m.ints,.bool p.m.wait,.int .i64 p.m.table,.int .i64 p.m.count,.int .i64 p.m.fin,.slice none 0 0,.slice p.ao p.m.out.length p.co,.int .i64 p.m.ready,.int .i64 p.m.want,.pointer (some ⟨p.sb,0,none⟩),.slice p.al p.nl p.cl] 86 (0,0)):=⟨_,rfl⟩
   have HX4:=Lib.hid (show w4.heap[wc.heap.size]?=some (.cells #[.slice (some ⟨p.gr,0,none⟩) 8 p.cr,.int .i64 p.m.pc,.int .i64 p.m.back,.bool p.m.ints,.bool p.m.wait,.int .i64 p.m.table,.int .i64 p.m.count,.int .i64 p.m.fin,.slice none 0 0,.slice p.ao p.m.out.length p.co,.int .i64 p.m.ready,.int .i64 p.m.want,.pointer (some ⟨p.sb,0,none⟩),.slice p.al p.nl p.cl] 86 (0,0)) from by rw[hw4];exact alloc_at rfl)
   have HD4:=Lib.hid (show Dk K m i cb gr cr sb wrote false al nl cl LL ao co F (some ⟨rg,0,none⟩) cp pts w4 from by rw[hw4];exact HD3.out.below (zai _ _))
   rw[←hw4]
   obtain⟨g8,hg8⟩:∃g,g=wc.heap.size:=⟨_,rfl⟩
   rw[←hg8] at HX4 ⊢
   clear hw4 hg8 k0 k1 k2 k3 k4 k5 k6 k7 k8 k9 k10 k11 k12 k13 b11 ld hjl hj0 hjn HD3
   obtain⟨pg,ho⟩:=HD4.out.p.opened HK.out
   have HFK:=Lib.hid (ho.fork0 HK.out (t:=p.spc) (List.mem_append_right _ (List.mem_map_of_mem HPM.out)) (by omega))
   have x12:w4.cell? ⟨g8,12,none⟩=some (.pointer (some ⟨p.sb,0,none⟩)):=zaa HX4.out 12
   have lg8:g8<w4.heap.size:=(Array.getElem?_eq_some_iff.1 HX4.out).1
   clear ho
   go_wp2_with fail
   refine HFK.out.mono ?_
   rintro e w5 ⟨nb,rfl,hnb,hbx,ho5⟩
   have HX5:=Lib.hid ((hbx g8 (Or.inr ⟨_,_,HX4.out⟩)).trans HX4.out)
   have HB5:=Lib.hid (show BegS K (.pointer (some ⟨cb,0,none⟩)) (.pointer (some ⟨sb,0,none⟩)) (.slice al nl cl) ([⟨nb,p.pg,p.m.mem⟩]++[⟨sb,pg,m.mem⟩]) (some ⟨rg,0,none⟩) cp pts w5.heap.size w5 from ho5.begs)
   clear x12 lg8 HFK hbx ho5 HX4
   have b9:w5.cell? ⟨K.db,9,none⟩=some (.pointer (some ⟨sb,0,none⟩)):=zaa HB5.out.box 9
   have ld:K.db<w5.heap.size:=(Array.getElem?_eq_some_iff.1 HB5.out.box).1
   have HDR:=Lib.hid (HB5.out.drop1 HK.out)
   go_wp2_with fail
   refine HDR.out.mono ?_
   rintro e w6 ⟨rfl,hbx,hB6⟩
   have HX6:=Lib.hid ((hbx g8 (Or.inr ⟨_,_,HX5.out⟩)).trans HX5.out)
   have HB6:=Lib.hid hB6
   have HPR:=Lib.hid (show PtR K w6 p from by obtain⟨rs,zs,ad,ar,cd,cr2,vs,h1,h2,h3⟩:=hB6;exact h1.pt p HPM.out)
   have HOKP:=Lib.hid (HPR.out.ok HK.out)
   clear b9 ld HDR hbx hB6 HX5 HB5
   have HBR:=Lib.hid (zeB HOKP.out (w6:=w6.drew) (gr:=p.gr) (cr:=p.cr) (ao:=p.ao) (co:=p.co) (zar HPR.out.regs (Nat.zero_le _)) (zar HPR.out.out (Nat.zero_le _)))
   have HLEN:=Lib.hid HD4.out.p.len
   have HS6:=HB6.out.box
   have d8:=zaa HS6 8
   have d9:=zaa HS6 9
   have d10:=zaa HS6 10
   have f8:=zab HS6 8
   have f9:=zab HS6 9
   have f10:=zab HS6 10
   have ld:K.db<w6.heap.size:=(Array.getElem?_eq_some_iff.1 HS6).1
   have lg6:g8<w6.heap.size:=(Array.getElem?_eq_some_iff.1 HX6.out).1
   clear HS6
   have hgd:g8≠K.db:=fun e=>by
    have h1:Ty w6 g8 86:=⟨_,_,HX6.out⟩
    have h2:Ty w6 K.db 44:=⟨_,_,HB6.out.box⟩
    rw[e] at h1
    exact absurd (zaL h1 h2) (by decide)
   have HGD:=Lib.hid hgd
   have HS0:w6.drew.cell? ⟨g8,0,none⟩=some (.slice (some ⟨p.gr,0,none⟩) 8 p.cr)∧w6.drew.cell? ⟨g8,1,none⟩=some (.int .i64 p.m.pc)∧w6.drew.cell? ⟨g8,2,none⟩=some (.int .i64 p.m.back)∧w6.drew.cell? ⟨g8,3,none⟩=some (.bool p.m.ints)∧w6.drew.cell? ⟨g8,4,none⟩=some (.bool p.m.wait)∧w6.drew.cell? ⟨g8,5,none⟩=some (.int .i64 p.m.table)∧w6.drew.cell? ⟨g8,6,none⟩=some (.int .i64 p.m.count)∧w6.drew.cell? ⟨g8,7,none⟩=some (.int .i64 p.m.fin)∧w6.drew.cell? ⟨g8,8,none⟩=some (.slice none 0 0)∧w6.drew.cell? ⟨g8,9,none⟩=some (.slice p.ao p.m.out.length p.co)∧w6.drew.cell? ⟨g8,10,none⟩=some (.int .i64 p.m.ready)∧w6.drew.cell? ⟨g8,11,none⟩=some (.int .i64 p.m.want)∧w6.drew.cell? ⟨g8,13,none⟩=some (.slice p.al p.nl p.cl):=⟨zaa HX6.out 0,zaa HX6.out 1,zaa HX6.out 2,zaa HX6.out 3,zaa HX6.out 4,zaa HX6.out 5,zaa HX6.out 6,zaa HX6.out 7,zaa HX6.out 8,zaa HX6.out 9,zaa HX6.out 10,zaa HX6.out 11,zaa HX6.out 13⟩
   have HSset:=Lib.hid (show ∀(W:World) (j:Nat) (u:Value),(W.cell? ⟨g8,0,none⟩=some (.slice (some ⟨p.gr,0,none⟩) 8 p.cr)∧W.cell? ⟨g8,1,none⟩=some (.int .i64 p.m.pc)∧W.cell? ⟨g8,2,none⟩=some (.int .i64 p.m.back)∧W.cell? ⟨g8,3,none⟩=some (.bool p.m.ints)∧W.cell? ⟨g8,4,none⟩=some (.bool p.m.wait)∧W.cell? ⟨g8,5,none⟩=some (.int .i64 p.m.table)∧W.cell? ⟨g8,6,none⟩=some (.int .i64 p.m.count)∧W.cell? ⟨g8,7,none⟩=some (.int .i64 p.m.fin)∧W.cell? ⟨g8,8,none⟩=some (.slice none 0 0)∧W.cell? ⟨g8,9,none⟩=some (.slice p.ao p.m.out.length p.co)∧W.cell? ⟨g8,10,none⟩=some (.int .i64 p.m.ready)∧W.cell? ⟨g8,11,none⟩=some (.int .i64 p.m.want)∧W.cell? ⟨g8,13,none⟩=some (.slice p.al p.nl p.cl))→((W.setCell ⟨K.db,j,none⟩ u).cell? ⟨g8,0,none⟩=some (.slice (some ⟨p.gr,0,none⟩) 8 p.cr)∧(W.setCell ⟨K.db,j,none⟩ u).cell? ⟨g8,1,none⟩=some (.int .i64 p.m.pc)∧(W.setCell ⟨K.db,j,none⟩ u).cell? ⟨g8,2,none⟩=some (.int .i64 p.m.back)∧(W.setCell ⟨K.db,j,none⟩ u).cell? ⟨g8,3,none⟩=some (.bool p.m.ints)∧(W.setCell ⟨K.db,j,none⟩ u).cell? ⟨g8,4,none⟩=some (.bool p.m.wait)∧(W.setCell ⟨K.db,j,none⟩ u).cell? ⟨g8,5,none⟩=some (.int .i64 p.m.table)∧(W.setCell ⟨K.db,j,none⟩ u).cell? ⟨g8,6,none⟩=some (.int .i64 p.m.count)∧(W.setCell ⟨K.db,j,none⟩ u).cell? ⟨g8,7,none⟩=some (.int .i64 p.m.fin)∧(W.setCell ⟨K.db,j,none⟩ u).cell? ⟨g8,8,none⟩=some (.slice none 0 0)∧(W.setCell ⟨K.db,j,none⟩ u).cell? ⟨g8,9,none⟩=some (.slice p.ao p.m.out.length p.co)∧(W.setCell ⟨K.db,j,none⟩ u).cell? ⟨g8,10,none⟩=some (.int .i64 p.m.ready)∧(W.setCell ⟨K.db,j,none⟩ u).cell? ⟨g8,11,none⟩=some (.int .i64 p.m.want)∧(W.setCell ⟨K.db,j,none⟩ u).cell? ⟨g8,13,none⟩=some (.slice p.al p.nl p.cl)) from fun W j u h=>⟨(cell_far (Or.inl HGD.out) _).trans h.1,(cell_far (Or.inl HGD.out) _).trans h.2.1,(cell_far (Or.inl HGD.out) _).trans h.2.2.1,(cell_far (Or.inl HGD.out) _).trans h.2.2.2.1,(cell_far (Or.inl HGD.out) _).trans h.2.2.2.2.1,(cell_far (Or.inl HGD.out) _).trans h.2.2.2.2.2.1,(cell_far (Or.inl HGD.out) _).trans h.2.2.2.2.2.2.1,(cell_far (Or.inl HGD.out) _).trans h.2.2.2.2.2.2.2.1,(cell_far (Or.inl HGD.out) _).trans h.2.2.2.2.2.2.2.2.1,(cell_far (Or.inl HGD.out) _).trans h.2.2.2.2.2.2.2.2.2.1,(cell_far (Or.inl HGD.out) _).trans h.2.2.2.2.2.2.2.2.2.2.1,(cell_far (Or.inl HGD.out) _).trans h.2.2.2.2.2.2.2.2.2.2.2.1,(cell_far (Or.inl HGD.out) _).trans h.2.2.2.2.2.2.2.2.2.2.2.2⟩)
   have HSall:=Lib.hid (show ∀(W:World) (O:Obj),(W.cell? ⟨g8,0,none⟩=some (.slice (some ⟨p.gr,0,none⟩) 8 p.cr)∧W.cell? ⟨g8,1,none⟩=some (.int .i64 p.m.pc)∧W.cell? ⟨g8,2,none⟩=some (.int .i64 p.m.back)∧W.cell? ⟨g8,3,none⟩=some (.bool p.m.ints)∧W.cell? ⟨g8,4,none⟩=some (.bool p.m.wait)∧W.cell? ⟨g8,5,none⟩=some (.int .i64 p.m.table)∧W.cell? ⟨g8,6,none⟩=some (.int .i64 p.m.count)∧W.cell? ⟨g8,7,none⟩=some (.int .i64 p.m.fin)∧W.cell? ⟨g8,8,none⟩=some (.slice none 0 0)∧W.cell? ⟨g8,9,none⟩=some (.slice p.ao p.m.out.length p.co)∧W.cell? ⟨g8,10,none⟩=some (.int .i64 p.m.ready)∧W.cell? ⟨g8,11,none⟩=some (.int .i64 p.m.want)∧W.cell? ⟨g8,13,none⟩=some (.slice p.al p.nl p.cl))→((W.alloc O).cell? ⟨g8,0,none⟩=some (.slice (some ⟨p.gr,0,none⟩) 8 p.cr)∧(W.alloc O).cell? ⟨g8,1,none⟩=some (.int .i64 p.m.pc)∧(W.alloc O).cell? ⟨g8,2,none⟩=some (.int .i64 p.m.back)∧(W.alloc O).cell? ⟨g8,3,none⟩=some (.bool p.m.ints)∧(W.alloc O).cell? ⟨g8,4,none⟩=some (.bool p.m.wait)∧(W.alloc O).cell? ⟨g8,5,none⟩=some (.int .i64 p.m.table)∧(W.alloc O).cell? ⟨g8,6,none⟩=some (.int .i64 p.m.count)∧(W.alloc O).cell? ⟨g8,7,none⟩=some (.int .i64 p.m.fin)∧(W.alloc O).cell? ⟨g8,8,none⟩=some (.slice none 0 0)∧(W.alloc O).cell? ⟨g8,9,none⟩=some (.slice p.ao p.m.out.length p.co)∧(W.alloc O).cell? ⟨g8,10,none⟩=some (.int .i64 p.m.ready)∧(W.alloc O).cell? ⟨g8,11,none⟩=some (.int .i64 p.m.want)∧(W.alloc O).cell? ⟨g8,13,none⟩=some (.slice p.al p.nl p.cl)) from fun W O h=>⟨(World.cell?_alloc_some _ _ _ (by rw[h.1];rfl)).trans h.1,(World.cell?_alloc_some _ _ _ (by rw[h.2.1];rfl)).trans h.2.1,(World.cell?_alloc_some _ _ _ (by rw[h.2.2.1];rfl)).trans h.2.2.1,(World.cell?_alloc_some _ _ _ (by rw[h.2.2.2.1];rfl)).trans h.2.2.2.1,(World.cell?_alloc_some _ _ _ (by rw[h.2.2.2.2.1];rfl)).trans h.2.2.2.2.1,(World.cell?_alloc_some _ _ _ (by rw[h.2.2.2.2.2.1];rfl)).trans h.2.2.2.2.2.1,(World.cell?_alloc_some _ _ _ (by rw[h.2.2.2.2.2.2.1];rfl)).trans h.2.2.2.2.2.2.1,(World.cell?_alloc_some _ _ _ (by rw[h.2.2.2.2.2.2.2.1];rfl)).trans h.2.2.2.2.2.2.2.1,(World.cell?_alloc_some _ _ _ (by rw[h.2.2.2.2.2.2.2.2.1];rfl)).trans h.2.2.2.2.2.2.2.2.1,(World.cell?_alloc_some _ _ _ (by rw[h.2.2.2.2.2.2.2.2.2.1];rfl)).trans h.2.2.2.2.2.2.2.2.2.1,(World.cell?_alloc_some _ _ _ (by rw[h.2.2.2.2.2.2.2.2.2.2.1];rfl)).trans h.2.2.2.2.2.2.2.2.2.2.1,(World.cell?_alloc_some _ _ _ (by rw[h.2.2.2.2.2.2.2.2.2.2.2.1];rfl)).trans h.2.2.2.2.2.2.2.2.2.2.2.1,(World.cell?_alloc_some _ _ _ (by rw[h.2.2.2.2.2.2.2.2.2.2.2.2];rfl)).trans h.2.2.2.2.2.2.2.2.2.2.2.2⟩)
   have HLL:=Lib.hid (And.intro ld lg6)
   clear hgd d8 d9 d10 f8 f9 f10 HD4 HN
   go_upto_region 15 with fail
   go_region_held3 (fun w'=>w'.cell? ⟨g8,0,none⟩=some (.slice (some ⟨p.gr,0,none⟩) 8 p.cr)∧w'.cell? ⟨g8,1,none⟩=some (.int .i64 p.m.pc)∧w'.cell? ⟨g8,2,none⟩=some (.int .i64 p.m.back)∧w'.cell? ⟨g8,3,none⟩=some (.bool p.m.ints)∧w'.cell? ⟨g8,4,none⟩=some (.bool p.m.wait)∧w'.cell? ⟨g8,5,none⟩=some (.int .i64 p.m.table)∧w'.cell? ⟨g8,6,none⟩=some (.int .i64 p.m.count)∧w'.cell? ⟨g8,7,none⟩=some (.int .i64 p.m.fin)∧w'.cell? ⟨g8,8,none⟩=some (.slice none 0 0)∧w'.cell? ⟨g8,9,none⟩=some (.slice p.ao p.m.out.length p.co)∧w'.cell? ⟨g8,10,none⟩=some (.int .i64 p.m.ready)∧w'.cell? ⟨g8,11,none⟩=some (.int .i64 p.m.want)∧w'.cell? ⟨g8,13,none⟩=some (.slice p.al p.nl p.cl)) (first|assumption|exact HSset.out _ _ _ (by assumption)|exact HSall.out _ _ (by assumption)|exact HSall.out _ _ (HSset.out _ _ _ (by assumption))|exact HSall.out _ _ (HSset.out _ _ _ (HSset.out _ _ _ (by assumption)))|exact HSall.out _ _ (HSset.out _ _ _ (HSset.out _ _ _ (HSset.out _ _ _ (by assumption))))) (first
    | (go_at_call 23;refine HBR.out.mono ?_;rintro e w7 ⟨ar2,cr2,ao2,co2,rfl,hr7,ho7,hb7,hap⟩;obtain⟨g2,rfl,hg2⟩:=zbf hr7 (by decide);have HX7:=Lib.hid (zac hb7 HX6.out HLL.out.2);have HB7:=Lib.hid ((HB6.out.below HK.out (below_drewN (Below.refl w6.heap.size w6) 1)).below HK.out hb7);have HS7:w7.cell? ⟨g8,0,none⟩=some (.slice (some ⟨p.gr,0,none⟩) 8 p.cr)∧w7.cell? ⟨g8,1,none⟩=some (.int .i64 p.m.pc)∧w7.cell? ⟨g8,2,none⟩=some (.int .i64 p.m.back)∧w7.cell? ⟨g8,3,none⟩=some (.bool p.m.ints)∧w7.cell? ⟨g8,4,none⟩=some (.bool p.m.wait)∧w7.cell? ⟨g8,5,none⟩=some (.int .i64 p.m.table)∧w7.cell? ⟨g8,6,none⟩=some (.int .i64 p.m.count)∧w7.cell? ⟨g8,7,none⟩=some (.int .i64 p.m.fin)∧w7.cell? ⟨g8,8,none⟩=some (.slice none 0 0)∧w7.cell? ⟨g8,9,none⟩=some (.slice p.ao p.m.out.length p.co)∧w7.cell? ⟨g8,10,none⟩=some (.int .i64 p.m.ready)∧w7.cell? ⟨g8,11,none⟩=some (.int .i64 p.m.want)∧w7.cell? ⟨g8,13,none⟩=some (.slice p.al p.nl p.cl):=⟨zaa HX7.out 0,zaa HX7.out 1,zaa HX7.out 2,zaa HX7.out 3,zaa HX7.out 4,zaa HX7.out 5,zaa HX7.out 6,zaa HX7.out 7,zaa HX7.out 8,zaa HX7.out 9,zaa HX7.out 10,zaa HX7.out 11,zaa HX7.out 13⟩;have d8:=zaa HB7.out.box 8;have d9:=zaa HB7.out.box 9;have d10:=zaa HB7.out.box 10;have f8:=zab HB7.out.box 8;have f9:=zab HB7.out.box 9;have f10:=zab HB7.out.box 10;have ld7:K.db<w7.heap.size:=(Array.getElem?_eq_some_iff.1 HB7.out.box).1;have lg7:g8<w7.heap.size:=(Array.getElem?_eq_some_iff.1 HX7.out).1;have HR7:=Lib.hid hr7;have HO7:=Lib.hid ho7;have HBB7:=Lib.hid hb7;have HAP:=Lib.hid hap;clear hr7 ho7 hb7 hap hg2))
   have HFIN:Hid (∃F',DkP K p.m w7.heap.size g2 cr2 nb (-1) false (.slice p.al p.nl p.cl) ao2 co2 F' (some ⟨rg,0,none⟩) cp pts _):=Lib.hid (zco (m:=p.m) (wrote:=-1) (vl:=.slice p.al p.nl p.cl) HK.out HB7.out HB6.out.out.size HR7.out HO7.out (by
    rcases HAP.out with q|q
    ·rw[q];simp
    ·exact q) (by have:=HBB7.out.size;exact this) HLEN.out)
   clear d8 d9 d10 f8 f9 f10 ld7 lg7 HS7 HS0
   go_wp2
   go_ret
   obtain⟨F',hp⟩:=HFIN.out
   exact Or.inl ⟨rfl,p.m,p.i,-1,⟨_,_,_,_,_,_,_,_,_,_,_,_,_,_,⟨hp,HPR.out.run,HPR.out.st,HPR.out.evs,HPR.out.le⟩⟩,by rw[←HPR.out.run.cnt];exact HLE.out⟩
end
end Go.Proofs.YtflonfcemlfbdaaDoor
