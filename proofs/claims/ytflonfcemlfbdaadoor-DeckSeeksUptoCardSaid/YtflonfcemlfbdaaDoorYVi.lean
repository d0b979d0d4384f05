/- The deck's keep. No condition beyond the deck's state. -/
import Derived.Test.YtflonfcemlfbdaaDoorYVf
import Derived.Test.YtflonfcemlfbdaaDoorYTk
import Derived.Handy
import Derived.StillTailTactics
import Derived.Deep.RegionWith
import Derived.Deep.RegionLaw
import Derived.Deep.CutBlock
import Derived.Deep.CutRange
import Derived.Deep.RegionHeld3
namespace Go.Proofs.YtflonfcemlfbdaaDoor
open Go Go.RowKit Go.ChangeShapes Go.WideShapes Go.Deep
set_option maxHeartbeats 8000000
set_option maxRecDepth 100000
set_option linter.unusedVariables false
attribute [local go_sem ↓] Go.wp_at_zero Go.wp_at_succ
theorem zfU(p:Pt):∀u∈p.cells,u.oneCell'=true:=List.all_eq_true.1 (show p.cells.all (fun u=>u.oneCell')=true from rfl)
theorem zkf(pts:List Pt):∀u∈pts.flatMap Pt.cells,u.oneCell'=true:=fun u hu=>by
 obtain⟨p,-,hu⟩:=List.mem_flatMap.1 hu
 exact zfU p u hu
theorem zcp:(Tryd.prog.info? 86).map (fun i=>(i.zero,i.size,i.bytes))=some (some zPt,14,168):=by kernel_rfl
theorem DkOE.wlo{K:DkC}(hK:DkK K){m:Mach}{cb gr cr:Nat}{wrote:Int}{v9 v10 v11:Value}{ao:Option Addr}{co:Nat}{ss:List Spc}{ap:Option Addr}{cp:Nat}{rows pts:List Pt}{w:World}(h:DkOE K m cb gr cr wrote v9 v10 v11 ao co ss ap cp rows pts w):K.w1.heap.size≤w.heap.size:=by
 obtain⟨rs,zs,ad,ar,cd,cr2,vs,h⟩:=h
 exact(h.n.dlo hK).2
section
variable {K:DkC} {m:Mach} {i:Nat} {cb gr cr sb:Nat} {wrote:Int} {x:Bool} {vl:Value} {ao:Option Addr} {co:Nat} {F:Nat→Prop} {ap:Option Addr} {cp:Nat} {rows pts:List Pt} {w w':World}
theorem zja(hK:DkK K){xb:Nat}(h:DkP K m cb gr cr sb wrote x vl ao co F ap cp pts w)(hx:w.cell? ⟨xb,0,none⟩=some (.pointer (some ⟨K.db,0,none⟩)))(lx:xb<w.heap.size):Calls Tryd.prog 61 #[.slice ap pts.length cp,.func (.func 62) #[] #[.pointer (some ⟨xb,0,none⟩)]] w fun e w'=>e=.returned (.bool (pts.any fun q=>q.m.count == m.count))∧Below w.heap.size w w':=by
 refine zdL _ _ _ (enters_of Tryd.func62 (by kernel_rfl) rfl) w h.row (fun q hq W hb=>?_) (by have:=h.len;have:=hK.k1;omega)
 have hs:=hb.size
 have l1:=h.ps.plt
 have l2:=h.ps.g.clt
 have b1:w.cell? ⟨K.db,8,none⟩=some (.pointer (some ⟨cb,0,none⟩)):=zaa h.ps.box 8
 have b2:w.cell? ⟨cb,6,none⟩=some (.int .i64 m.count):=zaa h.ps.g.box 6
 exact zhR (c:=m.count) q W ((World.cell?_of_block (hb.block xb lx)).trans hx) ((World.cell?_of_block (hb.block K.db l1)).trans b1) ((World.cell?_of_block (hb.block cb l2)).trans b2) (by omega) (by omega) (by omega)
theorem zjb(hK:DkK K){al:Option Addr}{nl cl:Nat}{LL:List Ev}(h:Dk K m i cb gr cr sb wrote false al nl cl LL ao co F ap cp pts w)(hf:m.fin=0):Calls Tryd.prog 37 #[.pointer (some ⟨K.db,0,none⟩)] w fun e w'=>e=.returned (.int .i64 0)∧∃F' ap' cp' pts',Dk K m i cb gr cr sb wrote false al nl cl LL ao co F' ap' cp' pts' w':=by
 have HK:=Lib.hid hK
 have HF:=Lib.hid hf
 have HOK:=Lib.hid (h.ok hK)
 have HR:=Lib.hid (And.intro h.run (And.intro h.st (And.intro h.evs h.le)))
 have HP:=Lib.hid h.p
 clear h hf hK
 go_enter Tryd.func37,Tryd.ntmps37
 go_upto_region 1 with fail
 obtain⟨W1,hW1⟩:∃W1,W1=w.alloc (.cells #[.pointer (some ⟨K.db,0,none⟩)] 35 (0,0)):=⟨_,rfl⟩
 have HX1:=Lib.hid (show W1.heap[w.heap.size]?=some (.cells #[.pointer (some ⟨K.db,0,none⟩)] 35 (0,0)) from by rw[hW1];exact alloc_at rfl)
 have HP1:=Lib.hid (show DkP K m cb gr cr sb wrote false (.slice al nl cl) ao co F ap cp pts W1 from by rw[hW1];exact HP.out.below (zai _ _))
 rw[←hW1]
 obtain⟨xb,hxb⟩:∃xb,xb=w.heap.size:=⟨_,rfl⟩
 rw[←hxb] at HX1 ⊢
 clear hW1 HP hxb
 have x0:W1.cell? ⟨xb,0,none⟩=some (.pointer (some ⟨K.db,0,none⟩)):=zaa HX1.out 0
 have lx:xb<W1.heap.size:=(Array.getElem?_eq_some_iff.1 HX1.out).1
 have b11:W1.cell? ⟨K.db,11,none⟩=some (.slice ap pts.length cp):=zaa HP1.out.ps.box 11
 have ld:K.db<W1.heap.size:=HP1.out.ps.plt
 go_wp2_with fail
 refine(zja HK.out HP1.out x0 lx).mono ?_
 rintro e w2 ⟨rfl,hb2⟩
 have HX2:=Lib.hid (zac hb2 HX1.out lx)
 have HP2:=Lib.hid (HP1.out.below hb2)
 clear x0 lx b11 ld HX1 HP1 hb2
 have x0:w2.cell? ⟨xb,0,none⟩=some (.pointer (some ⟨K.db,0,none⟩)):=zaa HX2.out 0
 have lx:xb<w2.heap.size:=(Array.getElem?_eq_some_iff.1 HX2.out).1
 have b2:w2.cell? ⟨K.db,2,none⟩=some (.int .i64 K.kp):=zaa HP2.out.ps.box 2
 have b11:w2.cell? ⟨K.db,11,none⟩=some (.slice ap pts.length cp):=zaa HP2.out.ps.box 11
 have ld:K.db<w2.heap.size:=HP2.out.ps.plt
 generalize hany:pts.any (fun q=>q.m.count == m.count)=bb
 cases bb with
 | true=>
  have HFIN:=Lib.hid (show Dk K m i cb gr cr sb wrote false al nl cl LL ao co F ap cp pts w2 from ⟨HP2.out,HR.out.1,HR.out.2.1,HR.out.2.2.1,HR.out.2.2.2⟩)
  clear hany
  go_wp2
  go_ret
  exact⟨rfl,F,ap,cp,pts,HFIN.out⟩
 | false=>
  clear hany
  go_upto_region 3 with fail
  have hlk:=HP2.out.len
  generalize hnp:pts.length=np at *
  go_quiet (fail)
  go_upto_if 21 with fail
  obtain⟨w3,hw3⟩:∃w3,w3=w2.drewN nq:=⟨_,rfl⟩
  have HP3:=Lib.hid (show DkP K m cb gr cr sb wrote false (.slice al nl cl) ao co F ap cp pts w3 from by rw[hw3];exact HP2.out.below (below_drewN (Below.refl _ _) nq))
  have HX3:=Lib.hid (show w3.heap[xb]?=some (.cells #[.pointer (some ⟨K.db,0,none⟩)] 35 (0,0)) from by rw[hw3];exact HX2.out)
  rw[←hw3]
  clear hw3 x0 lx b2 b11 ld HX2 HP2
  have HNP:=Lib.hid hnp
  have HLK:=Lib.hid hlk
  clear hnp hlk
  go_cut [] from 22 to 38 (fun wx =>∃(F':Nat→Prop) (ap':Option Addr) (cp':Nat) (pts':List Pt),Hid (DkP K m cb gr cr sb wrote false (.slice al nl cl) ao co F' ap' cp' pts' wx)∧Hid ((pts'.length:Int)+1≤K.kp)∧Hid (wx.heap[xb]?=some (.cells #[.pointer (some ⟨K.db,0,none⟩)] 35 (0,0))))
  case first=>
   by_cases hfull:(np:Int)=K.kp
   ·
    have hfb:((np:Int) == K.kp)=true:=by rw[hfull];exact beq_self_eq_true _
    have h1:=HK.out.k0
    have hnp:=HNP.out
    obtain⟨pg,ho⟩:=HP3.out.opened HK.out
    cases pts with
    | nil=>simp at hnp;omega
    | cons p rest=>
     obtain⟨rg,rfl,hrg,hcap,hcell⟩:=zdK HP3.out.row (by simp)
     have k12:w3.cell? ⟨rg,12,none⟩=some (.pointer (some ⟨p.sb,0,none⟩)):=by
      have:=hcell 0 (by simp) 12 _ (by omega) (show (p::rest)[0].cells[12]?=some (.pointer (some ⟨p.sb,0,none⟩)) from rfl)
      simpa using this
     have hnr:np=rest.length+1:=by rw[←hnp];simp
     subst hnr
     have x0:w3.cell? ⟨xb,0,none⟩=some (.pointer (some ⟨K.db,0,none⟩)):=zaa HX3.out 0
     have lx:xb<w3.heap.size:=(Array.getElem?_eq_some_iff.1 HX3.out).1
     have b11:w3.cell? ⟨K.db,11,none⟩=some (.slice (some ⟨rg,0,none⟩) (rest.length+1) cp):=zaa HP3.out.ps.box 11
     have ld:K.db<w3.heap.size:=HP3.out.ps.plt
     have HO:=Lib.hid ho
     have hn1:(0:Int)<((rest.length+1:Nat):Int):=by omega
     have hn2:(0:Int)<(rest.length:Int)+1:=by omega
     clear hfull ho hcell hnp
     go_wp2_with fail
     refine(HO.out.drop0 HK.out).mono ?_
     rintro e w4 ⟨rfl,hbx,ho4⟩
     have HX4:=Lib.hid ((hbx xb (Or.inl ⟨_,_,HX3.out⟩)).trans HX3.out)
     have HO4:=Lib.hid ho4
     clear x0 lx b11 ld k12 hrg HO hbx HX3 HP3
     have x0:w4.cell? ⟨xb,0,none⟩=some (.pointer (some ⟨K.db,0,none⟩)):=zaa HX4.out 0
     have lx:xb<w4.heap.size:=(Array.getElem?_eq_some_iff.1 HX4.out).1
     have b11:w4.cell? ⟨K.db,11,none⟩=some (.slice (some ⟨rg,0,none⟩) (rest.length+1) cp):=zaa ho4.box 11
     have ld:K.db<w4.heap.size:=(Array.getElem?_eq_some_iff.1 ho4.box).1
     have HRW:=Lib.hid (show w4.ownsRow K.w1.heap.size 86 14 (.slice (some ⟨rg,0,none⟩) (rest.length+1) cp) (rest.length+1) (p.cells++rest.flatMap Pt.cells) from by
      obtain⟨rs,zs,ad,ar,cd,cr2,vs,h⟩:=ho4
      exact h.r)
     clear ho4
     go_upto_region 5 with fail
     have hne1:xb≠rg:=fun e=>by
      have h1:Ty w4 xb 35:=⟨_,_,HX4.out⟩
      have h2:Ty w4 rg 86:=zaD HRW.out rfl
      rw[e] at h1
      exact absurd (zaL h1 h2) (by decide)
     have hne2:K.db≠rg:=fun e=>by
      have h1:Ty w4 K.db 44:=⟨_,_,HO4.out.box⟩
      have h2:Ty w4 rg 86:=zaD HRW.out rfl
      rw[e] at h1
      exact absurd (zaL h1 h2) (by decide)
     have HNE:=Lib.hid (And.intro hne1 hne2)
     have HRWD:=Lib.hid (show w4.drew.ownsRow K.w1.heap.size 86 14 (.slice (some ⟨rg,0,none⟩) (rest.length+1) cp) (rest.length+1) (p.cells++rest.flatMap Pt.cells) from HRW.out)
     have HL4:=Lib.hid (And.intro lx ld)
     clear hne1 hne2
     go_region_with (go_at_call 63;go_loud (refine(zgx K.w1.heap.size rg rest.length cp p.cells (rest.flatMap Pt.cells) w4.drew rfl (zkf rest) HRWD.out).mono ?_);rintro e w5 ⟨rfl,hr5,ho5⟩;have HB5:=Lib.hid ((ho5.block K.db HNE.out.2).trans HO4.out.box);have HX5:=Lib.hid ((ho5.block xb HNE.out.1).trans HX4.out);have x5:w5.cell? ⟨xb,0,none⟩=some (.pointer (some ⟨K.db,0,none⟩)):=zaa HX5.out 0;have b5:w5.cell? ⟨K.db,11,none⟩=some (.slice (some ⟨rg,0,none⟩) (rest.length+1) cp):=zaa HB5.out 11;have f5:=zab HB5.out 11;have l5:K.db<w5.heap.size:=(Array.getElem?_eq_some_iff.1 HB5.out).1;have lx5:xb<w5.heap.size:=(Array.getElem?_eq_some_iff.1 HX5.out).1;have HR5:=Lib.hid hr5;have HO5:=Lib.hid ho5;clear hr5 ho5)
     all_goals (go_wp2_with fail;go_meet)
     all_goals (
      have hd:=HO4.out.below HK.out (below_drewN (Below.refl w4.heap.size w4) 1)
      have h5:=hd.rowed HK.out (D:=fun g=>g=rg) ⟨HO5.out.os,HO5.out.tape,HO5.out.output,Nat.le_of_eq HO5.out.size.symm,fun g _ hg=>HO5.out.block g hg⟩ (fun g hg=>by rw[hg];rfl) HR5.out
      have h6:=h5.set HK.out (j:=11) (u:=.slice (some ⟨rg,0,none⟩) rest.length cp) (u11:=.slice (some ⟨rg,0,none⟩) rest.length cp) (u9:=.pointer (some ⟨sb,0,none⟩)) (u10:=.slice al nl cl) rfl
      have hkp:=HLK.out
      have hnp:=HNP.out
      obtain⟨F',h7⟩:=h6.closed HK.out (by omega)
      refine⟨F',some ⟨rg,0,none⟩,cp,rest,Lib.hid h7,Lib.hid (by omega),Lib.hid ?_⟩
      rw[Below.heap_setCell _ ⟨K.db,11,none⟩ _ xb (fun e=>?_)]
      ·exact HX5.out
      ·
       have e:xb=K.db:=e
       have h1:Ty w4 xb 35:=⟨_,_,HX4.out⟩
       have h2:Ty w4 K.db 44:=⟨_,_,HO4.out.box⟩
       rw[e] at h1
       exact absurd (zaL h1 h2) (by decide))
   ·
    have hfb:((np:Int) == K.kp)=false:=by rw[beq_eq_false_iff_ne];exact hfull
    go_wp2_with fail
    go_meet
    exact⟨F,ap,cp,pts,HP3,Lib.hid (by have:=HLK.out;have:=HNP.out;omega),HX3⟩
  case rest=>
   clear HP3 HX3 HNP HLK
   obtain⟨F',ap',cp',pts',HP,HLN,HX⟩:=hcut
   obtain⟨pg,ho⟩:=HP.out.opened HK.out
   have x0:wc.cell? ⟨xb,0,none⟩=some (.pointer (some ⟨K.db,0,none⟩)):=zaa HX.out 0
   have lx:xb<wc.heap.size:=(Array.getElem?_eq_some_iff.1 HX.out).1
   have b9:wc.cell? ⟨K.db,9,none⟩=some (.pointer (some ⟨sb,0,none⟩)):=zaa HP.out.ps.box 9
   have ld:K.db<wc.heap.size:=HP.out.ps.plt
   have HFK:=Lib.hid (ho.fork0 HK.out (t:=⟨sb,pg,m.mem⟩) (List.mem_append_left _ (List.mem_singleton.2 rfl)) (by have:=HLN.out;have:=HK.out.k1;omega))
   clear ho HP
   go_wp2_with fail
   refine HFK.out.mono ?_
   rintro e w6 ⟨nb,rfl,hnb,hbx,ho6⟩
   have HX6:=Lib.hid ((hbx xb (Or.inl ⟨_,_,HX.out⟩)).trans HX.out)
   have HO6:=Lib.hid ho6
   clear x0 lx b9 ld hbx HX HFK hnb
   have HC:=Lib.hid (show CorS K cb gr cr m wrote ao co w6 from by obtain⟨_,_,_,_,_,_,_,h⟩:=ho6;exact h.c)
   have HRP:=Lib.hid (show RowP K ap' cp' pts' w6 from by obtain⟨_,_,_,_,_,_,_,h⟩:=ho6;exact h.r)
   have x0:w6.cell? ⟨xb,0,none⟩=some (.pointer (some ⟨K.db,0,none⟩)):=zaa HX6.out 0
   have lx:xb<w6.heap.size:=(Array.getElem?_eq_some_iff.1 HX6.out).1
   have b8:w6.cell? ⟨K.db,8,none⟩=some (.pointer (some ⟨cb,0,none⟩)):=zaa ho6.box 8
   have b10:w6.cell? ⟨K.db,10,none⟩=some (.slice al nl cl):=zaa ho6.box 10
   have b11:w6.cell? ⟨K.db,11,none⟩=some (.slice ap' pts'.length cp'):=zaa ho6.box 11
   have ld:K.db<w6.heap.size:=(Array.getElem?_eq_some_iff.1 ho6.box).1
   have lc:cb<w6.heap.size:=(Array.getElem?_eq_some_iff.1 HC.out.box).1
   first|(obtain⟨c0,c1,c2,c3,c4,c5,c6,c7,c8,c9,c10,c11⟩:=zaz HC.out.box)|(obtain⟨c0,c1,c2,c3,c4,c5,c6,c7,c8,c9,c10,c11⟩:=zaA HC.out.box)
   have HBR:=Lib.hid (fun (W:World) (hb:Below w6.heap.size w6 W)=>(show Calls Tryd.prog 23 #[.agg #[.slice (some ⟨gr,0,none⟩) 8 cr,.int .i64 m.pc,.int .i64 m.back,.bool m.ints,.bool m.wait,.int .i64 m.table,.int .i64 m.count,.int .i64 m.fin,.slice none 0 0,.slice ao m.out.length co,.int .i64 m.ready,.int .i64 m.want]] W (fun e w' =>∃ar2 cr2 ao2 co2,e=.returned (.agg #[.slice ar2 8 cr2,.int .i64 m.pc,.int .i64 m.back,.bool m.ints,.bool m.wait,.int .i64 m.table,.int .i64 m.count,.int .i64 m.fin,.slice none 0 0,.slice ao2 m.out.length co2,.int .i64 m.ready,.int .i64 m.want])∧w'.ownsRow W.heap.size 3 1 (.slice ar2 8 cr2) 8 (m.regs.map (Value.int .i64))∧w'.ownsRow W.heap.size 3 1 (.slice ao2 m.out.length co2) m.out.length (m.out.map (Value.int .i64))∧Below W.heap.size W w') from by
    have h8:=HOK.out.regs
    have hr:=HC.out.regs
    have hI:Ints W.heap.size W (.slice (some ⟨gr,0,none⟩) m.regs.length cr) m.regs:=(zaq (by rw[h8];exact hr) (by omega) (fun z hz=>(zaE HOK.out.wr z hz).i64)).to hb.size (zae hb)
    have hO:Ints W.heap.size W (.slice ao m.out.length co) m.out:=(zaq HC.out.out (by have:=HOK.out.out;omega) (fun z hz=>(zaE HOK.out.wo z hz).i64)).to hb.size (zae hb)
    have h:=zfP m (.slice none 0 0) (some ⟨gr,0,none⟩) ao cr co W ⟨none,0,0,rfl⟩ hI hO
    unfold zdM at h
    simp only[h8] at h
    refine h.mono ?_
    rintro e w' ⟨a1,c1,a2,c2,he,ho,hb'⟩
    have h1:=ho.hr
    rw[h8] at h1
    exact⟨a1,c1,a2,c2,he,h1,ho.ho,hb'⟩))
   have HRPD:=Lib.hid (HRP.out.below (below_drewN (Below.refl w6.heap.size w6) 1))
   clear ho6
   go_upto_region 9 with fail
   have hkp:=HLN.out
   have hk8:=HK.out.k1
   have nx:xb≠K.db:=fun e=>by
    have h1:Ty w6 xb 35:=⟨_,_,HX6.out⟩
    have h2:Ty w6 K.db 44:=⟨_,_,HO6.out.box⟩
    rw[e] at h1
    exact absurd (zaL h1 h2) (by decide)
   have nc:cb≠K.db:=fun e=>by
    have h1:Ty w6 cb 67:=⟨_,_,HC.out.box⟩
    have h2:Ty w6 K.db 44:=⟨_,_,HO6.out.box⟩
    rw[e] at h1
    exact absurd (zaL h1 h2) (by decide)
   have HNX:=Lib.hid (And.intro nx nc)
   clear nx nc
   refine wp_region_held_drew (S:=(fun w':World=>w'.cell? ⟨xb,0,none⟩=some (.pointer (some ⟨K.db,0,none⟩))∧w'.cell? ⟨K.db,8,none⟩=some (.pointer (some ⟨cb,0,none⟩))∧w'.cell? ⟨K.db,10,none⟩=some (.slice al nl cl)∧w'.cell? ⟨cb,0,none⟩=some (.slice (some ⟨gr,0,none⟩) 8 cr)∧w'.cell? ⟨cb,1,none⟩=some (.int .i64 m.pc)∧w'.cell? ⟨cb,2,none⟩=some (.int .i64 m.back)∧w'.cell? ⟨cb,3,none⟩=some (.bool m.ints)∧w'.cell? ⟨cb,4,none⟩=some (.bool m.wait)∧w'.cell? ⟨cb,5,none⟩=some (.int .i64 m.table)∧w'.cell? ⟨cb,6,none⟩=some (.int .i64 m.count)∧w'.cell? ⟨cb,7,none⟩=some (.int .i64 m.fin)∧w'.cell? ⟨cb,8,none⟩=some (.slice none 0 0)∧w'.cell? ⟨cb,9,none⟩=some (.slice ao m.out.length co)∧w'.cell? ⟨cb,10,none⟩=some (.int .i64 m.ready)∧w'.cell? ⟨cb,11,none⟩=some (.int .i64 m.want))) (by kernel_rfl) ?hS0 (fun hHeld=>?rest0)
   case hS0=>((try dsimp only);(repeat' apply And.intro)<;>(first|assumption|exact(cell_far (Or.inl HNX.out.1) _).trans (by assumption)|exact(cell_far (Or.inl HNX.out.2) _).trans (by assumption)|exact(cell_far (Or.inr (by simp)) _).trans (by assumption)|go_keep))
   refine wpAnyH_take (i:=0) (oi:=_) (v:=?vv1) rfl (by kernel_rfl) (by kernel_rfl) (by kernel_rfl) (fun _ _ _ h=>h) (Or.inl ⟨by rfl,?hy1⟩) (by assumption) ?rest1
   case hy1=>((intro w hSw;(try dsimp only at hSw);go_simp;try with_reducible rfl))
   try simp only[Act.put,List.setIfInBounds_toArray]
   refine wpAnyH_take (i:=1) (oi:=_) (v:=?vv2) rfl (by kernel_rfl) (by kernel_rfl) (by kernel_rfl) (fun _ _ _ h=>h) (Or.inl ⟨by rfl,?hy2⟩) (by assumption) ?rest2
   case hy2=>((intro w hSw;(try dsimp only at hSw);go_simp;try with_reducible rfl))
   try simp only[Act.put]
   refine wpAnyH_take (i:=2) (oi:=_) (v:=?vv3) rfl (by kernel_rfl) (by kernel_rfl) (by kernel_rfl) (fun _ _ _ h=>h) (Or.inl ⟨by rfl,?hy3⟩) (by assumption) ?rest3
   case hy3=>((intro w hSw;(try dsimp only at hSw);go_simp;try with_reducible rfl))
   try simp only[Act.put]
   refine wpAnyH_take (i:=3) (oi:=_) (v:=?vv4) rfl (by kernel_rfl) (by kernel_rfl) (by kernel_rfl) (fun _ _ _ h=>h) (Or.inl ⟨by rfl,?hy4⟩) (by assumption) ?rest4
   case hy4=>((intro w hSw;(try dsimp only at hSw);go_simp;try with_reducible rfl))
   try simp only[Act.put]
   refine wpAnyH_take (i:=5) (oi:=_) (v:=?vv5) rfl (by kernel_rfl) (by kernel_rfl) (by kernel_rfl) (fun _ _ _ h=>h) (Or.inl ⟨by rfl,?hy5⟩) (by assumption) ?rest5
   case hy5=>((intro w hSw;(try dsimp only at hSw);go_simp;try with_reducible rfl))
   try simp only[Act.put]
   refine wpAnyH_take (i:=6) (oi:=_) (v:=?vv6) rfl (by kernel_rfl) (by kernel_rfl) (by kernel_rfl) (fun _ _ _ h=>h) (Or.inl ⟨by rfl,?hy6⟩) (by assumption) ?rest6
   case hy6=>((intro w hSw;(try dsimp only at hSw);go_simp;try with_reducible rfl))
   try simp only[Act.put]
   refine wpAnyH_take (i:=7) (oi:=_) (v:=?vv7) rfl (by kernel_rfl) (by kernel_rfl) (by kernel_rfl) (fun _ _ _ h=>h) (Or.inl ⟨by rfl,?hy7⟩) (by assumption) ?rest7
   case hy7=>((intro w hSw;(try dsimp only at hSw);go_simp;try with_reducible rfl))
   try simp only[Act.put]
   refine wpAnyH_take (i:=8) (oi:=_) (v:=?vv8) rfl (by kernel_rfl) (by kernel_rfl) (by kernel_rfl) (fun _ _ _ h=>h) (Or.inl ⟨by rfl,?hy8⟩) (by assumption) ?rest8
   case hy8=>((intro w hSw;(try dsimp only at hSw);go_simp;try with_reducible rfl))
   try simp only[Act.put]
   refine wpAnyH_take (i:=9) (oi:=_) (v:=?vv9) rfl (by kernel_rfl) (by kernel_rfl) (by kernel_rfl) (fun _ _ _ h=>h) (Or.inl ⟨by rfl,?hy9⟩) (by assumption) ?rest9
   case hy9=>((intro w hSw;(try dsimp only at hSw);go_simp;try with_reducible rfl))
   try simp only[Act.put]
   refine wpAnyH_take (i:=10) (oi:=_) (v:=?vv10) rfl (by kernel_rfl) (by kernel_rfl) (by kernel_rfl) (fun _ _ _ h=>h) (Or.inl ⟨by rfl,?hy10⟩) (by assumption) ?rest10
   case hy10=>((intro w hSw;(try dsimp only at hSw);go_simp;try with_reducible rfl))
   try simp only[Act.put]
   refine wpAnyH_take (i:=11) (oi:=_) (v:=?vv11) rfl (by kernel_rfl) (by kernel_rfl) (by kernel_rfl) (fun _ _ _ h=>h) (Or.inl ⟨by rfl,?hy11⟩) (by assumption) ?rest11
   case hy11=>((intro w hSw;(try dsimp only at hSw);go_simp;try with_reducible rfl))
   try simp only[Act.put]
   refine wpAnyH_take (i:=13) (oi:=_) (v:=?vv12) rfl (by kernel_rfl) (by kernel_rfl) (by kernel_rfl) (fun _ _ _ h=>h) (Or.inl ⟨by rfl,?hy12⟩) (by assumption) ?rest12
   case hy12=>((intro w hSw;(try dsimp only at hSw);go_simp;try with_reducible rfl))
   try simp only[Act.put]
   refine wpAnyH_take (i:=14) (oi:=_) (v:=?vv13) rfl (by kernel_rfl) (by kernel_rfl) (by kernel_rfl) (fun _ _ _ h=>h) (Or.inl ⟨by rfl,?hy13⟩) (by assumption) ?rest13
   case hy13=>((intro w hSw;(try dsimp only at hSw);go_simp;try with_reducible rfl))
   try simp only[Act.put]
   refine wpAnyH_take (i:=15) (oi:=_) (v:=?vv14) rfl (by kernel_rfl) (by kernel_rfl) (by kernel_rfl) (fun _ _ _ h=>h) (Or.inl ⟨by rfl,?hy14⟩) (by assumption) ?rest14
   case hy14=>((intro w hSw;(try dsimp only at hSw);go_simp;try with_reducible rfl))
   try simp only[Act.put]
   refine wpAnyH_take (i:=16) (oi:=_) (v:=?vv15) rfl (by kernel_rfl) (by kernel_rfl) (by kernel_rfl) (fun _ _ _ h=>h) (Or.inl ⟨by rfl,?hy15⟩) (by assumption) ?rest15
   case hy15=>((intro w hSw;(try dsimp only at hSw);go_simp;try with_reducible rfl))
   try simp only[Act.put]
   refine wpAnyH_take (i:=17) (oi:=_) (v:=?vv16) rfl (by kernel_rfl) (by kernel_rfl) (by kernel_rfl) (fun _ _ _ h=>h) (Or.inl ⟨by rfl,?hy16⟩) (by assumption) ?rest16
   case hy16=>((intro w hSw;(try dsimp only at hSw);go_simp;try with_reducible rfl))
   try simp only[Act.put]
   refine wpAnyH_take (i:=18) (oi:=_) (v:=?vv17) rfl (by kernel_rfl) (by kernel_rfl) (by kernel_rfl) (fun _ _ _ h=>h) (Or.inl ⟨by rfl,?hy17⟩) (by assumption) ?rest17
   case hy17=>((intro w hSw;(try dsimp only at hSw);go_simp;try with_reducible rfl))
   try simp only[Act.put]
   refine wpAnyH_ready (rs:=[4,12]) (by kernel_rfl) (by simp) ?_
   refine AllReadyH.cons (o:=_) rfl (fun KK hK=>?_) ?_
   ·
    go_simp
    refine hK.out _ _ ?hS18 (fun hHeld=>?rest18)
    case hS18=>((try dsimp only);(repeat' apply And.intro)<;>(first|assumption|exact(cell_far (Or.inl HNX.out.1) _).trans (by assumption)|exact(cell_far (Or.inl HNX.out.2) _).trans (by assumption)|exact(cell_far (Or.inr (by simp)) _).trans (by assumption)|go_keep))
    clear hK KK
    try simp only[Act.put,List.setIfInBounds_toArray,List.set_cons_zero,List.set_cons_succ]
    refine wpAnyH_ready (rs:=[12]) (by kernel_rfl) (by simp) ?_
    refine AllReadyH.cons (o:=_) rfl (fun KK hK=>?_) ?_
    ·
     go_simp
     go_at_call 23
     refine(HBR.out w6.drew (below_drewN (Below.refl w6.heap.size w6) 1)).mono ?_
     rintro e w7 ⟨ar2,cr2,ao2,co2,rfl,hr7,ho7,hb7⟩
     obtain⟨g2,rfl,hg2⟩:=zbf hr7 (by decide)
     have HB7:=Lib.hid (zac hb7 HO6.out.box ld)
     have HX7:=Lib.hid (zac hb7 HX6.out lx)
     have HC7:=Lib.hid (zac hb7 HC.out.box lc)
     have x7:w7.cell? ⟨xb,0,none⟩=some (.pointer (some ⟨K.db,0,none⟩)):=zaa HX7.out 0
     have d8:w7.cell? ⟨K.db,8,none⟩=some (.pointer (some ⟨cb,0,none⟩)):=zaa HB7.out 8
     have d10:w7.cell? ⟨K.db,10,none⟩=some (.slice al nl cl):=zaa HB7.out 10
     have d11:w7.cell? ⟨K.db,11,none⟩=some (.slice ap' pts'.length cp'):=zaa HB7.out 11
     first|(obtain⟨k0,k1,k2,k3,k4,k5,k6,k7,k8,k9,k10,k11⟩:=zaz HC7.out)|(obtain⟨k0,k1,k2,k3,k4,k5,k6,k7,k8,k9,k10,k11⟩:=zaA HC7.out)
     have f7:=zab HB7.out 11
     have l7:K.db<w7.heap.size:=(Array.getElem?_eq_some_iff.1 HB7.out).1
     have lx7:xb<w7.heap.size:=(Array.getElem?_eq_some_iff.1 HX7.out).1
     have lc7:cb<w7.heap.size:=(Array.getElem?_eq_some_iff.1 HC7.out).1
     have HR7:=Lib.hid hr7
     have HOO7:=Lib.hid ho7
     have HBB7:=Lib.hid hb7
     have HRP7:=Lib.hid (show RowP K ap' cp' pts' w7 from HRPD.out.below hb7)
     clear hr7 ho7 hb7 hg2
     refine hK.out _ _ ?hS19 (fun hHeld=>?rest19)
     case hS19=>((try dsimp only);(repeat' apply And.intro)<;>(first|assumption|exact(cell_far (Or.inl HNX.out.1) _).trans (by assumption)|exact(cell_far (Or.inl HNX.out.2) _).trans (by assumption)|exact(cell_far (Or.inr (by simp)) _).trans (by assumption)|go_keep))
     clear hK KK
     try simp only[Act.put,List.setIfInBounds_toArray,List.set_cons_zero,List.set_cons_succ]
     refine wpAnyH_take (i:=19) (oi:=_) (v:=?vv20) rfl (by kernel_rfl) (by kernel_rfl) (by kernel_rfl) (fun _ _ _ h=>h) (Or.inl ⟨by rfl,?hy20⟩) (by assumption) ?rest20
     case hy20=>((intro w hSw;(try dsimp only at hSw);go_simp;try with_reducible rfl))
     try simp only[Act.put,List.setIfInBounds_toArray]
     refine wpAnyH_ready (rs:=[20]) (by kernel_rfl) (by simp) ?_
     refine AllReadyH.cons (o:=_) rfl (fun KK hK=>?_) ?_
     ·
      go_simp
      refine hK.out _ _ ?hS21 (fun hHeld=>?rest21)
      case hS21=>((try dsimp only);(repeat' apply And.intro)<;>(first|assumption|exact(cell_far (Or.inl HNX.out.1) _).trans (by assumption)|exact(cell_far (Or.inl HNX.out.2) _).trans (by assumption)|exact(cell_far (Or.inr (by simp)) _).trans (by assumption)|go_keep))
      clear hK KK
      try simp only[Act.put,List.setIfInBounds_toArray,List.set_cons_zero,List.set_cons_succ]
      refine wpAnyH_ready (rs:=[21]) (by kernel_rfl) (by simp) ?_
      refine AllReadyH.cons (o:=_) rfl (fun KK hK=>?_) ?_
      ·
       refine zcD w7 rfl (.tmp 53) (.tmp 69) 42 rfl K.w1.heap.size 86 zPt 14 168 Tryd.underlying42 zcp rfl (by decide) (Pt.cells ⟨m,i,LL,nb,pg,g2,cr2,ao2,co2,al,nl,cl⟩) rfl (zfU _) _ _ _ (by rfl) HRP7.out (by rfl) rfl (by omega) (by omega) (by have:=HO6.out.wlo HK.out;have:=HBB7.out.size;simp at this;omega) ?_
       intro g8 cp8 w8 hown8 hgrow8
       have hb8:=zam hgrow8 HB7.out (zad HRP7.out HB7.out (by decide))
       have hx8:=zam hgrow8 HX7.out (zad HRP7.out HX7.out (by decide))
       have hc8:=zam hgrow8 HC7.out (zad HRP7.out HC7.out (by decide))
       have x8:w8.cell? ⟨xb,0,none⟩=some (.pointer (some ⟨K.db,0,none⟩)):=zaa hx8 0
       have e8:w8.cell? ⟨K.db,8,none⟩=some (.pointer (some ⟨cb,0,none⟩)):=zaa hb8 8
       have e10:w8.cell? ⟨K.db,10,none⟩=some (.slice al nl cl):=zaa hb8 10
       have e11:w8.cell? ⟨K.db,11,none⟩=some (.slice ap' pts'.length cp'):=zaa hb8 11
       first|(obtain⟨j0,j1,j2,j3,j4,j5,j6,j7,j8,j9,j10,j11⟩:=zaz hc8)|(obtain⟨j0,j1,j2,j3,j4,j5,j6,j7,j8,j9,j10,j11⟩:=zaA hc8)
       have f8:=zab hb8 11
       have l8:K.db<w8.heap.size:=(Array.getElem?_eq_some_iff.1 hb8).1
       have HR8:=Lib.hid hown8
       have HG8:=Lib.hid hgrow8
       clear hown8 hgrow8 hb8 hx8 hc8
       refine hK.out _ _ ?hS22 (fun hHeld=>?rest22)
       case hS22=>((try dsimp only);(repeat' apply And.intro)<;>(first|assumption|exact(cell_far (Or.inl HNX.out.1) _).trans (by assumption)|exact(cell_far (Or.inl HNX.out.2) _).trans (by assumption)|exact(cell_far (Or.inr (by simp)) _).trans (by assumption)|go_keep))
       clear hK KK
       try simp only[Act.put,List.setIfInBounds_toArray]
       refine wpAnyH_take (i:=22) (oi:=_) (v:=?vv23) rfl (by kernel_rfl) (by kernel_rfl) (by kernel_rfl) (fun _ _ _ h=>h) (Or.inl ⟨by rfl,?hy23⟩) (by assumption) ?rest23
       case hy23=>((intro w hSw;(try dsimp only at hSw);go_simp;try with_reducible rfl))
       try simp only[Act.put]
       refine wpAnyH_take (i:=23) (oi:=_) (v:=?vv24) rfl (by kernel_rfl) (by kernel_rfl) (by kernel_rfl) (fun _ _ _ h=>h) (Or.inl ⟨by rfl,?hy24⟩) (by assumption) ?rest24
       case hy24=>((intro w hSw;(try dsimp only at hSw);go_simp;try with_reducible rfl))
       try simp only[Act.put]
       refine wpAnyH_ready (rs:=[24]) (by kernel_rfl) (by simp) ?_
       refine AllReadyH.cons (o:=_) rfl (fun KK hK=>?_) ?_
       ·
        go_simp
        refine hK.out _ _ ?hS25 (fun hHeld=>?rest25)
        case hS25=>((try dsimp only);(repeat' apply And.intro)<;>(first|assumption|exact(cell_far (Or.inl HNX.out.1) _).trans (by assumption)|exact(cell_far (Or.inl HNX.out.2) _).trans (by assumption)|exact(cell_far (Or.inr (by simp)) _).trans (by assumption)|go_keep))
        clear hK KK
        try simp only[Act.put,List.setIfInBounds_toArray,List.set_cons_zero,List.set_cons_succ]
        refine wpAnyH_done (by kernel_rfl) ?_ _
        have HFIN:=Lib.hid (zcn HK.out HO6.out HBB7.out HR7.out HOO7.out HR8.out HG8.out HR.out.2.2.1 HR.out.2.1 HR.out.1 HF.out HR.out.2.2.2 HLN.out)
        clear hHeld
        go_wp2
        go_ret
        obtain⟨F2,ap2,cp2,pts2,h2⟩:=HFIN.out
        exact⟨rfl,F2,ap2,cp2,pts2,⟨h2,HR.out.1,HR.out.2.1,HR.out.2.2.1,HR.out.2.2.2⟩⟩
       exact AllReadyH.nil
      exact AllReadyH.nil
     exact AllReadyH.nil
    exact AllReadyH.nil
   refine AllReadyH.cons (o:=_) rfl (fun KK hK=>?_) ?_
   ·
    go_simp
    go_at_call 23
    refine(HBR.out w6.drew (below_drewN (Below.refl w6.heap.size w6) 1)).mono ?_
    rintro e w7 ⟨ar2,cr2,ao2,co2,rfl,hr7,ho7,hb7⟩
    obtain⟨g2,rfl,hg2⟩:=zbf hr7 (by decide)
    have HB7:=Lib.hid (zac hb7 HO6.out.box ld)
    have HX7:=Lib.hid (zac hb7 HX6.out lx)
    have HC7:=Lib.hid (zac hb7 HC.out.box lc)
    have x7:w7.cell? ⟨xb,0,none⟩=some (.pointer (some ⟨K.db,0,none⟩)):=zaa HX7.out 0
    have d8:w7.cell? ⟨K.db,8,none⟩=some (.pointer (some ⟨cb,0,none⟩)):=zaa HB7.out 8
    have d10:w7.cell? ⟨K.db,10,none⟩=some (.slice al nl cl):=zaa HB7.out 10
    have d11:w7.cell? ⟨K.db,11,none⟩=some (.slice ap' pts'.length cp'):=zaa HB7.out 11
    first|(obtain⟨k0,k1,k2,k3,k4,k5,k6,k7,k8,k9,k10,k11⟩:=zaz HC7.out)|(obtain⟨k0,k1,k2,k3,k4,k5,k6,k7,k8,k9,k10,k11⟩:=zaA HC7.out)
    have f7:=zab HB7.out 11
    have l7:K.db<w7.heap.size:=(Array.getElem?_eq_some_iff.1 HB7.out).1
    have lx7:xb<w7.heap.size:=(Array.getElem?_eq_some_iff.1 HX7.out).1
    have lc7:cb<w7.heap.size:=(Array.getElem?_eq_some_iff.1 HC7.out).1
    have HR7:=Lib.hid hr7
    have HOO7:=Lib.hid ho7
    have HBB7:=Lib.hid hb7
    have HRP7:=Lib.hid (show RowP K ap' cp' pts' w7 from HRPD.out.below hb7)
    clear hr7 ho7 hb7 hg2
    refine hK.out _ _ ?hS26 (fun hHeld=>?rest26)
    case hS26=>((try dsimp only);(repeat' apply And.intro)<;>(first|assumption|exact(cell_far (Or.inl HNX.out.1) _).trans (by assumption)|exact(cell_far (Or.inl HNX.out.2) _).trans (by assumption)|exact(cell_far (Or.inr (by simp)) _).trans (by assumption)|go_keep))
    clear hK KK
    try simp only[Act.put,List.setIfInBounds_toArray,List.set_cons_zero,List.set_cons_succ]
    refine wpAnyH_take (i:=19) (oi:=_) (v:=?vv27) rfl (by kernel_rfl) (by kernel_rfl) (by kernel_rfl) (fun _ _ _ h=>h) (Or.inl ⟨by rfl,?hy27⟩) (by assumption) ?rest27
    case hy27=>((intro w hSw;(try dsimp only at hSw);go_simp;try with_reducible rfl))
    try simp only[Act.put,List.setIfInBounds_toArray]
    refine wpAnyH_ready (rs:=[4,20]) (by kernel_rfl) (by simp) ?_
    refine AllReadyH.cons (o:=_) rfl (fun KK hK=>?_) ?_
    ·
     go_simp
     refine hK.out _ _ ?hS28 (fun hHeld=>?rest28)
     case hS28=>((try dsimp only);(repeat' apply And.intro)<;>(first|assumption|exact(cell_far (Or.inl HNX.out.1) _).trans (by assumption)|exact(cell_far (Or.inl HNX.out.2) _).trans (by assumption)|exact(cell_far (Or.inr (by simp)) _).trans (by assumption)|go_keep))
     clear hK KK
     try simp only[Act.put,List.setIfInBounds_toArray,List.set_cons_zero,List.set_cons_succ]
     refine wpAnyH_ready (rs:=[20]) (by kernel_rfl) (by simp) ?_
     refine AllReadyH.cons (o:=_) rfl (fun KK hK=>?_) ?_
     ·
      go_simp
      refine hK.out _ _ ?hS29 (fun hHeld=>?rest29)
      case hS29=>((try dsimp only);(repeat' apply And.intro)<;>(first|assumption|exact(cell_far (Or.inl HNX.out.1) _).trans (by assumption)|exact(cell_far (Or.inl HNX.out.2) _).trans (by assumption)|exact(cell_far (Or.inr (by simp)) _).trans (by assumption)|go_keep))
      clear hK KK
      try simp only[Act.put,List.setIfInBounds_toArray,List.set_cons_zero,List.set_cons_succ]
      refine wpAnyH_ready (rs:=[21]) (by kernel_rfl) (by simp) ?_
      refine AllReadyH.cons (o:=_) rfl (fun KK hK=>?_) ?_
      ·
       refine zcD w7 rfl (.tmp 53) (.tmp 69) 42 rfl K.w1.heap.size 86 zPt 14 168 Tryd.underlying42 zcp rfl (by decide) (Pt.cells ⟨m,i,LL,nb,pg,g2,cr2,ao2,co2,al,nl,cl⟩) rfl (zfU _) _ _ _ (by rfl) HRP7.out (by rfl) rfl (by omega) (by omega) (by have:=HO6.out.wlo HK.out;have:=HBB7.out.size;simp at this;omega) ?_
       intro g8 cp8 w8 hown8 hgrow8
       have hb8:=zam hgrow8 HB7.out (zad HRP7.out HB7.out (by decide))
       have hx8:=zam hgrow8 HX7.out (zad HRP7.out HX7.out (by decide))
       have hc8:=zam hgrow8 HC7.out (zad HRP7.out HC7.out (by decide))
       have x8:w8.cell? ⟨xb,0,none⟩=some (.pointer (some ⟨K.db,0,none⟩)):=zaa hx8 0
       have e8:w8.cell? ⟨K.db,8,none⟩=some (.pointer (some ⟨cb,0,none⟩)):=zaa hb8 8
       have e10:w8.cell? ⟨K.db,10,none⟩=some (.slice al nl cl):=zaa hb8 10
       have e11:w8.cell? ⟨K.db,11,none⟩=some (.slice ap' pts'.length cp'):=zaa hb8 11
       first|(obtain⟨j0,j1,j2,j3,j4,j5,j6,j7,j8,j9,j10,j11⟩:=zaz hc8)|(obtain⟨j0,j1,j2,j3,j4,j5,j6,j7,j8,j9,j10,j11⟩:=zaA hc8)
       have f8:=zab hb8 11
       have l8:K.db<w8.heap.size:=(Array.getElem?_eq_some_iff.1 hb8).1
       have HR8:=Lib.hid hown8
       have HG8:=Lib.hid hgrow8
       clear hown8 hgrow8 hb8 hx8 hc8
       refine hK.out _ _ ?hS30 (fun hHeld=>?rest30)
       case hS30=>((try dsimp only);(repeat' apply And.intro)<;>(first|assumption|exact(cell_far (Or.inl HNX.out.1) _).trans (by assumption)|exact(cell_far (Or.inl HNX.out.2) _).trans (by assumption)|exact(cell_far (Or.inr (by simp)) _).trans (by assumption)|go_keep))
       clear hK KK
       try simp only[Act.put,List.setIfInBounds_toArray]
       refine wpAnyH_take (i:=22) (oi:=_) (v:=?vv31) rfl (by kernel_rfl) (by kernel_rfl) (by kernel_rfl) (fun _ _ _ h=>h) (Or.inl ⟨by rfl,?hy31⟩) (by assumption) ?rest31
       case hy31=>((intro w hSw;(try dsimp only at hSw);go_simp;try with_reducible rfl))
       try simp only[Act.put]
       refine wpAnyH_take (i:=23) (oi:=_) (v:=?vv32) rfl (by kernel_rfl) (by kernel_rfl) (by kernel_rfl) (fun _ _ _ h=>h) (Or.inl ⟨by rfl,?hy32⟩) (by assumption) ?rest32
       case hy32=>((intro w hSw;(try dsimp only at hSw);go_simp;try with_reducible rfl))
       try simp only[Act.put]
       refine wpAnyH_ready (rs:=[24]) (by kernel_rfl) (by simp) ?_
       refine AllReadyH.cons (o:=_) rfl (fun KK hK=>?_) ?_
       ·
        go_simp
        refine hK.out _ _ ?hS33 (fun hHeld=>?rest33)
        case hS33=>((try dsimp only);(repeat' apply And.intro)<;>(first|assumption|exact(cell_far (Or.inl HNX.out.1) _).trans (by assumption)|exact(cell_far (Or.inl HNX.out.2) _).trans (by assumption)|exact(cell_far (Or.inr (by simp)) _).trans (by assumption)|go_keep))
        clear hK KK
        try simp only[Act.put,List.setIfInBounds_toArray,List.set_cons_zero,List.set_cons_succ]
        refine wpAnyH_done (by kernel_rfl) ?_ _
        have HFIN:=Lib.hid (zcn HK.out HO6.out HBB7.out HR7.out HOO7.out HR8.out HG8.out HR.out.2.2.1 HR.out.2.1 HR.out.1 HF.out HR.out.2.2.2 HLN.out)
        clear hHeld
        go_wp2
        go_ret
        obtain⟨F2,ap2,cp2,pts2,h2⟩:=HFIN.out
        exact⟨rfl,F2,ap2,cp2,pts2,⟨h2,HR.out.1,HR.out.2.1,HR.out.2.2.1,HR.out.2.2.2⟩⟩
       exact AllReadyH.nil
      exact AllReadyH.nil
     exact AllReadyH.nil
    refine AllReadyH.cons (o:=_) rfl (fun KK hK=>?_) ?_
    ·
     go_simp
     refine hK.out _ _ ?hS34 (fun hHeld=>?rest34)
     case hS34=>((try dsimp only);(repeat' apply And.intro)<;>(first|assumption|exact(cell_far (Or.inl HNX.out.1) _).trans (by assumption)|exact(cell_far (Or.inl HNX.out.2) _).trans (by assumption)|exact(cell_far (Or.inr (by simp)) _).trans (by assumption)|go_keep))
     clear hK KK
     try simp only[Act.put,List.setIfInBounds_toArray,List.set_cons_zero,List.set_cons_succ]
     refine wpAnyH_ready (rs:=[4]) (by kernel_rfl) (by simp) ?_
     refine AllReadyH.cons (o:=_) rfl (fun KK hK=>?_) ?_
     ·
      go_simp
      refine hK.out _ _ ?hS35 (fun hHeld=>?rest35)
      case hS35=>((try dsimp only);(repeat' apply And.intro)<;>(first|assumption|exact(cell_far (Or.inl HNX.out.1) _).trans (by assumption)|exact(cell_far (Or.inl HNX.out.2) _).trans (by assumption)|exact(cell_far (Or.inr (by simp)) _).trans (by assumption)|go_keep))
      clear hK KK
      try simp only[Act.put,List.setIfInBounds_toArray,List.set_cons_zero,List.set_cons_succ]
      refine wpAnyH_ready (rs:=[21]) (by kernel_rfl) (by simp) ?_
      refine AllReadyH.cons (o:=_) rfl (fun KK hK=>?_) ?_
      ·
       refine zcD w7 rfl (.tmp 53) (.tmp 69) 42 rfl K.w1.heap.size 86 zPt 14 168 Tryd.underlying42 zcp rfl (by decide) (Pt.cells ⟨m,i,LL,nb,pg,g2,cr2,ao2,co2,al,nl,cl⟩) rfl (zfU _) _ _ _ (by rfl) HRP7.out (by rfl) rfl (by omega) (by omega) (by have:=HO6.out.wlo HK.out;have:=HBB7.out.size;simp at this;omega) ?_
       intro g8 cp8 w8 hown8 hgrow8
       have hb8:=zam hgrow8 HB7.out (zad HRP7.out HB7.out (by decide))
       have hx8:=zam hgrow8 HX7.out (zad HRP7.out HX7.out (by decide))
       have hc8:=zam hgrow8 HC7.out (zad HRP7.out HC7.out (by decide))
       have x8:w8.cell? ⟨xb,0,none⟩=some (.pointer (some ⟨K.db,0,none⟩)):=zaa hx8 0
       have e8:w8.cell? ⟨K.db,8,none⟩=some (.pointer (some ⟨cb,0,none⟩)):=zaa hb8 8
       have e10:w8.cell? ⟨K.db,10,none⟩=some (.slice al nl cl):=zaa hb8 10
       have e11:w8.cell? ⟨K.db,11,none⟩=some (.slice ap' pts'.length cp'):=zaa hb8 11
       first|(obtain⟨j0,j1,j2,j3,j4,j5,j6,j7,j8,j9,j10,j11⟩:=zaz hc8)|(obtain⟨j0,j1,j2,j3,j4,j5,j6,j7,j8,j9,j10,j11⟩:=zaA hc8)
       have f8:=zab hb8 11
       have l8:K.db<w8.heap.size:=(Array.getElem?_eq_some_iff.1 hb8).1
       have HR8:=Lib.hid hown8
       have HG8:=Lib.hid hgrow8
       clear hown8 hgrow8 hb8 hx8 hc8
       refine hK.out _ _ ?hS36 (fun hHeld=>?rest36)
       case hS36=>((try dsimp only);(repeat' apply And.intro)<;>(first|assumption|exact(cell_far (Or.inl HNX.out.1) _).trans (by assumption)|exact(cell_far (Or.inl HNX.out.2) _).trans (by assumption)|exact(cell_far (Or.inr (by simp)) _).trans (by assumption)|go_keep))
       clear hK KK
       try simp only[Act.put,List.setIfInBounds_toArray]
       refine wpAnyH_take (i:=22) (oi:=_) (v:=?vv37) rfl (by kernel_rfl) (by kernel_rfl) (by kernel_rfl) (fun _ _ _ h=>h) (Or.inl ⟨by rfl,?hy37⟩) (by assumption) ?rest37
       case hy37=>((intro w hSw;(try dsimp only at hSw);go_simp;try with_reducible rfl))
       try simp only[Act.put]
       refine wpAnyH_take (i:=23) (oi:=_) (v:=?vv38) rfl (by kernel_rfl) (by kernel_rfl) (by kernel_rfl) (fun _ _ _ h=>h) (Or.inl ⟨by rfl,?hy38⟩) (by assumption) ?rest38
       case hy38=>((intro w hSw;(try dsimp only at hSw);go_simp;try with_reducible rfl))
       try simp only[Act.put]
       refine wpAnyH_ready (rs:=[24]) (by kernel_rfl) (by simp) ?_
       refine AllReadyH.cons (o:=_) rfl (fun KK hK=>?_) ?_
       ·
        go_simp
        refine hK.out _ _ ?hS39 (fun hHeld=>?rest39)
        case hS39=>((try dsimp only);(repeat' apply And.intro)<;>(first|assumption|exact(cell_far (Or.inl HNX.out.1) _).trans (by assumption)|exact(cell_far (Or.inl HNX.out.2) _).trans (by assumption)|exact(cell_far (Or.inr (by simp)) _).trans (by assumption)|go_keep))
        clear hK KK
        try simp only[Act.put,List.setIfInBounds_toArray,List.set_cons_zero,List.set_cons_succ]
        refine wpAnyH_done (by kernel_rfl) ?_ _
        have HFIN:=Lib.hid (zcn HK.out HO6.out HBB7.out HR7.out HOO7.out HR8.out HG8.out HR.out.2.2.1 HR.out.2.1 HR.out.1 HF.out HR.out.2.2.2 HLN.out)
        clear hHeld
        go_wp2
        go_ret
        obtain⟨F2,ap2,cp2,pts2,h2⟩:=HFIN.out
        exact⟨rfl,F2,ap2,cp2,pts2,⟨h2,HR.out.1,HR.out.2.1,HR.out.2.2.1,HR.out.2.2.2⟩⟩
       exact AllReadyH.nil
      exact AllReadyH.nil
     exact AllReadyH.nil
    exact AllReadyH.nil
   exact AllReadyH.nil
end
end Go.Proofs.YtflonfcemlfbdaaDoor
