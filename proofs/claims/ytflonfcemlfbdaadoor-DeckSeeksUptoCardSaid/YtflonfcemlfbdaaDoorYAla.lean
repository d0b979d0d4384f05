/- Several texts joined, each with its own heading in the notes: The document's list of all guests of a tape, in memory of the call's own. hourglassref. No condition beyond those of each row. -/
import Derived.Test.YtflonfcemlfbdaaDoorYVp
import Derived.Test.YtflonfcemlfbdaaDoorYOw
import Derived.Test.YtflonfcemlfbdaaDoorYKr
import Derived.Test.YtflonfcemlfbdaaDoorYSu
import Derived.Test.YtflonfcemlfbdaaDoorYWa
import Derived.Test.YtflonfcemlfbdaaDoorYNg
import Derived.Test.YtflonfcemlfbdaaDoorYTe
import Derived.Handy
import Derived.StillTailTactics
import Derived.Deep.RegionWith
import Derived.Deep.RegionLaw
import Derived.Deep.CutBlock
import Derived.Deep.CutRange
import Derived.Deep.RegionHeld3
import Derived.Deep.LoopGhost
namespace Go.Proofs.YtflonfcemlfbdaaDoor
open Go Go.RowKit Go.ChangeShapes Go.WideShapes Go.Deep
set_option linter.unusedVariables false
set_option linter.unusedSimpArgs false
theorem setCells_eq{g k:Nat}(hne:k≠g):∀(vs:List Value) (i:Nat) (w:World),(setCells w g i vs).heap[k]?=w.heap[k]?
 | [],_,_=>rfl
 | v::vs,i,w=>(setCells_eq hne vs (i+1) _).trans (Below.heap_setCell w ⟨g,i,none⟩ v k hne)
theorem setCells_size(g:Nat):∀(vs:List Value) (i:Nat) (w:World),(setCells w g i vs).heap.size=w.heap.size
 | [],_,_=>rfl
 | v::vs,i,w=>(setCells_size g vs (i+1) _).trans (by simp)
theorem zcd{F:Nat→Prop}{a:World}{g:Nat}(hp:F g∨a.heap.size≤g):∀(vs:List Value) (i:Nat) (w:World),OutF F a w→OutF F a (setCells w g i vs)
 | [],_,_,h=>h
 | v::vs,i,w,h=>zcd hp vs (i+1) _ (h.setCell hp v)
theorem ZA.stay{w0:World}{D:Nat→Prop}{gr cr mb cm:Nat}{m:Mach}{ao:Option Addr}{co:Nat}{w w':World}(h:ZA w0 D gr cr mb cm m ao co w)(hs:∀g,Dz gr mb ao m.out.length co g→w'.heap[g]?=w.heap[g]?)(ho:OutF D w0 w'):ZA w0 D gr cr mb cm m ao co w':=
 ⟨zaI h.regs (fun g hg=>hs g (Or.inl (by injection hg with e;exact e.symm))),zaI h.mem (fun g hg=>hs g (Or.inr (Or.inl (by injection hg with e;exact e.symm)))),zaI h.out (fun g hg=>hs g (Or.inr (Or.inr hg))),h.rm,h.ro,h.mo,ho,h.lr,h.lm,h.lo⟩
theorem ZA.dlt{w0:World}{D:Nat→Prop}{gr cr mb cm:Nat}{m:Mach}{ao:Option Addr}{co:Nat}{w:World}(h:ZA w0 D gr cr mb cm m ao co w){g:Nat}(hg:Dz gr mb ao m.out.length co g):g<w.heap.size:=by
 rcases hg with rfl|rfl|hg
 ·exact h.lt.1
 ·exact h.lt.2
 ·exact(h.out.lt g hg).2
theorem ZA.dty{w0:World}{D:Nat→Prop}{gr cr mb cm:Nat}{m:Mach}{ao:Option Addr}{co:Nat}{w:World}(h:ZA w0 D gr cr mb cm m ao co w){g:Nat}(hg:Dz gr mb ao m.out.length co g):Ty w g 3:=by
 rcases hg with rfl|rfl|hg
 ·exact zaD h.regs rfl
 ·exact zaD h.mem rfl
 ·exact zaD h.out hg
def zcv(gr cr mb cm:Nat)(m:Mach)(ao:Option Addr)(co:Nat):List Value:=[.slice (some ⟨gr,0,none⟩) 8 cr,.int .i64 m.pc,.int .i64 m.back,.bool m.ints,.bool m.wait,.int .i64 m.table,.int .i64 m.count,.int .i64 m.fin,.slice (some ⟨mb,0,none⟩) 256 cm,.slice ao m.out.length co,.int .i64 m.ready,.int .i64 m.want]
structure AllS(w1:World)(gb gr cr mb cm:Nat)(m:Mach)(ao:Option Addr)(co:Nat)(vl:Value)(l:List MG)(vw:Value)(zs:List Int)(w:World):Prop where
 box:w.heap[gb]?=some (.cells (zcv gr cr mb cm m ao co).toArray 48 (0,0))
 za:ZA w1 (fun _=>False) gr cr mb cm m ao co w
 outs:OutsR w1.heap.size w vl l
 wro:w.ownsRow w1.heap.size 3 1 vw zs.length (zs.map (Value.int .i64))
 so:∀g,OB vl l g→¬Dz gr mb ao m.out.length co g
 sw:∀g,vw.ownBlock=some g→¬Dz gr mb ao m.out.length co g
 sx:∀g,vw.ownBlock=some g→¬OB vl l g
 sb:vl.ownBlock≠some gb
 hb:w1.heap.size≤gb
section
variable {w1 w w':World} {gb gr cr mb cm:Nat} {m m':Mach} {ao ao':Option Addr} {co co':Nat} {vl vw:Value} {l:List MG} {zs:List Int}
theorem AllS.ob_ne(h:AllS w1 gb gr cr mb cm m ao co vl l vw zs w){g:Nat}(hg:OB vl l g):g≠gb:=by
 rintro rfl
 rcases hg with q|⟨x,hx,q⟩
 ·exact h.sb q
 ·
  have:=zaL ((h.outs.el x hx).ty q) ⟨_,_,h.box⟩
  exact absurd this (by decide)
theorem AllS.below(h:AllS w1 gb gr cr mb cm m ao co vl l vw zs w)(hb':Below w.heap.size w w'):AllS w1 gb gr cr mb cm m ao co vl l vw zs w':=
 ⟨zac hb' h.box (Array.getElem?_eq_some_iff.1 h.box).1,h.za.kept hb',h.outs.below hb',own_below h.wro hb' (Nat.le_refl _),h.so,h.sw,h.sx,h.sb,h.hb⟩
theorem AllS.step(h:AllS w1 gb gr cr mb cm m ao co vl l vw zs w)(hz:ZA w (Dz gr mb ao m.out.length co) gr cr mb cm m' ao' co' w'):AllS w1 gb gr cr mb cm m' ao' co' vl l vw zs (setCells w' gb 0 (zcv gr cr mb cm m' ao' co')):=by
 have hlt:=(Array.getElem?_eq_some_iff.1 h.box).1
 have hnd:¬Dz gr mb ao m.out.length co gb:=h.za.nd h.box (by decide)
 have hbx:w'.heap[gb]?=some (.cells (zcv gr cr mb cm m ao co).toArray 48 (0,0)):=hz.old.at h.box hnd
 have hz1:=h.za.back hz
 have hz2:∀g,Dz gr mb ao' m'.out.length co' g→g≠gb:=fun g hg e=>by
  subst e
  exact absurd (zaL (hz1.dty hg) ⟨_,_,hbx⟩) (by decide)
 have hnew:∀g,g<w.heap.size→¬Dz gr mb ao m.out.length co g→¬Dz gr mb ao' m'.out.length co' g:=fun g hg hd q=>by
  rcases q with q|q|q
  ·exact hd (Or.inl q)
  ·exact hd (Or.inr (Or.inl q))
  ·
   rcases hz.lo g q with q|q
   ·exact hd q
   ·omega
 have hst:∀g,g<w.heap.size→g≠gb→¬Dz gr mb ao m.out.length co g→(setCells w' gb 0 (zcv gr cr mb cm m' ao' co')).heap[g]?=w.heap[g]?:=fun g hg hne hd=>(setCells_eq hne _ _ _).trans (hz.old.block g hg hd)
 refine⟨zes (old:=zcv gr cr mb cm m ao co) rfl hbx,hz1.stay (fun g hg=>setCells_eq (hz2 g hg) _ _ _) (zcd (Or.inr h.hb) _ _ _ hz1.old),h.outs.stay (fun g hg=>hst g (h.outs.lt hg).2 (h.ob_ne hg) (h.so g hg)),zaI h.wro (fun g hg=>hst g (h.wro.lt g hg).2 (fun e=>?_) (h.sw g hg)),fun g hg=>hnew g (h.outs.lt hg).2 (h.so g hg),fun g hg=>hnew g (h.wro.lt g hg).2 (h.sw g hg),h.sx,h.sb,h.hb⟩
 subst e
 exact absurd (zaL (zaD h.wro hg) ⟨_,_,h.box⟩) (by decide)
theorem AllS.push(h:AllS w1 gb gr cr mb cm m ao co vl l vw zs w){x:MG}(hx:MGR w1.heap.size w x)(hxd:∀g,x.own g→¬Dz gr mb ao m.out.length co g∧vw.ownBlock≠some g)(hg:w.grownBy w' vl.ownBlock){g cap:Nat}(ho:w'.ownsRow w1.heap.size 48 12 (.slice (some ⟨g,0,none⟩) (l.length+1) cap) (l.length+1) (l.flatMap MG.cells++x.cells))(hn:vl.ownBlock=some g∨w.heap.size≤g):AllS w1 gb gr cr mb cm m ao co (.slice (some ⟨g,0,none⟩) (l++[x]).length cap) (l++[x]) vw zs w':=by
 have tr:∀k,vl.ownBlock=some k→Ty w k 48:=fun k hk=>zaD h.outs.row hk
 have hst:∀k,Ty w k 3→w'.heap[k]?=w.heap[k]?:=fun k hk=>hg.block k (Array.getElem?_eq_some_iff.1 hk.choose_spec.choose_spec).1 (fun e=>absurd (zaL hk (tr k e.symm)) (by decide))
 have hin:∀k,OB (.slice (some ⟨g,0,none⟩) (l++[x]).length cap) (l++[x]) k→(k=g)∨OB vl l k∨x.own k:=fun k hk=>by
  rcases hk with q|⟨y,hy,q⟩
  ·injection q with q;exact Or.inl q.symm
  ·
   rcases List.mem_append.1 hy with hy|hy
   ·exact Or.inr (Or.inl (Or.inr ⟨y,hy,q⟩))
   ·rw[List.mem_singleton.1 hy] at q;exact Or.inr (Or.inr q)
 have hold:OutF (fun _=>False) w1 w':=h.za.old.grown hg (fun k hk=>Or.inr (h.outs.row.lt k hk).1)
 have hgb:w'.heap[gb]?=w.heap[gb]?:=hg.block gb (Array.getElem?_eq_some_iff.1 h.box).1 (fun e=>h.sb e.symm)
 have hgt:∀k,Ty w k 3→k≠g:=fun k hk e=>by
  subst e
  rcases hn with q|q
  ·exact absurd (zaL hk (tr _ q)) (by decide)
  ·have:=(Array.getElem?_eq_some_iff.1 hk.choose_spec.choose_spec).1;omega
 refine⟨hgb.trans h.box,h.za.stay (fun k hk=>hst k (h.za.dty hk)) hold,h.outs.push (hx.stay (fun k hk=>hst k (hx.ty hk))) hg ho,zaI h.wro (fun k hk=>hst k (zaD h.wro hk)),fun k hk hd=>?_,h.sw,fun k hk hq=>?_,fun e=>?_,h.hb⟩
 ·
  rcases hin k hk with rfl|q|q
  ·exact hgt _ (h.za.dty hd) rfl
  ·exact h.so k q hd
  ·exact(hxd k q).1 hd
 ·
  rcases hin k hq with rfl|q|q
  ·exact hgt _ (zaD h.wro hk) rfl
  ·exact h.sx k hk q
  ·exact(hxd k q).2 hk
 ·
  have e:g=gb:=by simpa[Value.ownBlock] using e
  subst e
  rcases hn with q|q
  ·exact h.sb q
  ·have:=(Array.getElem?_eq_some_iff.1 h.box).1;omega
theorem AllS.pushW(h:AllS w1 gb gr cr mb cm m ao co vl l vw zs w){z:Int}(hg:w.grownBy w' vw.ownBlock){g cap:Nat}(ho:w'.ownsRow w1.heap.size 3 1 (.slice (some ⟨g,0,none⟩) (zs.length+1) cap) (zs.length+1) (zs.map (Value.int .i64)++[.int .i64 z]))(hn:vw.ownBlock=some g∨w.heap.size≤g):AllS w1 gb gr cr mb cm m ao co vl l (.slice (some ⟨g,0,none⟩) (zs++[z]).length cap) (zs++[z]) w':=by
 have hold:OutF (fun _=>False) w1 w':=h.za.old.grown hg (fun k hk=>Or.inr (h.wro.lt k hk).1)
 have hst:∀k,k<w.heap.size→vw.ownBlock≠some k→w'.heap[k]?=w.heap[k]?:=fun k hk hne=>hg.block k hk (fun e=>hne e.symm)
 have hgb:w'.heap[gb]?=w.heap[gb]?:=hst gb (Array.getElem?_eq_some_iff.1 h.box).1 (fun e=>absurd (zaL (zaD h.wro e) ⟨_,_,h.box⟩) (by decide))
 have hk:∀k,(Value.slice (some ⟨g,0,none⟩) (zs++[z]).length cap).ownBlock=some k→vw.ownBlock=some k∨w.heap.size≤k:=fun k hk=>by
  have hk:g=k:=by simpa[Value.ownBlock] using hk
  subst hk
  rcases hn with q|q
  ·exact Or.inl q
  ·exact Or.inr (by omega)
 refine⟨hgb.trans h.box,h.za.stay (fun k hd=>hst k (h.za.dlt hd) (fun e=>h.sw k e hd)) hold,h.outs.stay (fun k hd=>hst k (h.outs.lt hd).2 (fun e=>h.sx k e hd)),by rw[List.length_append,List.map_append];exact ho,h.so,fun k hq hd=>?_,fun k hq hd=>?_,h.sb,h.hb⟩
 ·
  rcases hk k hq with q|q
  ·exact h.sw k q hd
  ·have:=h.za.dlt hd;omega
 ·
  rcases hk k hq with q|q
  ·exact h.sx k q hd
  ·have:=(h.outs.lt hd).2;omega
end
def wroM(L:List Ev)(m0:Mach):Nat→Int
 | 0=>-1
 | k+1=>(onM (runM L m0 k) L k).2
end Go.Proofs.YtflonfcemlfbdaaDoor
namespace Go.Proofs.YtflonfcemlfbdaaDoor
open Go Go.RowKit Go.ChangeShapes Go.WideShapes Go.Deep
set_option maxHeartbeats 16000000
set_option maxRecDepth 100000
set_option linter.unusedVariables false
set_option linter.unusedSimpArgs false
attribute [local go_sem ↓] Go.wp_at_zero Go.wp_at_succ
theorem zju{w0 w:World}{D:Nat→Prop}{gr cr mb cm:Nat}{m:Mach}{ao:Option Addr}{co:Nat}(hok:MOk m)(h:ZA w0 D gr cr mb cm m ao co w):Calls Tryd.prog 15 #[.agg #[.slice (some ⟨gr,0,none⟩) 8 cr,.int .i64 m.pc,.int .i64 m.back,.bool m.ints,.bool m.wait,.int .i64 m.table,.int .i64 m.count,.int .i64 m.fin,.slice (some ⟨mb,0,none⟩) 256 cm,.slice ao m.out.length co,.int .i64 m.ready,.int .i64 m.want]] w (zfo w m):=by
 have hr:Ints w.heap.size w (.slice (some ⟨gr,0,none⟩) m.regs.length cr) m.regs:=zaq (by rw[hok.regs];exact h.regs) (by have:=hok.regs;omega) (fun z hz=>(zaE hok.wr z hz).i64)
 have hm:Ints w.heap.size w (.slice (some ⟨mb,0,none⟩) m.mem.length cm) m.mem:=zaq (by rw[hok.mem];exact h.mem) (by have:=hok.mem;omega) (fun z hz=>(zaE hok.wm z hz).i64)
 have ho:Ints w.heap.size w (.slice ao m.out.length co) m.out:=zaq h.out (by have:=hok.out;omega) (fun z hz=>(zaE hok.wo z hz).i64)
 have:=zeu m _ _ _ _ _ _ w hr hm ho
 rwa [hok.regs,hok.mem] at this
def zh9(img:List Int)(N:Nat)(L:List Ev)(w:World)(e:Ending)(w':World):Prop:=∃va ca vw cw l,e=.returned (.tuple #[.slice va (N+1) ca,.slice vw (N+1) cw])∧OutsR w.heap.size w' (.slice va (N+1) ca) l∧l.map (·.m)=(List.range (N+1)).map (runM L (zas img))∧w'.ownsRow w.heap.size 3 1 (.slice vw (N+1) cw) (N+1) (((List.range (N+1)).map (wroM L (zas img))).map (Value.int .i64))∧Below w.heap.size w w'
theorem zia{w:World}{g base n:Nat}{t:TypeId}{vs:List Value}(h:w.heap[g]?=some (.cells vs.toArray t (0,0)))(hb:base≤g)(hn:vs.length=n):w.ownsRow base t n (.slice (some ⟨g,0,none⟩) 1 1) 1 vs:=
 ⟨by simp[hn],.inr ⟨g,1,_,rfl,hb,h,Nat.le_refl _,by unfold maxLen;omega,by simp[hn],by simp[hn,List.take_of_length_le]⟩⟩
theorem zkV{g:Nat}(h:OB (.slice none 0 0) [] g):False:=by
 rcases h with q|⟨x,hx,_⟩
 ·cases q
 ·cases hx
theorem zdp{α:Type}(f:Nat→α)(n:Nat):(List.range (n+1)).map f=(List.range n).map f++[f n]:=by rw[List.range_succ,List.map_append];rfl
theorem zj9{m:Mach}(h:MOk m)(ar am ao:Option Addr)(cr cm co:Nat):m.agg (.slice ar m.regs.length cr) (.slice am m.mem.length cm) (.slice ao m.out.length co)=m.agg (.slice ar 8 cr) (.slice am 256 cm) (.slice ao m.out.length co):=by rw[h.regs,h.mem]
theorem zib(vi ve:Value)(img:List Int)(b:List UInt8)(cnt:Int)(L:List Ev)(al:Option Addr)(cl:Nat)(w:World)(hi:Ints w.heap.size w vi img)(hb:BytesR w.heap.size w ve b)(hch:ChkR img b cnt 0 L)(hev:EvsR w.heap.size w (.slice al L.length cl) L):Calls Tryd.prog 14 #[.agg #[vi,ve,.int .i64 cnt],.slice al L.length cl] w (zh9 img cnt.toNat L w):=by
 have HGD:=Lib.hid (zdF hch)
 obtain⟨N,rfl⟩:∃N:Nat,cnt=N:=⟨cnt.toNat,by have:=HGD.out.2.1;omega⟩
 have hN:N≤3000:=by have:=HGD.out.2.2.1;omega
 rw[Int.toNat_natCast]
 obtain⟨ai,ci,rfl,_⟩:=id hi
 obtain⟨ae,ce,rfl,_⟩:=id hb
 have HIM:=Lib.hid (zcX HGD.out.1)
 have HB1:=Lib.hid (zai w (.cells #[.slice ai img.length ci,.slice ae b.length ce,.int .i64 N] 27 (0,0)))
 have HI1:=Lib.hid (hi.to HB1.out.size (zae HB1.out))
 have HEV:=Lib.hid (hev.to HB1.out.size (zae HB1.out))
 have HXT:=Lib.hid (show (w.alloc (.cells #[.slice ai img.length ci,.slice ae b.length ce,.int .i64 N] 27 (0,0))).heap[w.heap.size]?=some (.cells #[.slice ai img.length ci,.slice ae b.length ce,.int .i64 N] 27 (0,0)) from alloc_at rfl)
 obtain⟨w1,hw1⟩:∃w1,w1=w.alloc (.cells #[.slice ai img.length ci,.slice ae b.length ce,.int .i64 N] 27 (0,0)):=⟨_,rfl⟩
 rw[←hw1] at HB1 HI1 HEV HXT
 have HW1:=Lib.hid hw1
 obtain⟨gt,hgt⟩:∃gt,gt=w.heap.size:=⟨_,rfl⟩
 have HGT:=Lib.hid hgt
 have hn1:=HB1.out.size
 have HNW:=Lib.hid (zcs _ img w1 HI1.out)
 rw[HIM.out.2,HGD.out.1] at HNW
 generalize hm0:zas img=m0 at *
 have HC0:Hid (m0.count=0):=Lib.hid (by rw[←hm0];rfl)
 have HM0:=Lib.hid hm0
 clear hi hb hch hev hm0
 go_enter Tryd.func14,Tryd.ntmps14
 go_upto_region 1 with fail
 rw[←HW1.out,←HGT.out]
 rw[←HGT.out] at HXT
 have t0:w1.cell? ⟨gt,0,none⟩=some (.slice ai img.length ci):=zaa HXT.out 0
 have lt1:gt<w1.heap.size:=(Array.getElem?_eq_some_iff.1 HXT.out).1
 clear hw1 hgt
 go_wp2_with fail
 refine HNW.out.mono ?_
 rintro e w2 ⟨ar,cr,am,cm,ao,co,rfl,hown,hb2⟩
 rw[zj9 HIM.out.1,Mach.agg]
 have lt2:w1.heap.size≤w2.heap.size:=hb2.size
 obtain⟨gr,mb,rfl,rfl,hza⟩:=ziL HIM.out.1 hown hb2
 have HZ0:=Lib.hid hza
 have HXT2:=Lib.hid (zac hb2 HXT.out lt1)
 clear hza hown hb2 HNW t0
 go_upto_region 2 with fail
 have HZA:=Lib.hid (HZ0.out.kept (zai w2 (.cells #[.slice (some ⟨gr,0,none⟩) 8 cr,.int .i64 m0.pc,.int .i64 m0.back,.bool m0.ints,.bool m0.wait,.int .i64 m0.table,.int .i64 m0.count,.int .i64 m0.fin,.slice (some ⟨mb,0,none⟩) 256 cm,.slice ao m0.out.length co,.int .i64 m0.ready,.int .i64 m0.want] 48 (0,0))))
 have HBX0:=Lib.hid (show (w2.alloc (.cells #[.slice (some ⟨gr,0,none⟩) 8 cr,.int .i64 m0.pc,.int .i64 m0.back,.bool m0.ints,.bool m0.wait,.int .i64 m0.table,.int .i64 m0.count,.int .i64 m0.fin,.slice (some ⟨mb,0,none⟩) 256 cm,.slice ao m0.out.length co,.int .i64 m0.ready,.int .i64 m0.want] 48 (0,0))).heap[w2.heap.size]?=some (.cells #[.slice (some ⟨gr,0,none⟩) 8 cr,.int .i64 m0.pc,.int .i64 m0.back,.bool m0.ints,.bool m0.wait,.int .i64 m0.table,.int .i64 m0.count,.int .i64 m0.fin,.slice (some ⟨mb,0,none⟩) 256 cm,.slice ao m0.out.length co,.int .i64 m0.ready,.int .i64 m0.want] 48 (0,0)) from alloc_at rfl)
 generalize World.alloc w2 _=W3 at *
 generalize hgb:w2.heap.size=gb at *
 clear HZ0
 have HS3:Hid (AllS w1 gb gr cr mb cm m0 ao co (.slice none 0 0) [] (.slice none 0 0) [] W3):=Lib.hid ⟨HBX0.out,HZA.out,OutsR.nil _ _,World.ownsRow_nil _ _ _ _,fun g hg=>(zkV hg).elim,fun g hg=>(by cases hg),fun g hg=>(by cases hg),(by intro e;cases e),(by omega)⟩
 have lt3:w1.heap.size≤W3.heap.size:=HZA.out.old.size
 first|(obtain⟨p0,p1,p2,p3,p4,p5,p6,p7,p8,p9,p10,p11⟩:=zaz HBX0.out)|(obtain⟨p0,p1,p2,p3,p4,p5,p6,p7,p8,p9,p10,p11⟩:=zaA HBX0.out)
 have lgb:gb<W3.heap.size:=(Array.getElem?_eq_some_iff.1 HBX0.out).1
 have HGC:=Lib.hid (zju HIM.out.1 HZA.out)
 clear HZA HBX0 hgb
 go_wp2_with fail
 refine HGC.out.mono ?_
 rintro e w4 ⟨ar,dr,am,dm,a2,d2,rfl,hown,hb4⟩
 rw[Mach.agg]
 clear HGC p0 p1 p2 p3 p4 p5 p6 p7 p8 p9 p10 p11
 obtain⟨x,hx⟩:∃x:MG,x=⟨m0,ar,dr,am,dm,a2,d2⟩:=⟨_,rfl⟩
 have HXM:=Lib.hid (show x.m=m0 from by rw[hx])
 have HX4:=Lib.hid (show MGR W3.heap.size w4 x from by rw[hx];exact⟨hown.hr,hown.hm,hown.ho,HIM.out.1⟩)
 have HS4:=Lib.hid (HS3.out.below hb4)
 have lt4:W3.heap.size≤w4.heap.size:=hb4.size
 have HXC:=Lib.hid (show x.cells=[Value.slice ar m0.regs.length dr,.int .i64 m0.pc,.int .i64 m0.back,.bool m0.ints,.bool m0.wait,.int .i64 m0.table,.int .i64 m0.count,.int .i64 m0.fin,.slice am m0.mem.length dm,.slice a2 m0.out.length d2,.int .i64 m0.ready,.int .i64 m0.want] from by rw[hx];rfl)
 go_upto_region 3 with fail
 have HS5:=Lib.hid (HS4.out.push (w':=w4.alloc (.cells #[.slice ar m0.regs.length dr,.int .i64 m0.pc,.int .i64 m0.back,.bool m0.ints,.bool m0.wait,.int .i64 m0.table,.int .i64 m0.count,.int .i64 m0.fin,.slice am m0.mem.length dm,.slice a2 m0.out.length d2,.int .i64 m0.ready,.int .i64 m0.want] 48 (0,0))) (g:=w4.heap.size) (cap:=1) (HX4.out.low lt3) (fun g hg=>⟨fun hd=>by have:=HS3.out.za.dlt hd;have:=(HX4.out.lt hg).1;omega,fun e=>by cases e⟩) (World.grownBy_alloc _ _ _) (by rw[List.flatMap_nil,List.nil_append,HXC.out];exact zia (alloc_at rfl) (by omega) rfl) (Or.inr (Nat.le_refl _)))
 generalize hW5:World.alloc w4 _=W5 at *
 have lt5:w1.heap.size≤W5.heap.size:=by rw[←hW5];simp;omega
 clear hW5 HS4 HX4 HS3 HXC hown hb4
 go_upto_region 4 with fail
 have HS6:=Lib.hid (HS5.out.pushW (w':=W5.alloc (.cells #[.int .i64 (-1)] 3 (0,0))) (z:=-1) (g:=W5.heap.size) (cap:=1) (World.grownBy_alloc _ _ _) (zia (vs:=[.int .i64 (-1)]) (alloc_at rfl) lt5 rfl) (Or.inr (Nat.le_refl _)))
 generalize World.alloc W5 _=W6 at *
 generalize W5.heap.size=gw at *
 generalize w4.heap.size=g4 at *
 clear HS5
 have HS0:Hid (AllS w1 gb gr cr mb cm (runM L m0 0) ao co (.slice (some ⟨g4,0,none⟩) (0+1) 1) [x] (.slice (some ⟨gw,0,none⟩) (0+1) 1) ((List.range (0+1)).map (wroM L m0)) W6):=Lib.hid HS6.out
 have HL0:Hid (([x].map (·.m))=(List.range (0+1)).map (runM L m0)):=Lib.hid (by show [x.m]=[m0];rw[HXM.out])
 have HX6:=Lib.hid (HS6.out.za.old.at (HXT.out) (fun q=>q))
 clear HS6 HXM hx HXT2
 go_wp2_with fail
 go_loopg [8,9,10] N (fun gh s8 s9 s10 wr =>∃(i:Nat) (ao:Option Addr) (co:Nat) (va vw:Option Addr) (ca cw:Nat) (l:List MG),i≤N∧gh=N-i∧s8=.slice va (i+1) ca∧s9=.slice vw (i+1) cw∧s10=.int .i64 i∧Hid (AllS w1 gb gr cr mb cm (runM L m0 i) ao co (.slice va (i+1) ca) l (.slice vw (i+1) cw) ((List.range (i+1)).map (wroM L m0)) wr)∧Hid (l.map (·.m)=(List.range (i+1)).map (runM L m0)))
 case atStart=>exact⟨0,ao,co,_,_,_,_,_,Nat.zero_le _,by omega,rfl,rfl,rfl,HS0,HL0⟩
 case round=>
  clear HS0 HL0 HX6
  obtain⟨i,ao,co,va,vw,ca,cw,l,hi,rfl,rfl,rfl,rfl,HS,HL⟩:=hrel
  have HLN:Hid (l.length=i+1):=Lib.hid (by have:=congrArg List.length HL.out;simpa using this)
  have HZL:Hid (((List.range (i+1)).map (wroM L m0)).length=i+1):=Lib.hid (by simp)
  have t2:wr.cell? ⟨gt,2,none⟩=some (.int .i64 N):=zaa (HS.out.za.old.at HXT.out (fun q=>q)) 2
  have ltw:gt<wr.heap.size:=by have:=HS.out.za.old.size;omega
  by_cases hlt:i<N
  ·
   have hli:(i:Int)<(N:Int):=by omega
   have hok:=zdC HGD.out.2.2.2.1 HIM.out.1 HC0.out i (by omega)
   have HOK2:=Lib.hid (zdC HGD.out.2.2.2.1 HIM.out.1 HC0.out (i+1) (by omega)).1
   have HDZ:=Lib.hid (show ∀g,g<w1.heap.size→¬Dz gr mb ao (runM L m0 i).out.length co g from fun g hg hd=>by
    rcases HS.out.za.dz g hd with q|q
    ·exact q
    ·omega)
   have HON:=Lib.hid (zgB (runM L m0 i) wr (Dz gr mb ao (runM L m0 i).out.length co) gr cr mb cm ao co w1.heap.size al L.length cl L i wr HS.out.za.base hok.1 (by have:=hok.2;omega) HS.out.za.old.size HDZ.out HGD.out.2.2.2.1 (HEV.out.to (Nat.le_refl _) (HS.out.za.old.same (Nat.le_refl _) (fun _ _ h=>h))))
   have HRU:Hid (runM L m0 (i+1)=(onM (runM L m0 i) L i).1):=Lib.hid rfl
   have HWU:Hid ((List.range (i+1+1)).map (wroM L m0)=(List.range (i+1)).map (wroM L m0)++[(onM (runM L m0 i) L i).2]):=Lib.hid (zdp _ _)
   have HRR:Hid ((List.range (i+1+1)).map (runM L m0)=(List.range (i+1)).map (runM L m0)++[(onM (runM L m0 i) L i).1]):=Lib.hid (zdp _ _)
   rw[HRU.out] at HOK2
   generalize hzs:(List.range (i+1)).map (wroM L m0)=zs at HS HWU HZL
   generalize (List.range (i+1)).map (runM L m0)=ms at HL HRR
   generalize hmi:runM L m0 i=mi at HS HDZ HON HRU HWU HRR hok HOK2
   generalize onM mi L i=on at HON HRU HWU HRR HOK2
   clear hok hmi hzs
   first|(obtain⟨p0,p1,p2,p3,p4,p5,p6,p7,p8,p9,p10,p11⟩:=zaz HS.out.box)|(obtain⟨p0,p1,p2,p3,p4,p5,p6,p7,p8,p9,p10,p11⟩:=zaA HS.out.box)
   have lgb:gb<wr.heap.size:=(Array.getElem?_eq_some_iff.1 HS.out.box).1
   have HND:=Lib.hid (HS.out.za.nd HS.out.box (by decide))
   go_wp2_with fail
   refine HON.out.mono ?_
   rintro e w5 ⟨ao2,co2,rfl,hz5⟩
   have HB5:=Lib.hid (hz5.old.at HS.out.box HND.out)
   have HS6:=Lib.hid (HS.out.step hz5)
   have lw5:wr.heap.size≤w5.heap.size:=hz5.old.size
   first|(obtain⟨r0,r1,r2,r3,r4,r5,r6,r7,r8,r9,r10,r11⟩:=zaz HB5.out)|(obtain⟨r0,r1,r2,r3,r4,r5,r6,r7,r8,r9,r10,r11⟩:=zaA HB5.out)
   have g0:=zab HB5.out 0
   have g1:=zab HB5.out 1
   have g2:=zab HB5.out 2
   have g3:=zab HB5.out 3
   have g4:=zab HB5.out 4
   have g5:=zab HB5.out 5
   have g6:=zab HB5.out 6
   have g7:=zab HB5.out 7
   have g8:=zab HB5.out 8
   have g9:=zab HB5.out 9
   have g10:=zab HB5.out 10
   have g11:=zab HB5.out 11
   have lg5:gb<w5.heap.size:=by omega
   clear hz5 HON HDZ HND HB5 t2 p0 p1 p2 p3 p4 p5 p6 p7 p8 p9 p10 p11
   go_upto_region 9 with fail
   change Code.wp _ _ _ _ (setCells w5 gb 0 (zcv gr cr mb cm on.1 ao2 co2))
   have lw6:(setCells w5 gb 0 (zcv gr cr mb cm on.1 ao2 co2)).heap.size=w5.heap.size:=setCells_size _ _ _ _
   generalize setCells w5 gb 0 (zcv gr cr mb cm on.1 ao2 co2)=w6 at *
   clear r0 g0 r1 g1 r2 g2 r3 g3 r4 g4 r5 g5 r6 g6 r7 g7 r8 g8 r9 g9 r10 g10 r11 g11
   first|(obtain⟨p0,p1,p2,p3,p4,p5,p6,p7,p8,p9,p10,p11⟩:=zaz HS6.out.box)|(obtain⟨p0,p1,p2,p3,p4,p5,p6,p7,p8,p9,p10,p11⟩:=zaA HS6.out.box)
   have lg6:gb<w6.heap.size:=by omega
   have HGC:=Lib.hid (zju HOK2.out HS6.out.za)
   go_wp2_with fail
   refine HGC.out.mono ?_
   rintro e w7 ⟨ar,dr,am,dm,a2,d2,rfl,hown,hb7⟩
   rw[Mach.agg]
   clear HGC p0 p1 p2 p3 p4 p5 p6 p7 p8 p9 p10 p11
   obtain⟨x,hx⟩:∃x:MG,x=⟨on.1,ar,dr,am,dm,a2,d2⟩:=⟨_,rfl⟩
   have HXM:=Lib.hid (show x.m=on.1 from by rw[hx])
   have HX7:=Lib.hid (show MGR w6.heap.size w7 x from by rw[hx];exact⟨hown.hr,hown.hm,hown.ho,HOK2.out⟩)
   have HS7:=Lib.hid (HS6.out.below hb7)
   have lw7:w6.heap.size≤w7.heap.size:=hb7.size
   have lw1:w1.heap.size≤w7.heap.size:=by have:=HS.out.za.old.size;omega
   have HXC:=Lib.hid (show x.cells=[Value.slice ar on.1.regs.length dr,.int .i64 on.1.pc,.int .i64 on.1.back,.bool on.1.ints,.bool on.1.wait,.int .i64 on.1.table,.int .i64 on.1.count,.int .i64 on.1.fin,.slice am on.1.mem.length dm,.slice a2 on.1.out.length d2,.int .i64 on.1.ready,.int .i64 on.1.want] from by rw[hx];rfl)
   have HXD:Hid (∀g,x.own g→¬Dz gr mb ao2 on.1.out.length co2 g∧(Value.slice vw (i+1) cw).ownBlock≠some g):=Lib.hid (fun g hg=>⟨fun hd=>by have:=HS6.out.za.dlt hd;have:=(HX7.out.lt hg).1;omega,fun e=>by have:=(HS6.out.wro.lt g e).2;have:=(HX7.out.lt hg).1;omega⟩)
   have HROW:=Lib.hid (show w7.ownsRow w1.heap.size 48 12 (.slice va (i+1) ca) (i+1) (l.flatMap MG.cells) from by have:=HS7.out.outs.row;rw[HLN.out] at this;exact this)
   have HX8:=Lib.hid (HX7.out.low (show w1.heap.size≤w6.heap.size from by have:=HS.out.za.old.size;omega))
   clear hx hown hb7 HX7 HS6 HS lw5
   generalize hz2:on.2=z2 at *
   go_wp2_with (at_builtin;(first|((refine za7 w7 rfl (.tmp 35) (.tmp 38) 28 rfl w1.heap.size 48 (.agg #[.slice none 0 0,.int .i64 0,.int .i64 0,.bool false,.bool false,.int .i64 0,.int .i64 0,.int .i64 0,.slice none 0 0,.slice none 0 0,.int .i64 0,.int .i64 0]) 12 136 Tryd.underlying28 zc4 rfl (by decide) [.slice ar on.1.regs.length dr,.int .i64 on.1.pc,.int .i64 on.1.back,.bool on.1.ints,.bool on.1.wait,.int .i64 on.1.table,.int .i64 on.1.count,.int .i64 on.1.fin,.slice am on.1.mem.length dm,.slice a2 on.1.out.length d2,.int .i64 on.1.ready,.int .i64 on.1.want] rfl (by simp[Value.oneCell']) _ _ _ (by rfl) HROW.out (by rfl) rfl (by omega) (by omega) (by omega) ?_);intro g5 cp5 w8 hown5 hgrow5 hn5;have HS8:=Lib.hid (HS7.out.push HX8.out HXD.out hgrow5 (g:=g5) (cap:=cp5) (by rw[HLN.out,HXC.out];exact hown5) (hn5.imp id Nat.le_of_lt));rw[List.length_append,HLN.out,List.length_singleton] at HS8;have lw8:w7.heap.size≤w8.heap.size:=hgrow5.size;have HWR:=Lib.hid (show w8.ownsRow w1.heap.size 3 1 (.slice vw (i+1) cw) (i+1) (zs.map (Value.int .i64)) from (by have:=HS8.out.wro;rw[HZL.out] at this;exact this));clear HS7 HX8 HXD hgrow5 hown5 hn5 HROW HXC)|(refine za7 w8 rfl (.tmp 40) (.tmp 42) 24 rfl w1.heap.size 3 (.int .i64 0) 1 8 Tryd.underlying24 zbh rfl (by decide) [.int .i64 z2] rfl (by simp[Value.oneCell']) _ _ _ (by rfl) HWR.out (by rfl) rfl (by omega) (by omega) (by omega) ?_;intro g6 cp6 w9 hown6 hgrow6 hn6;have HW6:=Lib.hid hown6;have HG6:=Lib.hid hgrow6;have HN6:=Lib.hid hn6;clear hown6 hgrow6 hn6)))
   have HS9:=Lib.hid (HS8.out.pushW HG6.out (g:=g6) (cap:=cp6) (z:=z2) (by rw[HZL.out];exact HW6.out) (HN6.out.imp id Nat.le_of_lt))
   rw[List.length_append,HZL.out,List.length_singleton,←HWU.out,←HRU.out] at HS9
   go_roundg (N-(i+1))
   case measure=>omega
   case rel=>exact⟨i+1,ao2,co2,_,_,_,_,_,by omega,rfl,rfl,rfl,by go_num,HS9,Lib.hid (by rw[HRR.out,List.map_append,HL.out,List.map_singleton,HXM.out])⟩
  ·
   obtain rfl:i=N:=by omega
   have HFIN:=Lib.hid (show zh9 img i L w (.returned (.tuple #[.slice va (i+1) ca,.slice vw (i+1) cw])) wr from ⟨va,ca,vw,cw,l,rfl,⟨zar HS.out.outs.row hn1,fun x hx=>(HS.out.outs.el x hx).low hn1⟩,by rw[HM0.out];exact HL.out,zar (by have:=HS.out.wro;rw[HZL.out] at this;rw[HM0.out];exact this) hn1,HB1.out.trans ((HS.out.za.old.below (B:=w.heap.size) (fun _ q=>q.elim) hn1))⟩)
   clear HS HL HLN HZL
   go_wp2_with fail
   refine bodyPost_ret (v:=.tuple #[.slice va (i+1) ca,.slice vw (i+1) cw]) (by simp[results,Tryd.results14,go_sem]) rfl HFIN.out
end Go.Proofs.YtflonfcemlfbdaaDoor
