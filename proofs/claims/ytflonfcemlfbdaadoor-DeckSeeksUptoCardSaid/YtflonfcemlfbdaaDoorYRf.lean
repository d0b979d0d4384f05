/- Several texts joined, each with its own heading in the notes: The contract of evlog's event, of the kinds that have words. The contract of evlog's event, whole. No condition beyond those of each row. -/
import Derived.Test.YtflonfcemlfbdaaDoorYRn
namespace Go.Proofs.YtflonfcemlfbdaaDoor
open Go Go.RowKit Go.ChangeShapes Go.WideShapes Go.Deep
set_option maxHeartbeats 8000000
set_option maxRecDepth 100000
set_option linter.unusedVariables false
theorem zcM:(Tryd.prog.info? 3).map (fun i=>(i.zero,i.size,i.bytes))=some (some (.int .i64 0),1,8):=by kernel_rfl
theorem ESt.push{w0 w wr w':World}{g gx:Nat}{x0 x1 e v:Int}{acc:List Int}{bs:List UInt8}(h:ESt w0 w g gx x0 x1 acc bs e wr){a:Option Addr}{c:Nat}(hx:wr.heap[gx]?=some (.cells #[.int .i64 x0,.int .i64 x1,.slice a acc.length c] 75 (0,0)))(ho:wr.ownsRow w.heap.size 3 1 (.slice a acc.length c) acc.length (acc.map (Value.int .i64))){g1 cap:Nat}(hown:w'.ownsRow w.heap.size 3 1 (.slice (some ⟨g1,0,none⟩) (acc.length+1) cap) (acc.length+1) (acc.map (Value.int .i64)++[.int .i64 v]))(hg:wr.grownBy w' (Value.slice a acc.length c).ownBlock):ESt w0 w g gx x0 x1 (acc++[v]) bs e (w'.setCell ⟨gx,2,none⟩ (.slice (some ⟨g1,0,none⟩) (acc.length+1) cap)):=by
 have lt:=h.lt;have lx:=h.gx;have hge:=h.rd.ge
 have hrow:∀k,(Value.slice a acc.length c).ownBlock=some k→w.heap.size≤k:=fun k hk=>(ho.lt k hk).1
 have hx1:=zam hg hx (zad ho hx (by decide))
 have hr1:=zam hg h.rb (zad ho h.rb (by decide))
 have hgs:w'.grownBy (w'.setCell ⟨gx,2,none⟩ (.slice (some ⟨g1,0,none⟩) (acc.length+1) cap)) (some gx):=zaK _ _ _ _
 refine⟨(h.rd.other hg (fun e=>by have:=hrow g e.symm;omega) (fun k hk=>by have:=hrow k hk;have:=h.rd.b.size;have:=h.gb.size;omega)).other hgs (by simp;omega) (fun k hk=>by injection hk with hk;omega),zam hgs hr1 (by simp;omega),⟨some ⟨g1,0,none⟩,cap,?_,?_⟩,?_,lt,lx⟩
 ·
  have:=zaf (i:=2) hx1 (.slice (some ⟨g1,0,none⟩) (acc.length+1) cap)
  rw[List.length_append]
  exact this
 ·
  rw[List.length_append,List.map_append]
  exact hown.kept hgs (Or.inr (fun e=>zad hown hx1 (by decide) e.symm))
 ·
  refine⟨hgs.os.trans (hg.os.trans h.gb.os),hgs.tape.trans (hg.tape.trans h.gb.tape),hgs.output.trans (hg.output.trans h.gb.output),Nat.le_trans h.gb.size (Nat.le_trans hg.size hgs.size),fun k hk hne=>?_⟩
  rw[hgs.block k (by have:=hg.size;have:=h.gb.size;omega) (by simp;omega),hg.block k (by have:=h.gb.size;omega) (fun e=>by have:=hrow k e.symm;omega),h.gb.block k hk hne]
theorem zcN(acc:List Int)(v e:Int):accE acc 0 v e=acc:=by unfold accE;split<;>simp
theorem zcO(acc:List Int)(k:Nat)(v:Int):accE acc k v 0++[v]=accE acc (k+1) v 0:=by
 unfold accE
 rw[if_pos rfl,if_pos rfl,List.replicate_succ',List.append_assoc]
theorem zfw(acc:List Int)(k j:Nat)(v:Int){e:Int}(h:e≠0):accE acc k v e=accE acc j v e:=by unfold accE;rw[if_neg h,if_neg h]
theorem zdx(acc:List Int)(k:Nat)(v e:Int):(accE acc k v e).length≤acc.length+k:=by unfold accE;split<;>simp
def RunT(acc:List Int)(k:Nat)(v last e2:Int)(t:Bool):Prop:=(t=true∧e2=0∧zbx acc k v last)∨(t=false∧(e2≠0∨¬zbx acc k v last))
theorem zjH(w0:World)(g:Nat)(a:Int)(bs:List UInt8)(w:World)(h:Rd w0 g bs 0 w)(ht:Tab w0)(ha:0≤a∧a≤1000000000000000000){r r2:List UInt8}{n z:Nat}{e2:Int}(hn:numP 0 0 bs=(0,n,r))(hk:n%4=3)(hz:numP 0 0 r=(e2,z,r2)):Calls Tryd.prog 51 #[.pointer (some ⟨g,0,none⟩),.int .i64 a] w (EvPostR w0 g a bs w):=by
 have hp:=ziv (a:=a) hn hk hz
 have hlt:=zaX (e:=0) hn
 have hzz:=zdc (zaX (e:=0) hz)
 have HD:=Lib.hid h
 have HN:=Lib.hid (fun (W:World) (hw:Rd w0 g bs 0 W)=>za5 w0 g bs W hw (e0:=0) hn)
 have HT:=Lib.hid ht
 have lg:=h.lt
 have HP:=Lib.hid hp
 have hk':(n:Int)%4=3:=by omega
 have HAT:=Lib.hid (show a+(n:Int)/4=a+((n/4:Nat):Int) by omega)
 have HZ:=Lib.hid (fun (W:World) (hw:Rd w0 g r 0 W)=>zcL w0 g r W hw (e0:=0) hz)
 clear hk hz
 clear hp hn h ht
 go_enter Tryd.func51,Tryd.ntmps51
 go_wp2_with fail
 refine(HN.out _ (HD.out.other (World.grownBy_alloc w _ none) (by simp) (by simp))).mono ?_
 rintro en w1 ⟨rfl,hr1,hg1⟩
 have HX:=Lib.hid (ESt.start (x0:=(a+(n:Int)/4)) (x1:=3) HD.out hr1 hg1)
 obtain⟨c1,c2,c3,l1,l2,l3,f1,f2⟩:=HX.out.y
 have r1:=hr1.c1
 have s1:=hr1.lt
 have z2:(w1.alloc (.cells #[.int .i64 (a+(n:Int)/4),.int .i64 3,.slice none 0 0] 75)).cell? ⟨w1.heap.size,2,none⟩=some (.slice none 0 0):=zaa (alloc_at rfl) 2
 obtain⟨t0,t1,t2,t3,t4⟩:=HX.out.tab HT.out
 have hne1:¬g=w1.heap.size:=by omega
 clear hr1 hg1
 go_wp2_with fail
 generalize w1.alloc (.cells #[.int .i64 (a+(n:Int)/4),.int .i64 3,.slice none 0 0] 75)=W2 at *
 generalize hgx:w1.heap.size=gx at *
 clear hgx
 generalize zag z=v at *
 generalize (n:Int)%4=m4 at *
 subst hk'
 have hv1:=hzz.1
 have hv2:=hzz.2
 clear hzz
 have HI64:=Lib.hid (show I64 v by unfold I64;omega)
 go_loopg [7] 1 (fun gh s7 wr=>(gh=1∧s7=.int .i64 0∧Hid (ESt w0 w g gx (a+(n:Int)/4) 3 [] r 0 wr))∨(gh=0∧s7=.int .i64 v∧Hid (ESt w0 w g gx (a+(n:Int)/4) 3 (accE [] 1 v e2) r2 e2 wr)))
 case atStart=>exact Or.inl ⟨rfl,rfl,HX⟩
 case round=>
  clear HX c1 c2 c3 l1 l2 l3 f1 f2 r1 s1 z2 t0 t1 t2 t3 t4
  rcases hrel with⟨rfl,rfl,HX⟩|⟨rfl,rfl,HX⟩
  ·
   obtain⟨c1,c2,c3,l1,l2,l3,f1,f2⟩:=HX.out.y
   obtain⟨t0,t1,t2,t3,t4⟩:=HX.out.tab HT.out
   obtain⟨aq,cq,hxq,_⟩:=HX.out.xb
   have z2:wr.cell? ⟨gx,2,none⟩=some (.slice aq 0 cq):=zaa hxq 2
   clear hxq f1 f2
   go_wp2_with fail
   go_quiet (fail)
   go_wp2_with fail
   refine(HZ.out _ (HX.out.drewN _).rd).mono ?_
   rintro en w3 ⟨rfl,hr3,hg3⟩
   have HX:=Lib.hid ((HX.out.drewN _).mv hr3 hg3)
   clear hr3 hg3 c1 c2 c3 l1 l2 l3 z2 t0 t1 t2 t3 t4
   obtain⟨c1,c2,c3,l1,l2,l3,f1,f2⟩:=HX.out.y
   obtain⟨t0,t1,t2,t3,t4⟩:=HX.out.tab HT.out
   obtain⟨aq3,cq3,hxq,_⟩:=HX.out.xb
   have z2:w3.cell? ⟨gx,2,none⟩=some (.slice aq3 0 cq3):=zaa hxq 2
   clear hxq f1 f2
   go_upto_region 11 with fail
   go_cut [86] from 31 to 104 (fun s86 wx=>s86=.bool false∧Hid (ESt w0 w g gx (a+(n:Int)/4) 3 [] r2 e2 wx))
   case first=>
    by_cases he:e2=0
    ·
     rw[he] at c1
     go_quiet (fail)
     go_wp2_with fail
     go_meet
     exact⟨rfl,Lib.hid (HX.out.drewN _)⟩
    ·
     have he0:(e2 == 0)=false:=by rw[beq_eq_false_iff_ne];exact he
     clear he
     go_quiet (fail)
     go_wp2_with fail
     go_meet
     exact⟨rfl,Lib.hid (HX.out.drewN _)⟩
   case rest=>
    clear HX c1 c2 c3 l1 l2 l3 z2 t0 t1 t2 t3 t4
    obtain⟨rfl,HX⟩:=hcut
    have HKB:=Lib.hid (show e2=0→([]:List Int).length+1≤16 from fun _=>by simp)
    go_wp2_with fail
    go_loopg [90] (1) (fun gh s90 wr =>∃i:Nat,i≤1∧gh=1-i∧s90=.int .i64 i∧Hid (ESt w0 w g gx (a+(n:Int)/4) 3 (accE [] i v e2) r2 e2 wr))
    case atStart=>exact⟨0,by omega,by omega,rfl,Lib.hid (by rw[zcN];exact HX.out)⟩
    case round=>
     clear HX
     obtain⟨i,hi,rfl,rfl,HX⟩:=hrel
     obtain⟨c1,c2,c3,l1,l2,l3,f1,f2⟩:=HX.out.y
     by_cases hil:i<1
     ·
      by_cases h30:e2=0
      ·
       have hacc:=zdx [] i v e2
       have hbd:=HKB.out h30
       obtain⟨aq,cq,hxq,hoq⟩:=HX.out.xb
       rw[h30] at c1
       have HM:=Lib.hid (show accE [] i v e2++[v]=accE [] (i+1) v e2 by rw[h30];exact zcO _ _ _)
       have H30:=Lib.hid h30
       clear h30
       generalize accE [] i v e2=ac at *
       have z2:wr.cell? ⟨gx,2,none⟩=some (.slice aq ac.length cq):=zaa hxq 2
       have hbase:w.heap.size≤wr.heap.size:=by omega
       have HXQ:=Lib.hid hxq
       have HOQ:=Lib.hid hoq
       have fg:=f2 2
       clear hxq hoq f1 f2
       go_wp2_with (at_builtin;go_loud (refine za4 wr rfl (.tmp 98) (.tmp 100) 24 rfl w.heap.size 3 (.int .i64 0) 1 8 Tryd.underlying24 zcM rfl (by decide) [.int .i64 v] rfl (by simp[Value.oneCell']) _ _ _ (by rfl) HOQ.out (by rfl) rfl (by omega) (by omega) (by omega) ?_);intro g1 cp1 w1 hown1 hgrow1;have hx1:=zam hgrow1 HXQ.out (zad HOQ.out HXQ.out (by decide));have z3:w1.cell? ⟨gx,2,none⟩=some (.slice aq ac.length cq):=zaa hx1 2;have fg1:=zab hx1 2;have HN1:=Lib.hid hown1;have HG1:=Lib.hid hgrow1;clear hx1 hown1 hgrow1)
       have hps:=HX.out.push HXQ.out HOQ.out HN1.out HG1.out
       rw[HM.out] at hps
       go_roundg (1-(i+1))
       case measure=>omega
       case rel=>exact⟨i+1,by omega,rfl,by go_num,Lib.hid hps⟩
      ·
       have h3b:(e2 == 0)=false:=by rw[beq_eq_false_iff_ne];exact h30
       have HB:=Lib.hid (show ESt w0 w g gx (a+(n:Int)/4) 3 (accE [] (i+1) v e2) r2 e2 wr by rw[zfw _ (i+1) i _ h30];exact HX.out)
       clear h30 f1 f2
       go_wp2
       go_roundg (1-(i+1))
       case measure=>omega
       case rel=>exact⟨i+1,by omega,rfl,by go_num,HB⟩
     ·
      obtain rfl:i=1:=by omega
      clear f1 f2
      go_wp2
      go_roundg 0
      case measure=>omega
      case rel=>exact Or.inr ⟨rfl,rfl,HX⟩
  ·
   obtain⟨c1,c2,c3,l1,l2,l3,f1,f2⟩:=HX.out.y
   obtain⟨t0,t1,t2,t3,t4⟩:=HX.out.tab HT.out
   by_cases he:e2=0
   ·
    subst he
    have hE:accE [] 1 v 0=[v]:=rfl
    rw[hE] at HX
    obtain⟨aq,cq,hxq,hoq⟩:=HX.out.xb
    have z2:wr.cell? ⟨gx,2,none⟩=some (.slice aq 1 cq):=zaa hxq 2
    have HOQ:=Lib.hid hoq
    clear hxq hoq
    obtain⟨m0,m1,m2,n0,n1,n2⟩:=HX.out.r
    clear f1 f2
    go_wp2_with fail
    go_quiet (fail)
    go_wp2
    obtain⟨hb,hrd,hgb,how⟩:=(HX.out.drewN _).done HOQ.out rfl
    refine bodyPost_ret (v:=.agg #[.int .i64 (a+(n:Int)/4),.int .i64 3,.slice aq 1 cq]) (results_cell_row Tryd.results51 _ _ w.heap.size 75 _ (0,0) _ rfl hb Tryd.underlying75 rfl (by kernel_rfl)) rfl ?_
    exact EvPostR.mk HP.out hrd hgb fun _=>⟨HAT.out,rfl,how,by intro y hy;rw[List.mem_singleton.1 hy];exact HI64.out,by simp,by show a≤a+((n/4:Nat):Int);omega,by show a+((n/4:Nat):Int)≤_;omega⟩
   ·
    have he0:(e2 == 0)=false:=by rw[beq_eq_false_iff_ne];exact he
    have HE0:=Lib.hid he
    clear he
    have hE:accE [] 1 v e2=[]:=by unfold accE;rw[if_neg HE0.out]
    rw[hE] at HX
    obtain⟨aq,cq,hxq,hoq⟩:=HX.out.xb
    have z2:wr.cell? ⟨gx,2,none⟩=some (.slice aq 0 cq):=zaa hxq 2
    have HOQ:=Lib.hid hoq
    clear hxq hoq
    obtain⟨m0,m1,m2,n0,n1,n2⟩:=HX.out.r
    clear f1 f2
    go_wp2_with fail
    go_quiet (fail)
    go_wp2
    obtain⟨hb,hrd,hgb,how⟩:=(HX.out.drewN _).done HOQ.out rfl
    refine bodyPost_ret (v:=.agg #[.int .i64 (a+(n:Int)/4),.int .i64 3,.slice aq 0 cq]) (results_cell_row Tryd.results51 _ _ w.heap.size 75 _ (0,0) _ rfl hb Tryd.underlying75 rfl (by kernel_rfl)) rfl ?_
    exact EvPostR.mk HP.out hrd hgb fun h=>absurd h HE0.out
theorem zjI(w0:World)(g:Nat)(a:Int)(bs:List UInt8)(w:World)(h:Rd w0 g bs 0 w)(ht:Tab w0)(ha:0≤a∧a≤1000000000000000000){r:List UInt8}{n:Nat}(hn:numP 0 0 bs=(0,n,r))(hk:n%4=2):Calls Tryd.prog 51 #[.pointer (some ⟨g,0,none⟩),.int .i64 a] w (EvPostR w0 g a bs w):=by
 have hp:=fun (e:Int) (d:List Int) (r2:List UInt8) (hb:blkP 16 [] 0 r=(e,d,r2))=>ziu (a:=a) hn hk hb
 have hlt:=zaX (e:=0) hn
 have HD:=Lib.hid h
 have HN:=Lib.hid (fun (W:World) (hw:Rd w0 g bs 0 W)=>za5 w0 g bs W hw (e0:=0) hn)
 have HT:=Lib.hid ht
 have lg:=h.lt
 have HP:=Lib.hid hp
 have hk':(n:Int)%4=2:=by omega
 have HAT:=Lib.hid (show a+(n:Int)/4=a+((n/4:Nat):Int) by omega)
 clear hk
 clear hp hn h ht
 go_enter Tryd.func51,Tryd.ntmps51
 go_wp2_with fail
 refine(HN.out _ (HD.out.other (World.grownBy_alloc w _ none) (by simp) (by simp))).mono ?_
 rintro en w1 ⟨rfl,hr1,hg1⟩
 have HX:=Lib.hid (ESt.start (x0:=(a+(n:Int)/4)) (x1:=2) HD.out hr1 hg1)
 obtain⟨c1,c2,c3,l1,l2,l3,f1,f2⟩:=HX.out.y
 have r1:=hr1.c1
 have s1:=hr1.lt
 have z2:(w1.alloc (.cells #[.int .i64 (a+(n:Int)/4),.int .i64 2,.slice none 0 0] 75)).cell? ⟨w1.heap.size,2,none⟩=some (.slice none 0 0):=zaa (alloc_at rfl) 2
 obtain⟨t0,t1,t2,t3,t4⟩:=HX.out.tab HT.out
 have hne1:¬g=w1.heap.size:=by omega
 clear hr1 hg1
 go_wp2_with fail
 generalize w1.alloc (.cells #[.int .i64 (a+(n:Int)/4),.int .i64 2,.slice none 0 0] 75)=W2 at *
 generalize hgx:w1.heap.size=gx at *
 clear hgx
 generalize (n:Int)%4=m4 at *
 subst hk'
 go_loopg [7] 16 (fun gh s7 wr =>∃(f:Nat) (acc:List Int) (last e:Int) (cs:List UInt8),gh=f+0∧s7=.int .i64 last∧Hid (BlkIn r f acc last e cs)∧Hid (ESt w0 w g gx (a+(n:Int)/4) 2 acc cs e wr))
 case atStart=>exact⟨16,[],0,0,r,rfl,rfl,Lib.hid (BlkIn.start r),HX⟩
 case round=>
  clear HX c1 c2 c3 l1 l2 l3 f1 f2 r1 s1 z2 t0 t1 t2 t3 t4
  obtain⟨f,acc,last,e,cs,hgf,rfl,HBI,HX⟩:=hrel
  rw[Nat.add_zero] at hgf
  have HGF:=Lib.hid hgf
  clear hgf
  have hlen:=HBI.out.len
  by_cases he:e=0
  ·
   subst he
   by_cases hl:acc.length<16
   ·
    have hlo:=HBI.out.lo
    have hhi:=HBI.out.hi
    have hfu:=HBI.out.fuel rfl
    have hf16:=HBI.out.f16
    have hlast1:-9007199254740992≤last:=by omega
    have hlast2:last≤9007199254740992:=by omega
    clear hlo hhi hfu
    obtain⟨e1,k,ra,hn1⟩:∃e1 k ra,numP 0 0 cs=(e1,k,ra):=⟨_,_,_,rfl⟩
    obtain⟨e2,z,rb,hz⟩:∃e2 z rb,numE e1 ra=(e2,z,rb):=⟨_,_,_,rfl⟩
    have hkk:=zaX (e:=0) hn1
    have hzz:=zdc (zaX hz)
    have HBS:=Lib.hid (fun (e3:Int) (h3:RunE acc k (last+zag z) last e2 e3)=>HBI.out.step hl hn1 hz h3)
    have HN1:=Lib.hid (fun (W:World) (hw:Rd w0 g cs 0 W)=>za5 w0 g cs W hw (e0:=0) hn1)
    have HZ:=Lib.hid (fun (W:World) (hw:Rd w0 g ra e1 W)=>zcL w0 g ra W hw hz)
    clear hn1 hz HBI
    generalize zag z=zz at *
    obtain⟨hz1,hz2⟩:=hzz
    have hll:(acc.length:Int)<16:=by omega
    obtain⟨c1,c2,c3,l1,l2,l3,f1,f2⟩:=HX.out.y
    obtain⟨t0,t1,t2,t3,t4⟩:=HX.out.tab HT.out
    obtain⟨aq,cq,hxq,_⟩:=HX.out.xb
    have z2:wr.cell? ⟨gx,2,none⟩=some (.slice aq acc.length cq):=zaa hxq 2
    clear hxq f1 f2
    go_wp2_with fail
    go_quiet (fail)
    go_wp2_with fail
    refine(HN1.out _ (HX.out.drewN _).rd).mono ?_
    rintro en w3 ⟨rfl,hr3,hg3⟩
    have HX:=Lib.hid ((HX.out.drewN _).mv hr3 hg3)
    clear hr3 hg3 c1 c2 c3 l1 l2 l3 t0 t1 t2 t3 t4 z2
    obtain⟨c1,c2,c3,l1,l2,l3,f1,f2⟩:=HX.out.y
    obtain⟨t0,t1,t2,t3,t4⟩:=HX.out.tab HT.out
    obtain⟨aq,cq,hxq,_⟩:=HX.out.xb
    have z2:w3.cell? ⟨gx,2,none⟩=some (.slice aq acc.length cq):=zaa hxq 2
    clear hxq f1 f2
    go_wp2_with fail
    refine(HZ.out _ HX.out.rd).mono ?_
    rintro en w4 ⟨rfl,hr4,hg4⟩
    have HX:=Lib.hid (HX.out.mv hr4 hg4)
    clear hr4 hg4 c1 c2 c3 l1 l2 l3 t0 t1 t2 t3 t4 z2
    obtain⟨c1,c2,c3,l1,l2,l3,f1,f2⟩:=HX.out.y
    obtain⟨t0,t1,t2,t3,t4⟩:=HX.out.tab HT.out
    obtain⟨aq,cq,hxq,_⟩:=HX.out.xb
    have z2:w4.cell? ⟨gx,2,none⟩=some (.slice aq acc.length cq):=zaa hxq 2
    clear hxq f1 f2
    have hvv1:-9570149208162304≤last+zz:=by omega
    have hvv2:last+zz≤9570149208162304:=by omega
    go_upto_region 11 with fail
    generalize hvdef:last+zz=v at *
    have HVD:=Lib.hid hvdef
    clear hvdef
    have hw16:IntKind.i64.wrap (16-(acc.length:Int))=16-(acc.length:Int):=IntWalk.i64_in _ (by omega)
    go_cut [86] from 31 to 104 (fun s86 wx =>∃t:Bool,s86=.bool t∧Hid (RunT acc k v last e2 t)∧Hid (ESt w0 w g gx (a+(n:Int)/4) 2 acc rb e2 wx))
    case first=>
     clear HBS HZ HN1
     by_cases he:e2=0
     ·
      have HE2:=Lib.hid he
      rw[he] at c1
      clear he
      by_cases hk1:k<1
      ·
       have d1:decide ((k:Int)<1)=true:=by rw[decide_eq_true_iff];omega
       have HR:=Lib.hid (show RunT acc k v last e2 true from Or.inl ⟨rfl,HE2.out,Or.inl hk1⟩)
       clear hk1
       go_quiet (fail)
       go_wp2_with fail
       go_meet
       exact⟨true,rfl,HR,Lib.hid (HX.out.drewN _)⟩
      ·
       have d1:decide ((k:Int)<1)=false:=by rw[decide_eq_false_iff_not];omega
       by_cases hk2:16-acc.length<k
       ·
        have d2:decide ((16:Int)-(acc.length:Int)<(k:Int))=true:=by rw[decide_eq_true_iff];omega
        have HR:=Lib.hid (show RunT acc k v last e2 true from Or.inl ⟨rfl,HE2.out,Or.inr (Or.inl hk2)⟩)
        clear hk1 hk2
        go_quiet (fail)
        go_wp2_with fail
        go_meet
        exact⟨true,rfl,HR,Lib.hid (HX.out.drewN _)⟩
       ·
        have d2:decide ((16:Int)-(acc.length:Int)<(k:Int))=false:=by rw[decide_eq_false_iff_not];omega
        by_cases hk3:0<acc.length
        ·
         have d3:decide ((0:Int)<(acc.length:Int))=true:=by rw[decide_eq_true_iff];omega
         have d3':decide (0<acc.length)=true:=by rw[decide_eq_true_iff];omega
         by_cases hk4:v=last
         ·
          have d4:(v == last)=true:=by rw[beq_iff_eq];exact hk4
          have HR:=Lib.hid (show RunT acc k v last e2 true from Or.inl ⟨rfl,HE2.out,Or.inr (Or.inr ⟨hk3,hk4⟩)⟩)
          clear hk1 hk2 hk3 hk4
          go_quiet (fail)
          go_wp2_with fail
          go_meet
          exact⟨true,rfl,HR,Lib.hid (HX.out.drewN _)⟩
         ·
          have d4:(v == last)=false:=by rw[beq_eq_false_iff_ne];exact hk4
          have HR:=Lib.hid (show RunT acc k v last e2 false from Or.inr ⟨rfl,Or.inr (by rintro (h|h|⟨h,h'⟩);exact hk1 h;exact hk2 h;exact hk4 h')⟩)
          clear hk1 hk2 hk3 hk4
          go_quiet (fail)
          go_wp2_with fail
          go_meet
          exact⟨false,rfl,HR,Lib.hid (HX.out.drewN _)⟩
        ·
         have d3:decide ((0:Int)<(acc.length:Int))=false:=by rw[decide_eq_false_iff_not];omega
         have d3':decide (0<acc.length)=false:=by rw[decide_eq_false_iff_not];omega
         have HR:=Lib.hid (show RunT acc k v last e2 false from Or.inr ⟨rfl,Or.inr (by rintro (h|h|⟨h,h'⟩);exact hk1 h;exact hk2 h;exact hk3 h)⟩)
         clear hk1 hk2 hk3
         go_quiet (fail)
         go_wp2_with fail
         go_meet
         exact⟨false,rfl,HR,Lib.hid (HX.out.drewN _)⟩
     ·
      have he0:(e2 == 0)=false:=by rw[beq_eq_false_iff_ne];exact he
      have HR:=Lib.hid (show RunT acc k v last e2 false from Or.inr ⟨rfl,Or.inl he⟩)
      clear he
      go_quiet (fail)
      go_wp2_with fail
      go_meet
      exact⟨false,rfl,HR,Lib.hid (HX.out.drewN _)⟩
    case rest=>
     clear HX c1 c2 c3 l1 l2 l3 t0 t1 t2 t3 t4 z2
     obtain⟨t,rfl,HR,HX⟩:=hcut
     go_upto_if 86 with fail
     go_cut [] from 31 to 104 (fun wx =>∃e3,Hid (RunE acc k v last e2 e3)∧Hid (ESt w0 w g gx (a+(n:Int)/4) 2 acc rb e3 wx))
     case first=>
      rcases HR.out with⟨rfl,he,hb⟩|⟨rfl,hb⟩
      ·
       subst he
       have HE:=Lib.hid (show RunE acc k v last 0 4 from Or.inr (Or.inl ⟨rfl,hb,rfl⟩))
       clear hb
       go_wp2_with fail
       refine(zcg w0 g rb 4 _ HX.out.rd).mono ?_
       rintro en w5 ⟨rfl,hr5,hg5⟩
       have HX:=Lib.hid (HX.out.mv hr5 hg5)
       clear hr5 hg5
       go_wp2_with fail
       go_meet
       exact⟨4,HE,HX⟩
      ·
       have HE:=Lib.hid (show RunE acc k v last e2 e2 by
        by_cases h0:e2=0
        ·
         subst h0
         rcases hb with h|h
         ·exact absurd rfl h
         ·exact Or.inr (Or.inr ⟨rfl,h,rfl⟩)
        ·exact Or.inl ⟨h0,rfl⟩)
       clear hb
       go_wp2_with fail
       go_meet
       exact⟨e2,HE,HX⟩
     case rest=>
      clear HX HR
      obtain⟨e3,HE,HX⟩:=hcut
      have HKB:=Lib.hid (show e3=0→acc.length+k≤16 by
       intro h3
       rcases HE.out with⟨h,rfl⟩|⟨_,_,h⟩|⟨_,h,_⟩
       ·exact absurd h3 h
       ·omega
       ·
        have h1:¬k<1:=fun h'=>h (Or.inl h')
        have h2:¬16-acc.length<k:=fun h'=>h (Or.inr (Or.inl h'))
        omega)
      have hbs:=HBS.out e3 HE.out
      have HBN:=Lib.hid hbs.1
      have HF0:=Lib.hid hbs.2
      clear hbs HBS
      go_wp2_with fail
      go_loopg [90] (k) (fun gh s90 wr =>∃i:Nat,i≤k∧gh=k-i∧s90=.int .i64 i∧Hid (ESt w0 w g gx (a+(n:Int)/4) 2 (accE acc i v e3) rb e3 wr))
      case atStart=>exact⟨0,by omega,by omega,rfl,Lib.hid (by rw[zcN];exact HX.out)⟩
      case round=>
       clear HX
       obtain⟨i,hi,rfl,rfl,HX⟩:=hrel
       obtain⟨c1,c2,c3,l1,l2,l3,f1,f2⟩:=HX.out.y
       by_cases hil:i<k
       ·
        by_cases h30:e3=0
        ·
         have hacc:=zdx acc i v e3
         have hbd:=HKB.out h30
         obtain⟨aq,cq,hxq,hoq⟩:=HX.out.xb
         rw[h30] at c1
         have HM:=Lib.hid (show accE acc i v e3++[v]=accE acc (i+1) v e3 by rw[h30];exact zcO _ _ _)
         have H30:=Lib.hid h30
         clear h30
         generalize accE acc i v e3=ac at *
         have z2:wr.cell? ⟨gx,2,none⟩=some (.slice aq ac.length cq):=zaa hxq 2
         have hbase:w.heap.size≤wr.heap.size:=by omega
         have HXQ:=Lib.hid hxq
         have HOQ:=Lib.hid hoq
         have fg:=f2 2
         clear hxq hoq f1 f2
         go_wp2_with (at_builtin;go_loud (refine za4 wr rfl (.tmp 98) (.tmp 100) 24 rfl w.heap.size 3 (.int .i64 0) 1 8 Tryd.underlying24 zcM rfl (by decide) [.int .i64 v] rfl (by simp[Value.oneCell']) _ _ _ (by rfl) HOQ.out (by rfl) rfl (by omega) (by omega) (by omega) ?_);intro g1 cp1 w1 hown1 hgrow1;have hx1:=zam hgrow1 HXQ.out (zad HOQ.out HXQ.out (by decide));have z3:w1.cell? ⟨gx,2,none⟩=some (.slice aq ac.length cq):=zaa hx1 2;have fg1:=zab hx1 2;have HN1:=Lib.hid hown1;have HG1:=Lib.hid hgrow1;clear hx1 hown1 hgrow1)
         have hps:=HX.out.push HXQ.out HOQ.out HN1.out HG1.out
         rw[HM.out] at hps
         go_roundg (k-(i+1))
         case measure=>omega
         case rel=>exact⟨i+1,by omega,rfl,by go_num,Lib.hid hps⟩
        ·
         have h3b:(e3 == 0)=false:=by rw[beq_eq_false_iff_ne];exact h30
         have HB:=Lib.hid (show ESt w0 w g gx (a+(n:Int)/4) 2 (accE acc (i+1) v e3) rb e3 wr by rw[zfw _ (i+1) i _ h30];exact HX.out)
         clear h30 f1 f2
         go_wp2
         go_roundg (k-(i+1))
         case measure=>omega
         case rel=>exact⟨i+1,by omega,rfl,by go_num,HB⟩
       ·
        obtain rfl:i=k:=by omega
        clear f1 f2
        go_wp2
        go_roundg (f-1)
        case measure=>have:=HGF.out;have:=HF0.out;omega
        case rel=>exact⟨f-1,_,v,e3,rb,rfl,rfl,HBN,HX⟩
   ·
    have hl16:acc.length=16:=by omega
    have hb:=HBI.out.fin hl
    have HP2:=Lib.hid (HP.out _ _ _ hb)
    have HI64:=Lib.hid HBI.out.i64
    have hd:¬(acc.length:Int)<16:=by omega
    have hd2:decide ((acc.length:Int)<16)=false:=by rw[decide_eq_false_iff_not];exact hd
    clear hb hl hl16
    obtain⟨c1,c2,c3,l1,l2,l3,f1,f2⟩:=HX.out.y
    obtain⟨t0,t1,t2,t3,t4⟩:=HX.out.tab HT.out
    obtain⟨aq,cq,hxq,hoq⟩:=HX.out.xb
    have z2:wr.cell? ⟨gx,2,none⟩=some (.slice aq acc.length cq):=zaa hxq 2
    have HOQ:=Lib.hid hoq
    clear hxq hoq
    obtain⟨m0,m1,m2,n0,n1,n2⟩:=HX.out.r
    clear f1 f2
    go_wp2_with fail
    go_quiet (fail)
    go_wp2
    obtain⟨hb,hrd,hgb,how⟩:=(HX.out.drewN _).done HOQ.out rfl
    refine bodyPost_ret (v:=.agg #[.int .i64 (a+(n:Int)/4),.int .i64 2,.slice aq acc.length cq]) (results_cell_row Tryd.results51 _ _ w.heap.size 75 _ (0,0) _ rfl hb Tryd.underlying75 rfl (by kernel_rfl)) rfl ?_
    exact EvPostR.mk HP2.out hrd hgb fun _=>⟨HAT.out,rfl,how,HI64.out,hlen,by show a≤a+((n/4:Nat):Int);omega,by show a+((n/4:Nat):Int)≤_;omega⟩
  ·
   have he0:(e == 0)=false:=by rw[beq_eq_false_iff_ne];exact he
   have HE0:=Lib.hid he
   obtain⟨d,hb⟩:=HBI.out.err he
   have HP2:=Lib.hid (HP.out _ _ _ hb)
   clear he hb
   obtain⟨c1,c2,c3,l1,l2,l3,f1,f2⟩:=HX.out.y
   obtain⟨t0,t1,t2,t3,t4⟩:=HX.out.tab HT.out
   obtain⟨aq,cq,hxq,hoq⟩:=HX.out.xb
   have z2:wr.cell? ⟨gx,2,none⟩=some (.slice aq acc.length cq):=zaa hxq 2
   have HOQ:=Lib.hid hoq
   clear hxq hoq
   obtain⟨m0,m1,m2,n0,n1,n2⟩:=HX.out.r
   clear f1 f2
   go_wp2_with fail
   go_quiet (fail)
   go_wp2
   obtain⟨hb,hrd,hgb,how⟩:=(HX.out.drewN _).done HOQ.out rfl
   refine bodyPost_ret (v:=.agg #[.int .i64 (a+(n:Int)/4),.int .i64 2,.slice aq acc.length cq]) (results_cell_row Tryd.results51 _ _ w.heap.size 75 _ (0,0) _ rfl hb Tryd.underlying75 rfl (by kernel_rfl)) rfl ?_
   exact EvPostR.mk HP2.out hrd hgb fun h=>absurd h HE0.out
theorem zg1(w0:World)(g:Nat)(a:Int)(bs:List UInt8)(w:World)(h:Rd w0 g bs 0 w)(ht:Tab w0)(ha:0≤a∧a≤1000000000000000000):Calls Tryd.prog 51 #[.pointer (some ⟨g,0,none⟩),.int .i64 a] w (EvPostR w0 g a bs w):=by
 obtain⟨e,n,r,hn⟩:∃e n r,numP 0 0 bs=(e,n,r):=⟨_,_,_,rfl⟩
 by_cases he:e=0
 ·
  subst he
  rcases (show n%4=0∨n%4=1∨n%4=2∨n%4=3 by omega) with hk|hk|hk|hk
  ·exact zjF w0 g a bs w h ht ha hn hk
  ·exact zjE w0 g a bs w h ht ha hn hk
  ·exact zjI w0 g a bs w h ht ha hn hk
  ·
   obtain⟨e2,z,r2,hz⟩:∃e2 z r2,numP 0 0 r=(e2,z,r2):=⟨_,_,_,rfl⟩
   exact zjH w0 g a bs w h ht ha hn hk hz
 ·exact zjG w0 g a bs w h ht ha hn he
end Go.Proofs.YtflonfcemlfbdaaDoor
