/- Several texts joined, each with its own heading in the notes: hourglassref. sameMachines, EnoughFrames. No condition beyond those of each row. -/
import Derived.Test.YtflonfcemlfbdaaDoorYAla
import Derived.Handy
import Derived.StillTailTactics
import Derived.Deep.RegionWith
import Derived.Deep.RegionLaw
import Derived.Deep.CutBlock
import Derived.Deep.CutRange
import Derived.Deep.RegionHeld3
import Derived.Deep.LoopGhost
import Derived.Test.YtflonfcemlfbdaaDoorYCm
namespace Go.Proofs.YtflonfcemlfbdaaDoor
open Go Go.RowKit Go.ChangeShapes Go.WideShapes Go.Deep
set_option maxHeartbeats 16000000
set_option maxRecDepth 100000
set_option linter.unusedVariables false
set_option linter.unusedSimpArgs false
attribute [local go_sem ↓] Go.wp_at_zero Go.wp_at_succ
def zie(a ev kp:Int)(img:List Int)(b:List UInt8)(cnt:Int)(zs:List Int)(w:World)(e:Ending)(w':World):Prop:=
 Below w.heap.size w w' ∧
 ((∃ c, c ≠ 0 ∧ e = .returned (.tuple #[.slice none 0 0, .int .i64 c]) ∧
   ((¬zaT a ev kp∧c=2)∨(zaT a ev kp∧∃l,ChkR img b cnt c l)∨(zaT a ev kp∧∃l,ChkR img b cnt 0 l∧c=2∧∃z∈zs,z<0∨cnt<z))) ∨
  (zaT a ev kp∧∃L,ChkR img b cnt 0 L∧(∀z∈zs,0≤z∧z≤cnt)∧∃va ca l,OutsR w.heap.size w' (.slice va zs.length ca) l∧l.map (·.m)=zs.map (fun z=>runM L (zas img) z.toNat)∧e=.returned (.tuple #[.slice va zs.length ca,.int .i64 0])))
theorem zfi(a b c:Int)(w:World):Calls Tryd.prog 11 #[.agg #[.int .i64 a,.int .i64 b,.int .i64 c]] w fun e w' =>∃d,e=.returned (.int .i64 d)∧Below w.heap.size w w'∧((zaT a b c∧d=0)∨(¬zaT a b c∧d=2)):=by
 have HB:=Lib.hid (zai w (.cells #[.int .i64 a,.int .i64 b,.int .i64 c] 23 (0,0)))
 go_enter Tryd.func11,Tryd.ntmps11
 go_wp2_with (go_at_call 13;refine(zjv _ _ _ _).mono ?_;rintro e w' (⟨rfl,rfl,hlo,hhi⟩|⟨rfl,rfl,hno⟩))
 all_goals go_ret
 all_goals refine⟨_,rfl,HB.out,?_⟩
 all_goals (unfold zaT;first|exact Or.inl ⟨by omega,rfl⟩|exact Or.inr ⟨by omega,rfl⟩)
theorem MGR.reads{base:Nat}{w:World}{x:MG}(h:MGR base w x):Ints w.heap.size w (.slice x.ar x.m.regs.length x.cr) x.m.regs∧Ints w.heap.size w (.slice x.am x.m.mem.length x.cm) x.m.mem∧Ints w.heap.size w (.slice x.ao x.m.out.length x.co) x.m.out:=
 ⟨zaq h.r (by rw[h.ok.regs];omega) (fun z hz=>(zaE h.ok.wr z hz).i64),zaq h.m (by rw[h.ok.mem];omega) (fun z hz=>(zaE h.ok.wm z hz).i64),zaq h.o (by have:=h.ok.out;omega) (fun z hz=>(zaE h.ok.wo z hz).i64)⟩
theorem zez(a ev kp:Int)(vi vb vz:Value)(img:List Int)(b:List UInt8)(cnt:Int)(zs:List Int)(w:World)(hi:Ints w.heap.size w vi img)(hb:BytesR w.heap.size w vb b)(hc:I64 cnt)(hz:Ints w.heap.size w vz zs)(hzs:zs.length≤1000000000000):Calls Tryd.prog 5 #[.agg #[.int .i64 a,.int .i64 ev,.int .i64 kp],.agg #[vi,vb,.int .i64 cnt],vz] w (zie a ev kp img b cnt zs w):=by
 have HI:=Lib.hid hi
 have HBY:=Lib.hid hb
 have HZ:=Lib.hid hz
 have HC:=Lib.hid hc
 obtain⟨ai,ci,rfl,-⟩:=id hi
 obtain⟨ab,cb,rfl,-⟩:=id hb
 obtain⟨az,cz,rfl,-,-,hzc⟩:=id hz
 have HZC:=Lib.hid hzc
 clear hi hb hz hc hzc
 have HB1:=Lib.hid (below_alloc2 w (.cells #[.int .i64 a,.int .i64 ev,.int .i64 kp] 23 (0,0)) (.cells #[.slice ai img.length ci,.slice ab b.length cb,.int .i64 cnt] 27 (0,0)))
 obtain⟨w1,hw1⟩:∃w1,w1=(w.alloc (.cells #[.int .i64 a,.int .i64 ev,.int .i64 kp] 23 (0,0))).alloc (.cells #[.slice ai img.length ci,.slice ab b.length cb,.int .i64 cnt] 27 (0,0)):=⟨_,rfl⟩
 rw[←hw1] at HB1
 have HW1:=Lib.hid hw1
 obtain⟨gs,hgs⟩:∃g,g=w.heap.size:=⟨_,rfl⟩
 obtain⟨gt,hgt⟩:∃g,g=w.heap.size+1:=⟨_,rfl⟩
 have HG:=Lib.hid (And.intro hgs hgt)
 have HXS:=Lib.hid (show w1.heap[gs]?=some (.cells #[.int .i64 a,.int .i64 ev,.int .i64 kp] 23 (0,0)) from by rw[hw1,hgs];exact(zaj (by simp)).trans (alloc_at rfl))
 have HXT:=Lib.hid (show w1.heap[gt]?=some (.cells #[.slice ai img.length ci,.slice ab b.length cb,.int .i64 cnt] 27 (0,0)) from by rw[hw1,hgt];exact alloc_at (by simp))
 clear hw1 hgs hgt
 go_enter Tryd.func5,Tryd.ntmps5
 go_upto_region 1 with fail
 rw[←HW1.out,←HG.out.2,←HG.out.1]
 have q0:w1.cell? ⟨gs,0,none⟩=some (.int .i64 a):=zaa HXS.out 0
 have q1:w1.cell? ⟨gs,1,none⟩=some (.int .i64 ev):=zaa HXS.out 1
 have q2:w1.cell? ⟨gs,2,none⟩=some (.int .i64 kp):=zaa HXS.out 2
 have lgs:gs<w1.heap.size:=(Array.getElem?_eq_some_iff.1 HXS.out).1
 have lgt1:gt<w1.heap.size:=(Array.getElem?_eq_some_iff.1 HXT.out).1
 have HSF:=Lib.hid (zfi a ev kp w1)
 go_wp2_with fail
 refine HSF.out.mono ?_
 rintro e w2 ⟨d,rfl,hb2,hcase⟩
 have HB2:=Lib.hid (HB1.out.trans (hb2.mono HB1.out.size))
 have HXT2:=Lib.hid (zac hb2 HXT.out lgt1)
 clear hb2 HSF q0 q1 q2 lgs HXS
 rcases hcase with⟨hset,rfl⟩|⟨hset,rfl⟩
 ·
  have HSET:=Lib.hid hset
  clear hset
  have t0:w2.cell? ⟨gt,0,none⟩=some (.slice ai img.length ci):=zaa HXT2.out 0
  have t1:w2.cell? ⟨gt,1,none⟩=some (.slice ab b.length cb):=zaa HXT2.out 1
  have t2:w2.cell? ⟨gt,2,none⟩=some (.int .i64 cnt):=zaa HXT2.out 2
  have lt:gt<w2.heap.size:=(Array.getElem?_eq_some_iff.1 HXT2.out).1
  have HTF:=Lib.hid (zdN _ _ img b cnt w2 (HI.out.to HB2.out.size (zae HB2.out)) (HBY.out.to HB2.out.size (zae HB2.out)) HC.out)
  go_wp2_with fail
  refine HTF.out.mono ?_
  rintro e w3 ⟨d,L,vo,hch,rfl,hev,hb3⟩
  have HB3:=Lib.hid (HB2.out.trans (hb3.mono HB2.out.size))
  have HXT3:=Lib.hid (zac hb3 HXT2.out lt)
  have HCH:=Lib.hid hch
  have HEV:=Lib.hid hev
  clear hb3 hch hev HTF t0 t1 t2 lt HXT2
  by_cases hd:d=0
  ·
   subst hd
   have HGD:=Lib.hid (zdF HCH.out)
   obtain⟨al,cl,rfl,-⟩:=id HEV.out
   have t0:w3.cell? ⟨gt,0,none⟩=some (.slice ai img.length ci):=zaa HXT3.out 0
   have t1:w3.cell? ⟨gt,1,none⟩=some (.slice ab b.length cb):=zaa HXT3.out 1
   have t2:w3.cell? ⟨gt,2,none⟩=some (.int .i64 cnt):=zaa HXT3.out 2
   have lt:gt<w3.heap.size:=(Array.getElem?_eq_some_iff.1 HXT3.out).1
   go_wp2_with fail
   go_loopg [10] zs.length (fun gh s10 wr =>∃i q:Nat,i≤zs.length∧zs.length-i≤gh∧s10=.int .i64 i∧wr=w3.drewN q∧Hid (∀z∈zs.take i,0≤z∧z≤cnt))
   case atStart=>exact⟨0,0,Nat.zero_le _,by omega,rfl,rfl,Lib.hid (fun z hz=>by simp at hz)⟩
   case round=>
    obtain⟨i,q,hi,hgh,rfl,rfl,HRG⟩:=hrel
    have t2d:(w3.drewN q).cell? ⟨gt,2,none⟩=some (.int .i64 cnt):=t2
    have ltd:gt<(w3.drewN q).heap.size:=lt
    by_cases hlt:i<zs.length
    ·
     obtain⟨bz,off,v0,rfl,hbz,hcl,rfl,hz64⟩:=HZC.out i hlt
     have r0:w3.cell? ⟨bz,off+i,none⟩=some (.int .i64 zs[i]):=(zae HB3.out bz _ hbz).trans hcl
     have hk1:(i:Int)<(zs.length:Int):=by omega
     have HTK:=Lib.hid (List.take_succ_eq_append_getElem hlt)
     have HMEM:=Lib.hid (List.getElem_mem hlt)
     clear hcl
     generalize zs[i]=z at *
     go_upto_region 10 with fail
     by_cases hin:0≤z∧z≤cnt
     ·
      have HIN:=Lib.hid (fun w=>za0 z 0 cnt w hin)
      have HR2:=Lib.hid (show ∀y∈zs.take (i+1),0≤y∧y≤cnt from fun y hy=>by
       rw[HTK.out] at hy
       rcases List.mem_append.1 hy with h|h
       ·exact HRG.out y h
       ·rw[List.mem_singleton.1 h];exact hin)
      clear hin
      go_cut [41] from 34 to 41 (fun s41 wx=>s41=.bool false∧∃n,wx=w3.drewN n)
      case first=>
       go_region_law ((go_simp;go_at_call 13;refine(HIN.out _).mono ?_;rintro en wq ⟨rfl,rfl⟩;skip))
       all_goals go_wp2_with fail
       all_goals go_meet
       all_goals exact⟨rfl,q+1,rfl⟩
      case rest=>
       obtain⟨rfl,n,hn⟩:=hcut
       subst hn
       go_wp2_with fail
       go_roundg (zs.length-(i+1))
       case measure=>omega
       case rel=>exact⟨i+1,n,by omega,by omega,by go_num,rfl,HR2⟩
     ·
      have HIN:=Lib.hid (fun w=>zcw z 0 cnt w hin)
      have HBAD:=Lib.hid (show z<0∨cnt<z from by omega)
      clear hin
      go_cut [41] from 34 to 41 (fun s41 wx=>s41=.bool true∧∃n,wx=w3.drewN n)
      case first=>
       go_region_law ((go_simp;go_at_call 13;refine(HIN.out _).mono ?_;rintro en wq ⟨rfl,rfl⟩;skip))
       all_goals go_wp2_with fail
       all_goals go_meet
       all_goals exact⟨rfl,q+1,rfl⟩
      case rest=>
       obtain⟨rfl,n,hn⟩:=hcut
       subst hn
       go_wp2_with fail
       refine bodyPost_ret (v:=.tuple #[.slice none 0 0,.int .i64 2]) (by simp[results,Tryd.results5,go_sem]) rfl ⟨below_drewN HB3.out _,Or.inl ⟨2,by decide,rfl,Or.inr (Or.inr ⟨HSET.out,L,HCH.out,rfl,z,HMEM.out,HBAD.out⟩)⟩⟩
    ·
     have HALL:=Lib.hid (show ∀z∈zs,0≤z∧z≤cnt from by have:=HRG.out;rwa [List.take_of_length_le (by omega)] at this)
     obtain⟨N,rfl⟩:∃N:Nat,cnt=N:=⟨cnt.toNat,by have:=HGD.out.2.1;omega⟩
     have hBw:=below_drewN HB3.out q
     have HAO:=Lib.hid (zib _ _ img b N L al cl (w3.drewN q) (HI.out.to hBw.size (zae hBw)) (HBY.out.to hBw.size (zae hBw)) HCH.out (HEV.out.to (Nat.le_refl _) (fun _ _ _=>rfl)))
     rw[Int.toNat_natCast] at HAO
     have HB4:=Lib.hid (below_drewN HB3.out q)
     have HN3:=Lib.hid HGD.out.2.2.1
     have t0d:(w3.drewN q).cell? ⟨gt,0,none⟩=some (.slice ai img.length ci):=t0
     have t1d:(w3.drewN q).cell? ⟨gt,1,none⟩=some (.slice ab b.length cb):=t1
     have hno:¬(i:Int)<(zs.length:Int):=by omega
     clear t0 t1 t2 lt HXT3 hBw HRG hgh
     generalize w3.drewN q=w4 at *
     go_wp2_with fail
     refine HAO.out.mono ?_
     rintro e w5 ⟨va,ca,vw,cw,l,rfl,ho5,hm5,hw5,hb5⟩
     have HO5:=Lib.hid ho5
     have HM5:=Lib.hid hm5
     have HB5:=Lib.hid (HB4.out.trans (hb5.mono HB4.out.size))
     have HLN:Hid (l.length=N+1):=Lib.hid (by have:=congrArg List.length hm5;simpa using this)
     have lw5:w.heap.size≤w5.heap.size:=HB5.out.size
     clear ho5 hm5 hw5 hb5 HAO HB4 t0d t1d t2d ltd
     go_wp2_with fail
     go_loopg [13,14] zs.length (fun gh s13 s14 wr =>∃(i:Nat) (vo:Option Addr) (co:Nat) (o:List MG),i≤zs.length∧zs.length-i≤gh∧s13=.slice vo i co∧s14=.int .i64 i∧Hid (OutsR w5.heap.size wr (.slice vo i co) o)∧Hid (o.map (·.m)=(zs.take i).map (fun z=>runM L (zas img) z.toNat))∧Hid (Below w5.heap.size w5 wr))
     case atStart=>exact⟨0,none,0,[],Nat.zero_le _,by omega,rfl,rfl,Lib.hid (OutsR.nil _ _),Lib.hid rfl,Lib.hid (Below.refl _ _)⟩
     case round=>
      obtain⟨i,vo,co,o,hi,hgh,rfl,rfl,HO,HM,HB⟩:=hrel
      by_cases hlt:i<zs.length
      ·
       obtain⟨bz,off,v0,rfl,hbz,hcl,rfl,hz64⟩:=HZC.out i hlt
       have hBB:=HB5.out.trans (HB.out.mono lw5)
       have r0:wr.cell? ⟨bz,off+i,none⟩=some (.int .i64 zs[i]):=(zae hBB bz _ hbz).trans hcl
       have hk1:(i:Int)<(zs.length:Int):=by omega
       have HTK:=Lib.hid (List.take_succ_eq_append_getElem hlt)
       have hrz:=HALL.out _ (List.getElem_mem hlt)
       clear hcl
       generalize zs[i]=z at *
       obtain⟨k,rfl⟩:∃k:Nat,z=k:=⟨z.toNat,by omega⟩
       have hkN:k<N+1:=by omega
       have hk2:(k:Int)<((N+1:Nat):Int):=by omega
       have hk0:(0:Int)≤(k:Int):=by omega
       have hkl:k<l.length:=by rw[HLN.out];exact hkN
       have HXE:=Lib.hid (show l[k].m=runM L (zas img) k from by
        have:=congrArg (fun t=>t[k]?) HM5.out
        simpa[hkl,hkN] using this)
       have HMG:=Lib.hid ((HO5.out.el _ (List.getElem_mem hkl)).stay (fun g hg=>HB.out.block g ((HO5.out.el _ (List.getElem_mem hkl)).lt hg).2))
       have hcell:∀j,j<12→∃ga,va=some ⟨ga,0,none⟩∧ga<w5.heap.size∧wr.cell? ⟨ga,k*12+j,none⟩=l[k].cells[j]?:=fun j hj=>by
        obtain⟨g,cap,hv,hgl,hce⟩:=HO5.out.cell hkl hj
        rw[HLN.out] at hv
        injection hv with hv1 hv2 hv3
        refine⟨g,hv1,hgl,?_⟩
        rw[Nat.mul_comm k 12,←hce]
        exact zae HB.out g _ hgl
       obtain⟨ga,rfl,hga,-⟩:=hcell 0 (by omega)
       have hce:∀j,j<12→wr.cell? ⟨ga,k*12+j,none⟩=l[k].cells[j]?:=fun j hj=>by
        obtain⟨g,e1,e2,e3⟩:=hcell j hj
        injection e1 with e1;injection e1 with e1
        rw[e1];exact e3
       have HMGR:=Lib.hid HMG.out.reads
       generalize l[k]=y at *
       have p0:wr.cell? ⟨ga,k*12,none⟩=some (.slice y.ar y.m.regs.length y.cr):=hce 0 (by omega)
       have p1:wr.cell? ⟨ga,k*12+1,none⟩=some (.int .i64 y.m.pc):=hce 1 (by omega)
       have p2:wr.cell? ⟨ga,k*12+2,none⟩=some (.int .i64 y.m.back):=hce 2 (by omega)
       have p3:wr.cell? ⟨ga,k*12+3,none⟩=some (.bool y.m.ints):=hce 3 (by omega)
       have p4:wr.cell? ⟨ga,k*12+4,none⟩=some (.bool y.m.wait):=hce 4 (by omega)
       have p5:wr.cell? ⟨ga,k*12+5,none⟩=some (.int .i64 y.m.table):=hce 5 (by omega)
       have p6:wr.cell? ⟨ga,k*12+6,none⟩=some (.int .i64 y.m.count):=hce 6 (by omega)
       have p7:wr.cell? ⟨ga,k*12+7,none⟩=some (.int .i64 y.m.fin):=hce 7 (by omega)
       have p8:wr.cell? ⟨ga,k*12+8,none⟩=some (.slice y.am y.m.mem.length y.cm):=hce 8 (by omega)
       have p9:wr.cell? ⟨ga,k*12+9,none⟩=some (.slice y.ao y.m.out.length y.co):=hce 9 (by omega)
       have p10:wr.cell? ⟨ga,k*12+10,none⟩=some (.int .i64 y.m.ready):=hce 10 (by omega)
       have p11:wr.cell? ⟨ga,k*12+11,none⟩=some (.int .i64 y.m.want):=hce 11 (by omega)
       have lga:ga<wr.heap.size:=by have:=HB.out.size;omega
       clear hce hcell
       have HGC:=Lib.hid (zeu y.m y.ar y.am y.ao y.cr y.cm y.co wr HMGR.out.1 HMGR.out.2.1 HMGR.out.2.2)
       have hbw:w5.heap.size≤wr.heap.size:=HB.out.size
       have HYO:=Lib.hid HMG.out.ok
       generalize hym:y.m=my at *
       go_wp2_with fail
       refine HGC.out.mono ?_
       rintro e w7 ⟨ar,dr,am,dm,a2,d2,rfl,hown,hb7⟩
       rw[Mach.agg]
       clear HGC HMGR HMG p0 p1 p2 p3 p4 p5 p6 p7 p8 p9 p10 p11
       obtain⟨x,hx⟩:∃x:MG,x=⟨my,ar,dr,am,dm,a2,d2⟩:=⟨_,rfl⟩
       have HX7:=Lib.hid (show MGR w5.heap.size w7 x from by rw[hx];exact(MGR.low (x:=⟨my,ar,dr,am,dm,a2,d2⟩) ⟨hown.hr,hown.hm,hown.ho,HYO.out⟩ hbw))
       have HO7:=Lib.hid (HO.out.below hb7)
       have HB7:=Lib.hid (HB.out.trans (hb7.mono hbw))
       have lw7:w5.heap.size≤w7.heap.size:=HB7.out.size
       have HXM:=Lib.hid (show x.m=my from by rw[hx])
       have HXX:=Lib.hid hx
       have HXC:=Lib.hid (show x.cells=[Value.slice ar my.regs.length dr,.int .i64 my.pc,.int .i64 my.back,.bool my.ints,.bool my.wait,.int .i64 my.table,.int .i64 my.count,.int .i64 my.fin,.slice am my.mem.length dm,.slice a2 my.out.length d2,.int .i64 my.ready,.int .i64 my.want] from by rw[hx];rfl)
       have HOL:Hid (o.length=i):=Lib.hid (by have:=congrArg List.length HM.out;simpa[Nat.min_eq_left hi] using this)
       have HROW:=Lib.hid (show w7.ownsRow w5.heap.size 48 12 (.slice vo i co) i (o.flatMap MG.cells) from by have:=HO7.out.row;rw[HOL.out] at this;exact this)
       clear hx hown hb7 HO HB r0
       go_wp2_with (at_builtin;go_loud (refine za7 w7 rfl (.tmp 54) (.tmp 63) 28 rfl w5.heap.size 48 (.agg #[.slice none 0 0,.int .i64 0,.int .i64 0,.bool false,.bool false,.int .i64 0,.int .i64 0,.int .i64 0,.slice none 0 0,.slice none 0 0,.int .i64 0,.int .i64 0]) 12 136 Tryd.underlying28 zc4 rfl (by decide) [.slice ar my.regs.length dr,.int .i64 my.pc,.int .i64 my.back,.bool my.ints,.bool my.wait,.int .i64 my.table,.int .i64 my.count,.int .i64 my.fin,.slice am my.mem.length dm,.slice a2 my.out.length d2,.int .i64 my.ready,.int .i64 my.want] rfl (by simp[Value.oneCell']) _ _ _ (by rfl) HROW.out (by rfl) rfl (by omega) (by omega) (by omega) ?_);intro g5 cp5 w8 hown5 hgrow5 hn5;have HW5:=Lib.hid hown5;have HG5:=Lib.hid hgrow5;clear hown5 hgrow5 hn5)
       have HMG8:=Lib.hid (HX7.out.stay (w':=w8) (fun g hg=>HG5.out.block g (HX7.out.lt hg).2 (fun e=>absurd (zaL (HX7.out.ty hg) (zaD HROW.out e.symm)) (by decide))))
       have HO8:=Lib.hid (HO7.out.push HMG8.out HG5.out (g:=g5) (cap:=cp5) (by rw[HOL.out,HXC.out];exact HW5.out))
       rw[List.length_append,HOL.out,List.length_singleton] at HO8
       have HB8:=Lib.hid (below_grown HB7.out HROW.out HG5.out lw7 (Nat.le_refl _))
       go_roundg (zs.length-(i+1))
       case measure=>omega
       case rel=>exact⟨i+1,_,_,_,by omega,by omega,rfl,by go_num,HO8,Lib.hid (by rw[HTK.out,List.map_append,List.map_append,HM.out,List.map_singleton,List.map_singleton,HXM.out,HXE.out,Int.toNat_natCast]),HB8⟩
      ·
       obtain rfl:i=zs.length:=by omega
       rw[List.take_length] at HM
       have HFIN:=Lib.hid (show zie a ev kp img b N zs w (.returned (.tuple #[.slice vo zs.length co,.int .i64 0])) wr from ⟨HB5.out.trans (HB.out.mono lw5),Or.inr ⟨HSET.out,L,HCH.out,HALL.out,vo,co,o,⟨zar HO.out.row lw5,fun x hx=>(HO.out.el x hx).low lw5⟩,HM.out,rfl⟩⟩)
       clear HO HM HB
       go_wp2_with fail
       refine bodyPost_ret (v:=.tuple #[.slice vo zs.length co,.int .i64 0]) (by simp[results,Tryd.results5,go_sem]) rfl HFIN.out
  ·
   have HD:=Lib.hid hd
   have hd1:(d != 0)=true:=bne_iff_ne.2 hd
   clear hd
   go_wp2_with fail
   refine bodyPost_ret (v:=.tuple #[.slice none 0 0,.int .i64 d]) (by simp[results,Tryd.results5,go_sem]) rfl ⟨HB3.out,Or.inl ⟨d,HD.out,rfl,Or.inr (Or.inl ⟨HSET.out,L,HCH.out⟩)⟩⟩
 ·
  have HSET:=Lib.hid hset
  clear hset
  go_wp2_with fail
  refine bodyPost_ret (v:=.tuple #[.slice none 0 0,.int .i64 2]) (by simp[results,Tryd.results5,go_sem]) rfl ⟨HB2.out,Or.inl ⟨2,by decide,rfl,Or.inl ⟨HSET.out,rfl⟩⟩⟩
theorem MGR.below{base:Nat}{w w':World}{x:MG}(h:MGR base w x)(hb:Below w.heap.size w w'):MGR base w' x:=h.stay (fun g hg=>hb.block g (h.lt hg).2)
theorem MGR.mach{base:Nat}{w:World}{x:MG}(h:MGR base w x):MachR w.heap.size w (.agg #[.slice x.ar x.m.regs.length x.cr,.int .i64 x.m.pc,.int .i64 x.m.back,.bool x.m.ints,.bool x.m.wait,.int .i64 x.m.table,.int .i64 x.m.count,.int .i64 x.m.fin,.slice x.am x.m.mem.length x.cm,.slice x.ao x.m.out.length x.co,.int .i64 x.m.ready,.int .i64 x.m.want]) x.m:=⟨x.ar,x.cr,x.am,x.cm,x.ao,x.co,rfl,h.reads.1,h.reads.2.1,h.reads.2.2⟩
theorem zdq{base:Nat}{w w':World}{va:Option Addr}{n ca:Nat}{l:List MG}(ho:OutsR base w (.slice va n ca) l)(hl:l.length=n)(hb:Below w.heap.size w w'){k:Nat}(hk:k<n):∃ga,va=some ⟨ga,0,none⟩∧ga<w'.heap.size∧∀j,j<12→w'.cell? ⟨ga,k*12+j,none⟩=(l[k]'(by omega)).cells[j]?:=by
 have hkl:k<l.length:=by omega
 obtain⟨g,cap,hv,hgl,-⟩:=ho.cell hkl (j:=0) (by omega)
 injection hv with hv1 hv2 hv3
 refine⟨g,hv1,by have:=hb.size;omega,fun j hj=>?_⟩
 obtain⟨g2,cap2,hw,hgl2,hce⟩:=ho.cell hkl hj
 injection hw with hw1 hw2 hw3
 have e:g=g2:=by rw[hv1] at hw1;injection hw1 with e;injection e
 subst e
 rw[Nat.mul_comm k 12,←hce]
 exact zae hb g _ hgl
theorem zdr{b1 b2 n:Nat}(va vb:Option Addr)(ca cb:Nat)(l1 l2:List MG)(w:World)(h1:OutsR b1 w (.slice va n ca) l1)(h2:OutsR b2 w (.slice vb n cb) l2)(n1:l1.length=n)(n2:l2.length=n)(hn:n≤1000000000000)(hm:l1.map (·.m)=l2.map (·.m)):Calls Tryd.prog 7 #[.slice va n ca,.slice vb n cb] w fun e w'=>e=.returned (.bool true)∧Below w.heap.size w w':=by
 have H1:=Lib.hid h1
 have H2:=Lib.hid h2
 have HM:=Lib.hid hm
 have HN:=Lib.hid (And.intro n1 n2)
 clear h1 h2 hm n1 n2
 go_enter Tryd.func7,Tryd.ntmps7
 go_wp2_with fail
 go_loopg [5] n (fun gh s5 wr =>∃i:Nat,i≤n∧n-i≤gh∧s5=.int .i64 i∧Hid (Below w.heap.size w wr))
 case atStart=>exact⟨0,Nat.zero_le _,by omega,rfl,Lib.hid (Below.refl _ _)⟩
 case round=>
  obtain⟨i,hi,hgh,rfl,HB⟩:=hrel
  by_cases hlt:i<n
  ·
   have hk1:(i:Int)<(n:Int):=by omega
   obtain⟨ga,rfl,hga,hca⟩:=zdq H1.out HN.out.1 HB.out hlt
   obtain⟨gb,rfl,hgb,hcb⟩:=zdq H2.out HN.out.2 HB.out hlt
   have hl1:i<l1.length:=by rw[HN.out.1];exact hlt
   have hl2:i<l2.length:=by rw[HN.out.2];exact hlt
   have HE:=Lib.hid (show l1[i].m=l2[i].m from by have:=congrArg (fun t=>t[i]?) HM.out;simpa[hl1,hl2] using this)
   have HG1:=Lib.hid ((H1.out.el _ (List.getElem_mem hl1)).stay (w':=wr) (fun g hg=>HB.out.block g ((H1.out.el _ (List.getElem_mem hl1)).lt hg).2))
   have HG2:=Lib.hid ((H2.out.el _ (List.getElem_mem hl2)).stay (w':=wr) (fun g hg=>HB.out.block g ((H2.out.el _ (List.getElem_mem hl2)).lt hg).2))
   have HS:=Lib.hid (fun (w2:World) (hb:Below wr.heap.size wr w2)=>zcP _ _ l1[i].m w2 (HG1.out.below hb).mach (by rw[HE.out];exact(HG2.out.below hb).mach))
   generalize l1[i]=x at *
   generalize l2[i]=y at *
   have p0:wr.cell? ⟨ga,i*12,none⟩=some (.slice x.ar x.m.regs.length x.cr):=hca 0 (by omega)
   have p1:wr.cell? ⟨ga,i*12+1,none⟩=some (.int .i64 x.m.pc):=hca 1 (by omega)
   have p2:wr.cell? ⟨ga,i*12+2,none⟩=some (.int .i64 x.m.back):=hca 2 (by omega)
   have p3:wr.cell? ⟨ga,i*12+3,none⟩=some (.bool x.m.ints):=hca 3 (by omega)
   have p4:wr.cell? ⟨ga,i*12+4,none⟩=some (.bool x.m.wait):=hca 4 (by omega)
   have p5:wr.cell? ⟨ga,i*12+5,none⟩=some (.int .i64 x.m.table):=hca 5 (by omega)
   have p6:wr.cell? ⟨ga,i*12+6,none⟩=some (.int .i64 x.m.count):=hca 6 (by omega)
   have p7:wr.cell? ⟨ga,i*12+7,none⟩=some (.int .i64 x.m.fin):=hca 7 (by omega)
   have p8:wr.cell? ⟨ga,i*12+8,none⟩=some (.slice x.am x.m.mem.length x.cm):=hca 8 (by omega)
   have p9:wr.cell? ⟨ga,i*12+9,none⟩=some (.slice x.ao x.m.out.length x.co):=hca 9 (by omega)
   have p10:wr.cell? ⟨ga,i*12+10,none⟩=some (.int .i64 x.m.ready):=hca 10 (by omega)
   have p11:wr.cell? ⟨ga,i*12+11,none⟩=some (.int .i64 x.m.want):=hca 11 (by omega)
   have q0:wr.cell? ⟨gb,i*12,none⟩=some (.slice y.ar y.m.regs.length y.cr):=hcb 0 (by omega)
   have q1:wr.cell? ⟨gb,i*12+1,none⟩=some (.int .i64 y.m.pc):=hcb 1 (by omega)
   have q2:wr.cell? ⟨gb,i*12+2,none⟩=some (.int .i64 y.m.back):=hcb 2 (by omega)
   have q3:wr.cell? ⟨gb,i*12+3,none⟩=some (.bool y.m.ints):=hcb 3 (by omega)
   have q4:wr.cell? ⟨gb,i*12+4,none⟩=some (.bool y.m.wait):=hcb 4 (by omega)
   have q5:wr.cell? ⟨gb,i*12+5,none⟩=some (.int .i64 y.m.table):=hcb 5 (by omega)
   have q6:wr.cell? ⟨gb,i*12+6,none⟩=some (.int .i64 y.m.count):=hcb 6 (by omega)
   have q7:wr.cell? ⟨gb,i*12+7,none⟩=some (.int .i64 y.m.fin):=hcb 7 (by omega)
   have q8:wr.cell? ⟨gb,i*12+8,none⟩=some (.slice y.am y.m.mem.length y.cm):=hcb 8 (by omega)
   have q9:wr.cell? ⟨gb,i*12+9,none⟩=some (.slice y.ao y.m.out.length y.co):=hcb 9 (by omega)
   have q10:wr.cell? ⟨gb,i*12+10,none⟩=some (.int .i64 y.m.ready):=hcb 10 (by omega)
   have q11:wr.cell? ⟨gb,i*12+11,none⟩=some (.int .i64 y.m.want):=hcb 11 (by omega)
   clear hca hcb HE HG1 HG2
   have HSD:=Lib.hid (HS.out wr.drew (below_drewN (Below.refl _ _) 1))
   clear HS
   go_upto_region 6 with fail
   go_still_tail 8,(by kernel_rfl)
   change wpList _ _ _ _ _ wr.drew
   go_wp2_with fail
   refine HSD.out.mono ?_
   rintro e w4 ⟨rfl,hb4⟩
   have HB4:=Lib.hid (HB.out.trans ((below_drewN (Below.refl wr.heap.size wr) 1 |>.trans (hb4.mono (by simp))).mono HB.out.size))
   clear hb4 HSD p0 q0 p1 q1 p2 q2 p3 q3 p4 q4 p5 q5 p6 q6 p7 q7 p8 q8 p9 q9 p10 q10 p11 q11
   go_wp2_with fail
   go_roundg (n-(i+1))
   case measure=>omega
   case rel=>exact⟨i+1,by omega,by omega,by go_num,HB4⟩
  ·
   go_wp2_with fail
   go_ret
   exact⟨rfl,HB.out⟩
theorem zif(a ev kp:Int)(w:World)(h:zaT a ev kp)(hlt:a<16*(kp+2)):Calls Tryd.prog 6 #[.agg #[.int .i64 a,.int .i64 ev,.int .i64 kp]] w fun e w'=>e=.returned (.bool false)∧Below w.heap.size w w':=by
 unfold zaT at h
 have w1:IntKind.i64.wrap (kp+2)=kp+2:=IntWalk.i64_in _ (by omega)
 have w2:IntKind.i64.wrap (16*(kp+2))=16*(kp+2):=IntWalk.i64_in _ (by omega)
 have HB:=Lib.hid (zai w (.cells #[.int .i64 a,.int .i64 ev,.int .i64 kp] 23 (0,0)))
 go_enter Tryd.func6,Tryd.ntmps6
 go_wp2_with fail
 all_goals first|(exfalso;omega;done)|skip
 go_ret
 exact⟨zaZ (by simp;omega),HB.out⟩
end Go.Proofs.YtflonfcemlfbdaaDoor
