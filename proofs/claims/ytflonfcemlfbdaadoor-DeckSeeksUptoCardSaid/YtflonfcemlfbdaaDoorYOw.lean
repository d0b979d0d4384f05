/- Several texts joined, each with its own heading in the notes: The document's onward: a guest's next instruction by the events of a tape. The contract of the document's GuestCopy. No condition beyond those of each row. -/
import Derived.Test.YtflonfcemlfbdaaDoorYSti
import Derived.Test.YtflonfcemlfbdaaDoorYSu
import Derived.StillTailTactics
import Derived.Deep.CutBlock
import Derived.Deep.CutRange
import Derived.Deep.LoopGhost
import Derived.Test.YtflonfcemlfbdaaDoorYCm
import Derived.Handy
namespace Go.Proofs.YtflonfcemlfbdaaDoor
open Go Go.RowKit Go.ChangeShapes Go.WideShapes Go.Deep
set_option maxHeartbeats 8000000
set_option maxRecDepth 100000
set_option linter.unusedVariables false
attribute [local go_sem ↓] Go.wp_at_zero Go.wp_at_succ
def Dz(gr mb:Nat)(ao:Option Addr)(n co:Nat)(g:Nat):Prop:=g=gr∨g=mb∨(Value.slice ao n co).ownBlock=some g
section
variable {w0 w:World} {D:Nat→Prop} {gr cr mb cm:Nat} {m:Mach} {ao:Option Addr} {co:Nat}
theorem ZA.base(h:ZA w0 D gr cr mb cm m ao co w):ZA w (Dz gr mb ao m.out.length co) gr cr mb cm m ao co w:=
 ⟨h.regs,h.mem,h.out,h.rm,h.ro,h.mo,OutF.refl _ _,Or.inl (Or.inl rfl),Or.inl (Or.inr (Or.inl rfl)),fun g hg=>Or.inl (Or.inr (Or.inr hg))⟩
theorem ZA.dz(h:ZA w0 D gr cr mb cm m ao co w):∀g,Dz gr mb ao m.out.length co g→D g∨w0.heap.size≤g:=by
 rintro g (rfl|rfl|hg)
 ·exact h.lr
 ·exact h.lm
 ·exact h.lo g hg
theorem ZA.back(h0:ZA w0 D gr cr mb cm m ao co w){m':Mach}{ao':Option Addr}{co':Nat}{w':World}(h:ZA w (Dz gr mb ao m.out.length co) gr cr mb cm m' ao' co' w'):ZA w0 D gr cr mb cm m' ao' co' w':=by
 have hD:=h0.dz
 have hs:=h0.old.size
 exact⟨h.regs,h.mem,h.out,h.rm,h.ro,h.mo,h0.old.trans h.old hD,h0.lr,h0.lm,fun g hg=>(h.lo g hg).elim (hD g) (fun q=>Or.inr (by omega))⟩
theorem ZA.nd(h:ZA w0 D gr cr mb cm m ao co w){g:Nat}{cs:Array Value}{t:TypeId}{fr:Nat×Nat}(hg:w.heap[g]?=some (.cells cs t fr))(ht:3≠t):¬Dz gr mb ao m.out.length co g:=by
 rintro (e|e|e)
 ·exact zad h.regs hg ht (by rw[e];rfl)
 ·exact zad h.mem hg ht (by rw[e];rfl)
 ·exact zad h.out hg ht e.symm
theorem ZA.set(h:ZA w0 D gr cr mb cm m ao co w){g:Nat}{cs:Array Value}{t:TypeId}{fr:Nat×Nat}(hg:w.heap[g]?=some (.cells cs t fr))(ht:3≠t)(hd:D g∨w0.heap.size≤g)(i:Nat)(u:Value):ZA w0 D gr cr mb cm m ao co (w.setCell ⟨g,i,none⟩ u):=
 ⟨zao h.regs (zad h.regs hg ht) u,zao h.mem (zad h.mem hg ht) u,zao h.out (zad h.out hg ht) u,h.rm,h.ro,h.mo,h.old.setCell hd u,h.lr,h.lm,h.lo⟩
end
theorem zh5{B:Nat}{w:World}:Ints B w (.slice none 0 0) []:=⟨none,0,rfl,Nat.zero_le _,Nat.zero_le _,fun i h=>absurd h (Nat.not_lt_zero _)⟩
theorem zh6{k:Int}{l:List Ev}{i:Nat}(h:i<l.length)(a:Bool×List Int×Int):(l.take (i+1)).foldl (zaB k) a=zaB k ((l.take i).foldl (zaB k) a) l[i]:=by
 rw[List.take_add_one,List.getElem?_eq_getElem h,Option.toList_some,List.foldl_append]
 rfl
theorem zgB(m:Mach)(w0:World)(D:Nat→Prop)(gr cr mb cm:Nat)(ao:Option Addr)(co:Nat)(E:Nat)(al:Option Addr)(nl cl:Nat)(l:List Ev)(k:Int)(w:World)(hz:ZA w0 D gr cr mb cm m ao co w)(hok:MOk m)(hc:m.count<1099511627776)(hE:E≤w0.heap.size)(hD:∀g,g<E→¬D g)(hl:EvL l)(hev:EvsR E w0 (.slice al nl cl) l):Calls Tryd.prog 27 #[.agg #[.slice (some ⟨gr,0,none⟩) 8 cr,.int .i64 m.pc,.int .i64 m.back,.bool m.ints,.bool m.wait,.int .i64 m.table,.int .i64 m.count,.int .i64 m.fin,.slice (some ⟨mb,0,none⟩) 256 cm,.slice ao m.out.length co,.int .i64 m.ready,.int .i64 m.want],.slice al nl cl,.int .i64 k] w (zd9 w0 D gr cr mb cm (onM m l k)):=by
 obtain⟨al2,cl2,hv,hlen,_,hcell⟩:=hev
 injection hv with v1 v2 v3
 subst v1 v2 v3
 have HSE:=Lib.hid (fun (W:World) (ho:OutF D w0 W)=>(ho.same hE hD:Same E w0 W))
 have HEE:=Lib.hid (And.intro hE hD)
 have HZ:=Lib.hid hz
 have HOK:=Lib.hid hok
 have HCT:=Lib.hid hc
 have HLG:=Lib.hid hl
 have HC:=Lib.hid hcell
 have hEw:E≤w.heap.size:=by have:=hz.old.size;omega
 clear hz hok hc hE hD hl hcell
 obtain⟨bb,hbb⟩:∃bb,bb=w.heap.size:=⟨_,rfl⟩
 obtain⟨W1,hW1⟩:∃W1,W1=(w.alloc (.cells #[.slice (some ⟨gr,0,none⟩) 8 cr,.int .i64 m.pc,.int .i64 m.back,.bool m.ints,.bool m.wait,.int .i64 m.table,.int .i64 m.count,.int .i64 m.fin,.slice (some ⟨mb,0,none⟩) 256 cm,.slice ao m.out.length co,.int .i64 m.ready,.int .i64 m.want] 48 (0,0))).alloc (.cells #[.slice none 0 0,.int .i64 0,.int .i64 0,.bool false,.bool false,.int .i64 0,.int .i64 0,.int .i64 0,.slice none 0 0,.slice none 0 0,.int .i64 0,.int .i64 0] 48 (0,0)):=⟨_,rfl⟩
 have hrb:W1.heap[bb+1]?=some (.cells #[.slice none 0 0,.int .i64 0,.int .i64 0,.bool false,.bool false,.int .i64 0,.int .i64 0,.int .i64 0,.slice none 0 0,.slice none 0 0,.int .i64 0,.int .i64 0] 48 (0,0)):=by rw[hW1,hbb];exact alloc_at (by simp)
 have hbx:W1.heap[bb]?=some (.cells #[.slice (some ⟨gr,0,none⟩) 8 cr,.int .i64 m.pc,.int .i64 m.back,.bool m.ints,.bool m.wait,.int .i64 m.table,.int .i64 m.count,.int .i64 m.fin,.slice (some ⟨mb,0,none⟩) 256 cm,.slice ao m.out.length co,.int .i64 m.ready,.int .i64 m.want] 48 (0,0)):=by rw[hW1,hbb];exact(zaj (by simp)).trans (alloc_at rfl)
 have hZ1:ZA w0 D gr cr mb cm m ao co W1:=by rw[hW1];exact HZ.out.kept (below_alloc2 w _ _)
 have HDB:=Lib.hid (show D (bb+1)∨w0.heap.size≤bb+1 from Or.inr (by have:=HZ.out.old.size;omega))
 have HRB:=Lib.hid hrb
 have HBX:=Lib.hid hbx
 have HZ1:=Lib.hid hZ1
 have HEW:=Lib.hid (show E≤W1.heap.size by have:=HZ.out.old.size;have:=hZ1.old.size;have:=HEE.out.1;omega)
 clear hrb hbx hZ1
 go_enter Tryd.func27,Tryd.ntmps27
 go_upto_region 4 with fail
 rw[←hW1,←hbb]
 clear hW1 hbb HZ hEw
 go_upto_block 0 with fail
 go_cut [8,9,10,11] from 12 (fun s8 s9 s10 s11 wx =>∃ba bc,s8=.bool (inA l k).1∧s9=.slice ba (inA l k).2.1.length bc∧s10=.int .i64 (inA l k).2.2∧wx=W1∧Hid (Ints E w0 (.slice ba (inA l k).2.1.length bc) (inA l k).2.1))
 case first=>
  go_wp2_with fail
  go_loopg [8,9,10,11] l.length (fun gh s8 s9 s10 s11 wr =>∃(i:Nat) (a1:Bool) (a2:List Int) (a3:Int) (ba:Option Addr) (bc:Nat),i≤l.length∧gh=l.length-i∧s11=.int .i64 i∧s8=.bool a1∧s9=.slice ba a2.length bc∧s10=.int .i64 a3∧wr=W1∧Hid ((l.take i).foldl (zaB k) (false,[],0)=(a1,a2,a3))∧Hid (Ints E w0 (.slice ba a2.length bc) a2))
  case atStart=>exact⟨0,false,[],0,none,0,Nat.zero_le _,by omega,rfl,rfl,rfl,rfl,rfl,Lib.hid rfl,Lib.hid zh5⟩
  case round=>
   obtain⟨i,a1,a2,a3,ba,bc,hi,rfl,rfl,rfl,rfl,rfl,rfl,HA,HB⟩:=hrel
   by_cases hlt:i<l.length
   ·
    obtain⟨b,off,cs,rfl,hb,hcs,hcell,dd,cd,hcs2,i1,i2,hint⟩:=HC.out i hlt
    subst hcs2
    have hsm:=HSE.out _ HZ1.out.old
    have k0:=(hsm b _ hb).trans (hcell 0 (by simp))
    have k1:=(hsm b _ hb).trans (hcell 1 (by simp))
    have k2:=(hsm b _ hb).trans (hcell 2 (by simp))
    simp only[Nat.add_zero,List.getElem_cons_zero,List.getElem_cons_succ] at k0 k1 k2
    have hbw:b<wr.heap.size:=by have:=HEW.out;omega
    have hfold:=zh6 (k:=k) hlt (false,[],0)
    rw[HA.out] at hfold
    have HF:=Lib.hid hfold
    have HG:=Lib.hid (HLG.out.good l[i] (List.getElem_mem hlt))
    have HI:=Lib.hid hint
    have hi1:(i:Int)<(l.length:Int):=by omega
    have hi0:(0:Int)≤(i:Int):=by omega
    have hil:l.length≤3518437208780:=hlen
    clear hcell hsm hfold hint hcs i1 i2
    generalize l[i]=y at *
    by_cases hat:y.at_=k
    ·
     have hab:(y.at_ != k)=false:=by rw[hat];simp
     have HAT:=Lib.hid hat
     clear hat
     rcases (show y.kind=1∨y.kind=2∨y.kind=3 by have:=HG.out.k1;have:=HG.out.k3;omega) with h|h|h
     ·
      have HS:Hid (zaB k (a1,a2,a3) y=(true,a2,a3)):=Lib.hid (by unfold zaB;rw[if_neg (fun e=>e HAT.out),if_pos h])
      rw[h] at k1
      clear h
      generalize y.at_=ya at *
      go_wp2
      go_roundg (l.length-(i+1))
      case measure=>omega
      case rel=>exact⟨i+1,true,a2,a3,ba,bc,by omega,rfl,by go_num,rfl,rfl,rfl,rfl,Lib.hid (by rw[HF.out,HS.out]),HB⟩
     ·
      have HS:Hid (zaB k (a1,a2,a3) y=(a1,y.data,a3)):=Lib.hid (by unfold zaB;rw[if_neg (fun e=>e HAT.out),if_neg (by omega),if_pos h])
      rw[h] at k1
      clear h
      generalize y.at_=ya at *
      go_wp2
      go_roundg (l.length-(i+1))
      case measure=>omega
      case rel=>exact⟨i+1,a1,y.data,a3,dd,cd,by omega,rfl,by go_num,rfl,rfl,rfl,rfl,Lib.hid (by rw[HF.out,HS.out]),HI⟩
     ·
      have HS:Hid (zaB k (a1,a2,a3) y=(a1,a2,y.data.headD 0)):=Lib.hid (by unfold zaB;rw[if_neg (fun e=>e HAT.out),if_neg (by omega),if_neg (by omega)])
      obtain⟨z,hz⟩:∃z,y.data=[z]:=List.length_eq_one_iff.1 (HG.out.v1 h)
      have hi2:=HI.out
      rw[hz] at hi2 k2 HS
      obtain⟨a',c',hv,_,_,hcl⟩:=hi2
      injection hv with e1 e2 e3
      subst e1 e3
      obtain⟨gd,od,vi,rfl,hgd,hci,hvi⟩:=hcl 0 (by simp)
      obtain⟨rfl,-⟩:=hvi
      rw[Nat.add_zero] at hci
      have hci2:=(HSE.out _ HZ1.out.old gd _ hgd).trans hci
      have hgw:gd<wr.heap.size:=by have:=HEW.out;omega
      simp only[List.getElem_cons_zero] at hci2
      simp only[List.length_singleton] at k2
      rw[h] at k1
      clear h hz hcl hci
      generalize y.at_=ya at *
      go_wp2
      go_roundg (l.length-(i+1))
      case measure=>omega
      case rel=>exact⟨i+1,a1,a2,z,ba,bc,by omega,rfl,by go_num,rfl,rfl,rfl,rfl,Lib.hid (by rw[HF.out,HS.out];rfl),HB⟩
    ·
     have hab:(y.at_ != k)=true:=by rw[bne_iff_ne];exact hat
     have HS:Hid (zaB k (a1,a2,a3) y=(a1,a2,a3)):=Lib.hid (by unfold zaB;rw[if_pos hat])
     clear hat
     generalize y.at_=ya at *
     go_wp2
     go_roundg (l.length-(i+1))
     case measure=>omega
     case rel=>exact⟨i+1,a1,a2,a3,ba,bc,by omega,rfl,by go_num,rfl,rfl,rfl,rfl,Lib.hid (by rw[HF.out,HS.out]),HB⟩
   ·
    obtain rfl:i=l.length:=by omega
    have HA2:=Lib.hid (show inA l k=(a1,a2,a3) from by have:=HA.out;rw[List.take_length] at this;exact this)
    clear HA hlt
    go_wp2
    go_meet
    rw[HA2.out]
    exact⟨ba,bc,rfl,rfl,rfl,rfl,HB⟩
 case rest=>
  obtain⟨ba,bc,rfl,rfl,rfl,rfl,HB⟩:=hcut
  have HIG:=Lib.hid (zfI HLG.out k)
  have HON:Hid (onM m l k=zbe m (inA l k).1 (inA l k).2.1 (inA l k).2.2):=Lib.hid rfl
  have HST:=Lib.hid (zfe m wc (Dz gr mb ao m.out.length co) gr cr mb cm ao co (inA l k).1 ba (inA l k).2.1 bc (inA l k).2.2 wc HZ1.out.base HOK.out HCT.out HIG.out.1 HIG.out.2.1 HIG.out.2.2 (fun w' ho=>by
   have hsz:=ho.size
   have hbase:=HZ1.out.old.size
   have hee:=HEE.out.1
   have hdz:∀g,g<E→¬Dz gr mb ao m.out.length co g:=fun g hg hd=>by
    rcases HZ1.out.dz g hd with q|q
    ·exact HEE.out.2 g hg q
    ·omega
   exact HB.out.to (by omega) ((HSE.out _ HZ1.out.old).trans (ho.same (by omega) hdz))))
  rw[←HON.out] at HST
  have hnd:=HZ1.out.nd HRB.out (by decide)
  have HND:=Lib.hid hnd
  have hrl:bb+1<wc.heap.size:=(Array.getElem?_eq_some_iff.1 HRB.out).1
  clear hnd HON HIG HB HC HLG hlen
  generalize inA l k=ia at *
  generalize onM m l k=on at *
  first|(obtain⟨p0,p1,p2,p3,p4,p5,p6,p7,p8,p9,p10,p11⟩:=zaz HBX.out)|(obtain⟨p0,p1,p2,p3,p4,p5,p6,p7,p8,p9,p10,p11⟩:=zaA HBX.out)
  have lbb:bb<wc.heap.size:=(Array.getElem?_eq_some_iff.1 HBX.out).1
  go_upto_region 14 with fail
  go_cut [7] from 12 (fun s7 wx =>∃ao2 co2,s7=.int .i64 on.2∧Hid (wx.heap[bb+1]?=some (.cells #[.slice (some ⟨gr,0,none⟩) 8 cr,.int .i64 on.1.pc,.int .i64 on.1.back,.bool on.1.ints,.bool on.1.wait,.int .i64 on.1.table,.int .i64 on.1.count,.int .i64 on.1.fin,.slice (some ⟨mb,0,none⟩) 256 cm,.slice ao2 on.1.out.length co2,.int .i64 on.1.ready,.int .i64 on.1.want] 48 (0,0))∧ZA w0 D gr cr mb cm on.1 ao2 co2 wx))
  case first=>
   go_wp2_with fail
   refine HST.out.mono ?_
   rintro e w2 ⟨ao2,co2,rfl,hz2⟩
   have HZ2:=Lib.hid (HZ1.out.back hz2)
   have HR2:=Lib.hid (hz2.old.at HRB.out HND.out)
   have lr2:bb+1<w2.heap.size:=(Array.getElem?_eq_some_iff.1 HR2.out).1
   first|(obtain⟨r0,r1,r2,r3,r4,r5,r6,r7,r8,r9,r10,r11⟩:=zaz HR2.out)|(obtain⟨r0,r1,r2,r3,r4,r5,r6,r7,r8,r9,r10,r11⟩:=zaA HR2.out)
   have g0:=zab HR2.out 0
   have g1:=zab HR2.out 1
   have g2:=zab HR2.out 2
   have g3:=zab HR2.out 3
   have g4:=zab HR2.out 4
   have g5:=zab HR2.out 5
   have g6:=zab HR2.out 6
   have g7:=zab HR2.out 7
   have g8:=zab HR2.out 8
   have g9:=zab HR2.out 9
   have g10:=zab HR2.out 10
   have g11:=zab HR2.out 11
   clear hz2 p0 p1 p2 p3 p4 p5 p6 p7 p8 p9 p10 p11
   go_wp2_with fail
   go_meet
   have b0:=HR2.out
   have z0:=HZ2.out
   have z1:=z0.set b0 (by decide) HDB.out 0 (.slice (some ⟨gr,0,none⟩) 8 cr)
   have b1:(w2.setCell ⟨bb+1,0,none⟩ (.slice (some ⟨gr,0,none⟩) 8 cr)).heap[bb+1]?=some (.cells #[.slice (some ⟨gr,0,none⟩) 8 cr,.int .i64 0,.int .i64 0,.bool false,.bool false,.int .i64 0,.int .i64 0,.int .i64 0,.slice none 0 0,.slice none 0 0,.int .i64 0,.int .i64 0] 48 (0,0)):=zaf b0 _
   have z2:=z1.set b1 (by decide) HDB.out 1 (.int .i64 on.1.pc)
   have b2:((w2.setCell ⟨bb+1,0,none⟩ (.slice (some ⟨gr,0,none⟩) 8 cr)).setCell ⟨bb+1,1,none⟩ (.int .i64 on.1.pc)).heap[bb+1]?=some (.cells #[.slice (some ⟨gr,0,none⟩) 8 cr,.int .i64 on.1.pc,.int .i64 0,.bool false,.bool false,.int .i64 0,.int .i64 0,.int .i64 0,.slice none 0 0,.slice none 0 0,.int .i64 0,.int .i64 0] 48 (0,0)):=zaf b1 _
   have z3:=z2.set b2 (by decide) HDB.out 2 (.int .i64 on.1.back)
   have b3:(((w2.setCell ⟨bb+1,0,none⟩ (.slice (some ⟨gr,0,none⟩) 8 cr)).setCell ⟨bb+1,1,none⟩ (.int .i64 on.1.pc)).setCell ⟨bb+1,2,none⟩ (.int .i64 on.1.back)).heap[bb+1]?=some (.cells #[.slice (some ⟨gr,0,none⟩) 8 cr,.int .i64 on.1.pc,.int .i64 on.1.back,.bool false,.bool false,.int .i64 0,.int .i64 0,.int .i64 0,.slice none 0 0,.slice none 0 0,.int .i64 0,.int .i64 0] 48 (0,0)):=zaf b2 _
   have z4:=z3.set b3 (by decide) HDB.out 3 (.bool on.1.ints)
   have b4:((((w2.setCell ⟨bb+1,0,none⟩ (.slice (some ⟨gr,0,none⟩) 8 cr)).setCell ⟨bb+1,1,none⟩ (.int .i64 on.1.pc)).setCell ⟨bb+1,2,none⟩ (.int .i64 on.1.back)).setCell ⟨bb+1,3,none⟩ (.bool on.1.ints)).heap[bb+1]?=some (.cells #[.slice (some ⟨gr,0,none⟩) 8 cr,.int .i64 on.1.pc,.int .i64 on.1.back,.bool on.1.ints,.bool false,.int .i64 0,.int .i64 0,.int .i64 0,.slice none 0 0,.slice none 0 0,.int .i64 0,.int .i64 0] 48 (0,0)):=zaf b3 _
   have z5:=z4.set b4 (by decide) HDB.out 4 (.bool on.1.wait)
   have b5:(((((w2.setCell ⟨bb+1,0,none⟩ (.slice (some ⟨gr,0,none⟩) 8 cr)).setCell ⟨bb+1,1,none⟩ (.int .i64 on.1.pc)).setCell ⟨bb+1,2,none⟩ (.int .i64 on.1.back)).setCell ⟨bb+1,3,none⟩ (.bool on.1.ints)).setCell ⟨bb+1,4,none⟩ (.bool on.1.wait)).heap[bb+1]?=some (.cells #[.slice (some ⟨gr,0,none⟩) 8 cr,.int .i64 on.1.pc,.int .i64 on.1.back,.bool on.1.ints,.bool on.1.wait,.int .i64 0,.int .i64 0,.int .i64 0,.slice none 0 0,.slice none 0 0,.int .i64 0,.int .i64 0] 48 (0,0)):=zaf b4 _
   have z6:=z5.set b5 (by decide) HDB.out 5 (.int .i64 on.1.table)
   have b6:((((((w2.setCell ⟨bb+1,0,none⟩ (.slice (some ⟨gr,0,none⟩) 8 cr)).setCell ⟨bb+1,1,none⟩ (.int .i64 on.1.pc)).setCell ⟨bb+1,2,none⟩ (.int .i64 on.1.back)).setCell ⟨bb+1,3,none⟩ (.bool on.1.ints)).setCell ⟨bb+1,4,none⟩ (.bool on.1.wait)).setCell ⟨bb+1,5,none⟩ (.int .i64 on.1.table)).heap[bb+1]?=some (.cells #[.slice (some ⟨gr,0,none⟩) 8 cr,.int .i64 on.1.pc,.int .i64 on.1.back,.bool on.1.ints,.bool on.1.wait,.int .i64 on.1.table,.int .i64 0,.int .i64 0,.slice none 0 0,.slice none 0 0,.int .i64 0,.int .i64 0] 48 (0,0)):=zaf b5 _
   have z7:=z6.set b6 (by decide) HDB.out 6 (.int .i64 on.1.count)
   have b7:(((((((w2.setCell ⟨bb+1,0,none⟩ (.slice (some ⟨gr,0,none⟩) 8 cr)).setCell ⟨bb+1,1,none⟩ (.int .i64 on.1.pc)).setCell ⟨bb+1,2,none⟩ (.int .i64 on.1.back)).setCell ⟨bb+1,3,none⟩ (.bool on.1.ints)).setCell ⟨bb+1,4,none⟩ (.bool on.1.wait)).setCell ⟨bb+1,5,none⟩ (.int .i64 on.1.table)).setCell ⟨bb+1,6,none⟩ (.int .i64 on.1.count)).heap[bb+1]?=some (.cells #[.slice (some ⟨gr,0,none⟩) 8 cr,.int .i64 on.1.pc,.int .i64 on.1.back,.bool on.1.ints,.bool on.1.wait,.int .i64 on.1.table,.int .i64 on.1.count,.int .i64 0,.slice none 0 0,.slice none 0 0,.int .i64 0,.int .i64 0] 48 (0,0)):=zaf b6 _
   have z8:=z7.set b7 (by decide) HDB.out 7 (.int .i64 on.1.fin)
   have b8:((((((((w2.setCell ⟨bb+1,0,none⟩ (.slice (some ⟨gr,0,none⟩) 8 cr)).setCell ⟨bb+1,1,none⟩ (.int .i64 on.1.pc)).setCell ⟨bb+1,2,none⟩ (.int .i64 on.1.back)).setCell ⟨bb+1,3,none⟩ (.bool on.1.ints)).setCell ⟨bb+1,4,none⟩ (.bool on.1.wait)).setCell ⟨bb+1,5,none⟩ (.int .i64 on.1.table)).setCell ⟨bb+1,6,none⟩ (.int .i64 on.1.count)).setCell ⟨bb+1,7,none⟩ (.int .i64 on.1.fin)).heap[bb+1]?=some (.cells #[.slice (some ⟨gr,0,none⟩) 8 cr,.int .i64 on.1.pc,.int .i64 on.1.back,.bool on.1.ints,.bool on.1.wait,.int .i64 on.1.table,.int .i64 on.1.count,.int .i64 on.1.fin,.slice none 0 0,.slice none 0 0,.int .i64 0,.int .i64 0] 48 (0,0)):=zaf b7 _
   have z9:=z8.set b8 (by decide) HDB.out 8 (.slice (some ⟨mb,0,none⟩) 256 cm)
   have b9:(((((((((w2.setCell ⟨bb+1,0,none⟩ (.slice (some ⟨gr,0,none⟩) 8 cr)).setCell ⟨bb+1,1,none⟩ (.int .i64 on.1.pc)).setCell ⟨bb+1,2,none⟩ (.int .i64 on.1.back)).setCell ⟨bb+1,3,none⟩ (.bool on.1.ints)).setCell ⟨bb+1,4,none⟩ (.bool on.1.wait)).setCell ⟨bb+1,5,none⟩ (.int .i64 on.1.table)).setCell ⟨bb+1,6,none⟩ (.int .i64 on.1.count)).setCell ⟨bb+1,7,none⟩ (.int .i64 on.1.fin)).setCell ⟨bb+1,8,none⟩ (.slice (some ⟨mb,0,none⟩) 256 cm)).heap[bb+1]?=some (.cells #[.slice (some ⟨gr,0,none⟩) 8 cr,.int .i64 on.1.pc,.int .i64 on.1.back,.bool on.1.ints,.bool on.1.wait,.int .i64 on.1.table,.int .i64 on.1.count,.int .i64 on.1.fin,.slice (some ⟨mb,0,none⟩) 256 cm,.slice none 0 0,.int .i64 0,.int .i64 0] 48 (0,0)):=zaf b8 _
   have z10:=z9.set b9 (by decide) HDB.out 9 (.slice ao2 on.1.out.length co2)
   have b10:((((((((((w2.setCell ⟨bb+1,0,none⟩ (.slice (some ⟨gr,0,none⟩) 8 cr)).setCell ⟨bb+1,1,none⟩ (.int .i64 on.1.pc)).setCell ⟨bb+1,2,none⟩ (.int .i64 on.1.back)).setCell ⟨bb+1,3,none⟩ (.bool on.1.ints)).setCell ⟨bb+1,4,none⟩ (.bool on.1.wait)).setCell ⟨bb+1,5,none⟩ (.int .i64 on.1.table)).setCell ⟨bb+1,6,none⟩ (.int .i64 on.1.count)).setCell ⟨bb+1,7,none⟩ (.int .i64 on.1.fin)).setCell ⟨bb+1,8,none⟩ (.slice (some ⟨mb,0,none⟩) 256 cm)).setCell ⟨bb+1,9,none⟩ (.slice ao2 on.1.out.length co2)).heap[bb+1]?=some (.cells #[.slice (some ⟨gr,0,none⟩) 8 cr,.int .i64 on.1.pc,.int .i64 on.1.back,.bool on.1.ints,.bool on.1.wait,.int .i64 on.1.table,.int .i64 on.1.count,.int .i64 on.1.fin,.slice (some ⟨mb,0,none⟩) 256 cm,.slice ao2 on.1.out.length co2,.int .i64 0,.int .i64 0] 48 (0,0)):=zaf b9 _
   have z11:=z10.set b10 (by decide) HDB.out 10 (.int .i64 on.1.ready)
   have b11:(((((((((((w2.setCell ⟨bb+1,0,none⟩ (.slice (some ⟨gr,0,none⟩) 8 cr)).setCell ⟨bb+1,1,none⟩ (.int .i64 on.1.pc)).setCell ⟨bb+1,2,none⟩ (.int .i64 on.1.back)).setCell ⟨bb+1,3,none⟩ (.bool on.1.ints)).setCell ⟨bb+1,4,none⟩ (.bool on.1.wait)).setCell ⟨bb+1,5,none⟩ (.int .i64 on.1.table)).setCell ⟨bb+1,6,none⟩ (.int .i64 on.1.count)).setCell ⟨bb+1,7,none⟩ (.int .i64 on.1.fin)).setCell ⟨bb+1,8,none⟩ (.slice (some ⟨mb,0,none⟩) 256 cm)).setCell ⟨bb+1,9,none⟩ (.slice ao2 on.1.out.length co2)).setCell ⟨bb+1,10,none⟩ (.int .i64 on.1.ready)).heap[bb+1]?=some (.cells #[.slice (some ⟨gr,0,none⟩) 8 cr,.int .i64 on.1.pc,.int .i64 on.1.back,.bool on.1.ints,.bool on.1.wait,.int .i64 on.1.table,.int .i64 on.1.count,.int .i64 on.1.fin,.slice (some ⟨mb,0,none⟩) 256 cm,.slice ao2 on.1.out.length co2,.int .i64 on.1.ready,.int .i64 0] 48 (0,0)):=zaf b10 _
   have z12:=z11.set b11 (by decide) HDB.out 11 (.int .i64 on.1.want)
   have b12:((((((((((((w2.setCell ⟨bb+1,0,none⟩ (.slice (some ⟨gr,0,none⟩) 8 cr)).setCell ⟨bb+1,1,none⟩ (.int .i64 on.1.pc)).setCell ⟨bb+1,2,none⟩ (.int .i64 on.1.back)).setCell ⟨bb+1,3,none⟩ (.bool on.1.ints)).setCell ⟨bb+1,4,none⟩ (.bool on.1.wait)).setCell ⟨bb+1,5,none⟩ (.int .i64 on.1.table)).setCell ⟨bb+1,6,none⟩ (.int .i64 on.1.count)).setCell ⟨bb+1,7,none⟩ (.int .i64 on.1.fin)).setCell ⟨bb+1,8,none⟩ (.slice (some ⟨mb,0,none⟩) 256 cm)).setCell ⟨bb+1,9,none⟩ (.slice ao2 on.1.out.length co2)).setCell ⟨bb+1,10,none⟩ (.int .i64 on.1.ready)).setCell ⟨bb+1,11,none⟩ (.int .i64 on.1.want)).heap[bb+1]?=some (.cells #[.slice (some ⟨gr,0,none⟩) 8 cr,.int .i64 on.1.pc,.int .i64 on.1.back,.bool on.1.ints,.bool on.1.wait,.int .i64 on.1.table,.int .i64 on.1.count,.int .i64 on.1.fin,.slice (some ⟨mb,0,none⟩) 256 cm,.slice ao2 on.1.out.length co2,.int .i64 on.1.ready,.int .i64 on.1.want] 48 (0,0)):=zaf b11 _
   exact⟨ao2,co2,rfl,Lib.hid ⟨b12,z12⟩⟩
  case rest=>
   clear p0 p1 p2 p3 p4 p5 p6 p7 p8 p9 p10 p11
   obtain⟨ao2,co2,rfl,HFN⟩:=hcut
   have lrb:=(Array.getElem?_eq_some_iff.1 HFN.out.1).1
   skip
   have q0:=zaa HFN.out.1 0
   have q1:=zaa HFN.out.1 1
   have q2:=zaa HFN.out.1 2
   have q3:=zaa HFN.out.1 3
   have q4:=zaa HFN.out.1 4
   have q5:=zaa HFN.out.1 5
   have q6:=zaa HFN.out.1 6
   have q7:=zaa HFN.out.1 7
   have q8:=zaa HFN.out.1 8
   have q9:=zaa HFN.out.1 9
   have q10:=zaa HFN.out.1 10
   have q11:=zaa HFN.out.1 11
   go_wp2_with fail
   refine bodyPost_ret (v:=.tuple #[.agg #[.slice (some ⟨gr,0,none⟩) 8 cr,.int .i64 on.1.pc,.int .i64 on.1.back,.bool on.1.ints,.bool on.1.wait,.int .i64 on.1.table,.int .i64 on.1.count,.int .i64 on.1.fin,.slice (some ⟨mb,0,none⟩) 256 cm,.slice ao2 on.1.out.length co2,.int .i64 on.1.ready,.int .i64 on.1.want],.int .i64 on.2]) (by simp[results,Tryd.results27,go_sem,q0,q1,q2,q3,q4,q5,q6,q7,q8,q9,q10,q11]) rfl ?_
   exact⟨ao2,co2,rfl,HFN.out.2⟩
structure GCp(w0:World)(m:Mach)(vr vm vo:Value)(w:World):Prop where
 x:w.heap[w0.heap.size]?=some (.cells #[vr,.int .i64 m.pc,.int .i64 m.back,.bool m.ints,.bool m.wait,.int .i64 m.table,.int .i64 m.count,.int .i64 m.fin,vm,vo,.int .i64 m.ready,.int .i64 m.want] 48 (0,0))
 y:w.heap[w0.heap.size+1]?=some (.cells #[.slice none 0 0,.int .i64 0,.int .i64 0,.bool false,.bool false,.int .i64 0,.int .i64 0,.int .i64 0,.slice none 0 0,.slice none 0 0,.int .i64 0,.int .i64 0] 48 (0,0))
 b:Below w0.heap.size w0 w
theorem GCp.s0{w0 w w1:World}{m:Mach}{vr vm vo:Value}(h:GCp w0 m vr vm vo w)(hb:Below w.heap.size w w1)(u:Value):GCp w0 m u vm vo (w1.setCell ⟨w0.heap.size,0,none⟩ u):=by
 have lx:=(Array.getElem?_eq_some_iff.1 h.x).1
 have ly:=(Array.getElem?_eq_some_iff.1 h.y).1
 have x1:=zac hb h.x lx
 have y1:=zac hb h.y ly
 refine⟨by simpa using zaf (i:=0) x1 u,zah y1 (by omega) _,((h.b.trans (hb.mono h.b.size)).setCell (by simp) _)⟩
theorem GCp.s8{w0 w w1:World}{m:Mach}{vr vm vo:Value}(h:GCp w0 m vr vm vo w)(hb:Below w.heap.size w w1)(u:Value):GCp w0 m vr u vo (w1.setCell ⟨w0.heap.size,8,none⟩ u):=by
 have lx:=(Array.getElem?_eq_some_iff.1 h.x).1
 have ly:=(Array.getElem?_eq_some_iff.1 h.y).1
 have x1:=zac hb h.x lx
 have y1:=zac hb h.y ly
 refine⟨by simpa using zaf (i:=8) x1 u,zah y1 (by omega) _,((h.b.trans (hb.mono h.b.size)).setCell (by simp) _)⟩
theorem GCp.s9{w0 w w1:World}{m:Mach}{vr vm vo:Value}(h:GCp w0 m vr vm vo w)(hb:Below w.heap.size w w1)(u:Value):GCp w0 m vr vm u (w1.setCell ⟨w0.heap.size,9,none⟩ u):=by
 have lx:=(Array.getElem?_eq_some_iff.1 h.x).1
 have ly:=(Array.getElem?_eq_some_iff.1 h.y).1
 have x1:=zac hb h.x lx
 have y1:=zac hb h.y ly
 refine⟨by simpa using zaf (i:=9) x1 u,zah y1 (by omega) _,((h.b.trans (hb.mono h.b.size)).setCell (by simp) _)⟩
theorem GCp.own{w0 w w1:World}{m:Mach}{vr vm vo v:Value}{k n:Nat}{xs:List Value}{base:Nat}(h:GCp w0 m vr vm vo w)(hb:Below w.heap.size w w1)(ho:w1.ownsRow base 3 1 v n xs)(hbase:w0.heap.size≤base)(u:Value):(w1.setCell ⟨w0.heap.size,k,none⟩ u).ownsRow w0.heap.size 3 1 v n xs:=by
 have x1:=zac hb h.x (Array.getElem?_eq_some_iff.1 h.x).1
 exact zao (zar ho hbase) (zad ho x1 (by decide)) _
theorem zeu(m:Mach)(ar am ao:Option Addr)(cr cm co:Nat)(w:World)(hr:Ints w.heap.size w (.slice ar m.regs.length cr) m.regs)(hm:Ints w.heap.size w (.slice am m.mem.length cm) m.mem)(ho:Ints w.heap.size w (.slice ao m.out.length co) m.out):Calls Tryd.prog 15 #[.agg #[.slice ar m.regs.length cr,.int .i64 m.pc,.int .i64 m.back,.bool m.ints,.bool m.wait,.int .i64 m.table,.int .i64 m.count,.int .i64 m.fin,.slice am m.mem.length cm,.slice ao m.out.length co,.int .i64 m.ready,.int .i64 m.want]] w (zfo w m):=by
 have HR:=Lib.hid hr
 have HM:=Lib.hid hm
 have HO:=Lib.hid ho
 clear hr hm ho
 go_enter Tryd.func15,Tryd.ntmps15
 go_upto_region 1 with fail
 generalize hW:World.alloc (World.alloc w _) _=W2
 have HG:Hid (GCp w m (.slice ar m.regs.length cr) (.slice am m.mem.length cm) (.slice ao m.out.length co) W2):=Lib.hid (by rw[←hW];exact⟨(zaj (by simp)).trans (alloc_at rfl),alloc_at (by simp),below_alloc2 _ _ _⟩)
 clear hW
 have c0:W2.cell? ⟨w.heap.size,0,none⟩=some (.slice ar m.regs.length cr):=zaa HG.out.x 0
 have l0:=(Array.getElem?_eq_some_iff.1 HG.out.x).1
 go_cut [] from 3 (fun wx =>∃a1 c1,Hid (GCp w m (.slice a1 m.regs.length c1) (.slice am m.mem.length cm) (.slice ao m.out.length co) wx)∧Hid (wx.ownsRow w.heap.size 3 1 (.slice a1 m.regs.length c1) m.regs.length (m.regs.map (Value.int .i64))))
 case first=>
  go_wp2_with (go_at_call 28;refine(zbJ _ m.regs _ (HR.out.to HG.out.b.size (zae HG.out.b))).mono ?_;rintro e w1 ⟨a1,c1,rfl,hown1,hb1⟩;have x1:=zac hb1 HG.out.x l0;have k0:w1.cell? ⟨w.heap.size,0,none⟩=some (.slice ar m.regs.length cr):=zaa x1 0;have f0:=zab x1 0;have l1:=(Array.getElem?_eq_some_iff.1 x1).1;have HB1:=Lib.hid hb1;have HW1:=Lib.hid hown1;clear x1 hb1 hown1)
  go_meet
  case rel=>exact⟨a1,c1,Lib.hid (HG.out.s0 HB1.out _),Lib.hid (HG.out.own HB1.out HW1.out HG.out.b.size _)⟩
 case rest=>
 obtain⟨a1,c1,HG1,HO1⟩:=hcut
 clear c0 l0 HG
 have c8:wc.cell? ⟨w.heap.size,8,none⟩=some (.slice am m.mem.length cm):=zaa HG1.out.x 8
 have l0:=(Array.getElem?_eq_some_iff.1 HG1.out.x).1
 go_upto_region 2 with fail
 go_cut [] from 3 (fun wx =>∃a2 c2,Hid (GCp w m (.slice a1 m.regs.length c1) (.slice a2 m.mem.length c2) (.slice ao m.out.length co) wx)∧Hid (wx.ownsRow w.heap.size 3 1 (.slice a1 m.regs.length c1) m.regs.length (m.regs.map (Value.int .i64)))∧Hid (wx.ownsRow w.heap.size 3 1 (.slice a2 m.mem.length c2) m.mem.length (m.mem.map (Value.int .i64)))∧Hid (Apart (.slice a1 m.regs.length c1) (.slice a2 m.mem.length c2)∧Apart (.slice a2 m.mem.length c2) (.slice a1 m.regs.length c1)))
 case first=>
  go_wp2_with (go_at_call 28;refine(zbJ _ m.mem _ (HM.out.to HG1.out.b.size (zae HG1.out.b))).mono ?_;rintro e w1 ⟨a2,c2,rfl,hown1,hb1⟩;have x1:=zac hb1 HG1.out.x l0;have k0:w1.cell? ⟨w.heap.size,8,none⟩=some (.slice am m.mem.length cm):=zaa x1 8;have f0:=zab x1 8;have l1:=(Array.getElem?_eq_some_iff.1 x1).1;have HB1:=Lib.hid hb1;have HW1:=Lib.hid hown1;clear x1 hb1 hown1)
  go_meet
  case rel=>exact⟨a2,c2,Lib.hid (HG1.out.s8 HB1.out _),Lib.hid (HG1.out.own HB1.out (own_below HO1.out HB1.out (Nat.le_refl _)) (Nat.le_refl _) _),Lib.hid (HG1.out.own HB1.out HW1.out HG1.out.b.size _),Lib.hid (zaQ HO1.out HW1.out (Nat.le_refl _))⟩
 case rest=>
 obtain⟨a2,c2,HG2,HO12,HO22,HAP⟩:=hcut
 clear c8 l0 HG1 HO1
 have c9:wc.cell? ⟨w.heap.size,9,none⟩=some (.slice ao m.out.length co):=zaa HG2.out.x 9
 have l0:=(Array.getElem?_eq_some_iff.1 HG2.out.x).1
 go_upto_region 3 with fail
 go_cut [] from 3 (fun wx =>∃a3 c3,Hid (GCp w m (.slice a1 m.regs.length c1) (.slice a2 m.mem.length c2) (.slice a3 m.out.length c3) wx)∧Hid (MachOwn w.heap.size wx m (.slice a1 m.regs.length c1) (.slice a2 m.mem.length c2) (.slice a3 m.out.length c3)))
 case first=>
  go_wp2_with (go_at_call 28;refine(zbJ _ m.out _ (HO.out.to HG2.out.b.size (zae HG2.out.b))).mono ?_;rintro e w1 ⟨a3,c3,rfl,hown1,hb1⟩;have x1:=zac hb1 HG2.out.x l0;have k0:w1.cell? ⟨w.heap.size,9,none⟩=some (.slice ao m.out.length co):=zaa x1 9;have f0:=zab x1 9;have l1:=(Array.getElem?_eq_some_iff.1 x1).1;have HB1:=Lib.hid hb1;have HW1:=Lib.hid hown1;clear x1 hb1 hown1)
  go_meet
  case rel=>exact⟨a3,c3,Lib.hid (HG2.out.s9 HB1.out _),Lib.hid ⟨HG2.out.own HB1.out (own_below HO12.out HB1.out (Nat.le_refl _)) (Nat.le_refl _) _,HG2.out.own HB1.out (own_below HO22.out HB1.out (Nat.le_refl _)) (Nat.le_refl _) _,HG2.out.own HB1.out HW1.out HG2.out.b.size _,HAP.out.1,(zaQ HO12.out HW1.out (Nat.le_refl _)).1,(zaQ HO22.out HW1.out (Nat.le_refl _)).1,HAP.out.2,(zaQ HO12.out HW1.out (Nat.le_refl _)).2,(zaQ HO22.out HW1.out (Nat.le_refl _)).2⟩⟩
 case rest=>
 obtain⟨a3,c3,HG3,HOWN⟩:=hcut
 clear c9 l0 HG2 HO12 HO22 HAP
 first|(obtain⟨q0,q1,q2,q3,q4,q5,q6,q7,q8,q9,q10,q11⟩:=zaz HG3.out.x)|(obtain⟨q0,q1,q2,q3,q4,q5,q6,q7,q8,q9,q10,q11⟩:=zaA HG3.out.x)
 first|(obtain⟨r0,r1,r2,r3,r4,r5,r6,r7,r8,r9,r10,r11⟩:=zaz HG3.out.y)|(obtain⟨r0,r1,r2,r3,r4,r5,r6,r7,r8,r9,r10,r11⟩:=zaA HG3.out.y)
 have g0:=zab HG3.out.y 0
 have g1:=zab HG3.out.y 1
 have g2:=zab HG3.out.y 2
 have g3:=zab HG3.out.y 3
 have g4:=zab HG3.out.y 4
 have g5:=zab HG3.out.y 5
 have g6:=zab HG3.out.y 6
 have g7:=zab HG3.out.y 7
 have g8:=zab HG3.out.y 8
 have g9:=zab HG3.out.y 9
 have g10:=zab HG3.out.y 10
 have g11:=zab HG3.out.y 11
 have l0:=(Array.getElem?_eq_some_iff.1 HG3.out.x).1
 have l1:=(Array.getElem?_eq_some_iff.1 HG3.out.y).1
 go_wp2
 refine bodyPost_ret (v:=.agg #[.slice a1 m.regs.length c1,.int .i64 m.pc,.int .i64 m.back,.bool m.ints,.bool m.wait,.int .i64 m.table,.int .i64 m.count,.int .i64 m.fin,.slice a2 m.mem.length c2,.slice a3 m.out.length c3,.int .i64 m.ready,.int .i64 m.want]) (by simp[results,Tryd.results15,go_sem,r0,r1,r2,r3,r4,r5,r6,r7,r8,r9,r10,r11]) rfl ?_
 have hS:=SetInv.mk' HOWN.out HG3.out.y HG3.out.b
 have hS':=((((((((((((hS.step 0 (.slice a1 m.regs.length c1)).step 1 (.int .i64 m.pc)).step 2 (.int .i64 m.back)).step 3 (.bool m.ints)).step 4 (.bool m.wait)).step 5 (.int .i64 m.table)).step 6 (.int .i64 m.count)).step 7 (.int .i64 m.fin)).step 8 (.slice a2 m.mem.length c2)).step 9 (.slice a3 m.out.length c3)).step 10 (.int .i64 m.ready)).step 11 (.int .i64 m.want))
 exact⟨a1,c1,a2,c2,a3,c3,rfl,hS'.own,hS'.below⟩
end Go.Proofs.YtflonfcemlfbdaaDoor
