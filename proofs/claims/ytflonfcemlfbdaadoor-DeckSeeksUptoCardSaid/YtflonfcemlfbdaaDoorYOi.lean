/- Several texts joined, each with its own heading in the notes: The contracts of a core's do, of whatever instruction, and of Next. The contracts of a core's Enter, Comes and Exec. No condition beyond those of each row. -/
import Derived.Test.YtflonfcemlfbdaaDoorYOa
import Derived.Test.YtflonfcemlfbdaaDoorYOc
import Derived.Test.YtflonfcemlfbdaaDoorYOf
import Derived.Handy
namespace Go.Proofs.YtflonfcemlfbdaaDoor
open Go Go.RowKit Go.ChangeShapes Go.WideShapes Go.Deep
set_option maxHeartbeats 4000000
set_option maxRecDepth 100000
set_option linter.unusedVariables false
attribute [local go_sem ↓] Go.wp_at_zero Go.wp_at_succ
theorem zcT{op a b n:Int}(h:zbo op a b n=0)(ho:op=2∨op=3):0≤n∧n<8:=by
 have r:=zcQ h
 by_cases k:n<0∨8≤n
 ·
  have:=zg9 (op:=op) (a:=a) (b:=b) (n:=n) (by omega) (by omega) (Or.inl ⟨ho,k⟩)
  omega
 ·omega
theorem zkr{t fL fS:Nat}{v:Value}{St:World→(Nat→Prop)→List Int→Bool→Prop}(hM:MemI t fL fS v St){w0 w:World}{D:Nat→Prop}{cb gr cr:Nat}{vm:Value}{m:Mach}{x:Bool}{ao:Option Addr}{co:Nat}{F:Nat→Prop}(h:GSt St w0 D cb gr cr vm m (-1) x ao co F w)(hm:MOk m)(op a b n value:Int)(hc:zbo op a b n=0)(hv:WordZ value):Calls Tryd.prog 79 #[.pointer (some ⟨cb,0,none⟩),.iface t v,.agg #[.int .i64 op,.int .i64 a,.int .i64 b,.int .i64 n],.int .i64 value] w (DoPost St w0 D cb gr cr vm m x (doM m op a b n value)):=by
 obtain⟨h0,h1,a0,a1,b0,b1,n0,n1⟩:=zcQ hc
 have hs:=zcT hc
 obtain⟨a,rfl⟩:=Int.eq_ofNat_of_zero_le a0
 obtain⟨b,rfl⟩:=Int.eq_ofNat_of_zero_le b0
 have hop:op=0∨op=1∨op=2∨op=3∨op=4∨op=5∨op=6∨op=7∨op=8∨op=9∨op=10∨op=11∨op=12∨op=13∨op=14∨op=15:=by omega
 rcases hop with rfl|rfl|rfl|rfl|rfl|rfl|rfl|rfl|rfl|rfl|rfl|rfl|rfl|rfl|rfl|rfl
 ·exact do_0 hM h hm a b n value (by omega) (by omega) ⟨n0,n1⟩ hv
 ·exact do_1 hM h hm a b n value (by omega) (by omega) ⟨n0,n1⟩ hv
 ·exact do_2 hM h hm a b n value (by omega) (by omega) ⟨n0,n1⟩ (hs (by decide)) hv
 ·exact do_3 hM h hm a b n value (by omega) (by omega) ⟨n0,n1⟩ (hs (by decide)) hv
 ·exact do_4 hM h hm a b n value (by omega) (by omega) ⟨n0,n1⟩ hv
 ·exact do_5 hM h hm a b n value (by omega) (by omega) ⟨n0,n1⟩ hv
 ·exact do_6 hM h hm a b n value (by omega) (by omega) ⟨n0,n1⟩ hv
 ·exact do_7 hM h hm a b n value (by omega) (by omega) ⟨n0,n1⟩ hv
 ·exact do_8 hM h hm a b n value (by omega) (by omega) ⟨n0,n1⟩ hv
 ·exact do_9 hM h hm a b n value (by omega) (by omega) ⟨n0,n1⟩ hv
 ·exact zk5 hM h hm a b n value (by omega) (by omega) ⟨n0,n1⟩ hv
 ·exact zk6 hM h hm a b n value (by omega) (by omega) ⟨n0,n1⟩ hv
 ·exact zk2 hM h hm a b n value (by omega) (by omega) ⟨n0,n1⟩ hv
 ·exact zk3 hM h hm a b n value (by omega) (by omega) ⟨n0,n1⟩ hv
 ·exact zk4 hM h hm a b n value (by omega) (by omega) ⟨n0,n1⟩ hv
 ·exact zk1 hM h hm a b n value (by omega) (by omega) ⟨n0,n1⟩ hv
def zbS(z:Int×Int):Value:=if z.2=0 then decV z.1 else .agg #[.int .i64 0,.int .i64 0,.int .i64 0,.int .i64 0]
theorem zdf(m:Mach):zal m=if (zbr m.table m.mem m.pc).2≠0 then (0,(zbr m.table m.mem m.pc).2) else if decC (zbr m.table m.mem m.pc).1≠0 then (0,2) else ((zbr m.table m.mem m.pc).1,0):=by
 unfold zal zbr
 by_cases h:(zan m.table m.mem m.pc false).2=0
 ·
  rw[if_neg (fun k=>k h),if_pos h]
  rfl
 ·rw[if_pos h,if_neg h,if_pos h]
theorem zge{m:Mach}(h:MOk m)(at_:Int):WordZ (zbr m.table m.mem at_).1:=by
 unfold zbr
 by_cases k:(zan m.table m.mem at_ false).2=0
 ·rw[if_pos k];exact h.wmem _
 ·rw[if_neg k];show WordZ 0;unfold WordZ;omega
theorem ziD{t fL fS:Nat}{v:Value}{St:World→(Nat→Prop)→List Int→Bool→Prop}(hM:MemI t fL fS v St){w0 w:World}{D:Nat→Prop}{cb gr cr:Nat}{vm:Value}{m:Mach}{wrote:Int}{x:Bool}{ao:Option Addr}{co:Nat}{F:Nat→Prop}(h:GSt St w0 D cb gr cr vm m wrote x ao co F w)(hm:MOk m):Calls Tryd.prog 78 #[.pointer (some ⟨cb,0,none⟩),.iface t v] w fun e w'=>e=.returned (.tuple #[zbS (zal m),.int .i64 (zal m).2])∧Below w.heap.size w w':=by
 have HL:=Lib.hid (fun w' (hw:GSt St w0 D cb gr cr vm m wrote x ao co F w')=>zfE hM w' F m.mem x hw.mem cb m.table (zaa hw.box 5) hm.table m.pc)
 have HN:=Lib.hid (zdf m)
 have hw:=zge hm m.pc
 generalize zbr m.table m.mem m.pc=lz at *
 obtain⟨z,e⟩:=lz
 simp only at hw HN
 have HD:=Lib.hid (fun w=>zga z w hw.i64)
 have c1:w.cell? ⟨cb,1,none⟩=some (.int .i64 m.pc):=zaa h.box 1
 have lc:=h.clt
 have HH:=Lib.hid h
 have HM:=Lib.hid hM
 generalize zal m=nz at *
 clear hM h hm hw
 by_cases he:e=0
 ·
  subst he
  by_cases hc:decC z=0
  ·
   have HE:Hid (nz=(z,0)):=Lib.hid (by rw[HN.out,if_neg (by simp),if_neg (by simpa using hc)])
   have HV:Hid (decV z=.agg #[.int .i64 (zaM z),.int .i64 (decA z),.int .i64 (decB z),.int .i64 (decN z)]):=Lib.hid (by unfold decV;rw[if_pos hc])
   rw[hc,HV.out] at HD
   clear HN hc
   generalize zaM z=o1 at *
   generalize decA z=o2 at *
   generalize decB z=o3 at *
   generalize decN z=o4 at *
   go_enter Tryd.func78,Tryd.ntmps78
   go_wp2_with (first
    | (go_at_call 83;(with_reducible refine(HL.out _ ?_).mono ?_);exact HH.out.alloc HM.out _;rintro en w1 ⟨rfl,n1,rfl⟩)
    | (go_at_call 84;refine(HD.out _).mono ?_;rintro en w2 ⟨rfl,hb2⟩;have x0:=zac hb2 (alloc_at (w:=w) rfl) (by simp);have q0:w2.cell? ⟨w.heap.size,0,none⟩=some (.int .i64 0):=zaa x0 0;have q1:w2.cell? ⟨w.heap.size,1,none⟩=some (.int .i64 0):=zaa x0 1;have q2:w2.cell? ⟨w.heap.size,2,none⟩=some (.int .i64 0):=zaa x0 2;have q3:w2.cell? ⟨w.heap.size,3,none⟩=some (.int .i64 0):=zaa x0 3;have g0:=zab x0 0;have g1:=zab x0 1;have g2:=zab x0 2;have g3:=zab x0 3;have l2:w.heap.size<w2.heap.size:=(by have:=hb2.size;simp at this;omega);have HB2:=Lib.hid hb2;clear x0 hb2))
   refine bodyPost_ret (v:=.tuple #[.agg #[.int .i64 o1,.int .i64 o2,.int .i64 o3,.int .i64 o4],.int .i64 0]) (by simp[results,Tryd.results78,go_sem,q0,q1,q2,q3,l2]) rfl (And.intro ?_ ?_)
   ·rw[HE.out];simp only[zbS,if_true,HV.out]
   ·
    go_grown
    exact(below_drewN (zai w _) n1).trans (HB2.out.mono (by simp))
  ·
   have HE:Hid (nz=(0,2)):=Lib.hid (by rw[HN.out,if_neg (by simp),if_pos hc])
   have HV:Hid (decV z=.agg #[.int .i64 0,.int .i64 0,.int .i64 0,.int .i64 0]):=Lib.hid (by unfold decV;rw[if_neg hc])
   have hb1:(decC z != 0)=true:=by rw[bne_iff_ne];exact hc
   rw[HV.out] at HD
   clear HN hc HV
   generalize decC z=c at *
   go_enter Tryd.func78,Tryd.ntmps78
   go_wp2_with (first
    | (go_at_call 83;(with_reducible refine(HL.out _ ?_).mono ?_);exact HH.out.alloc HM.out _;rintro en w1 ⟨rfl,n1,rfl⟩)
    | (go_at_call 84;refine(HD.out _).mono ?_;rintro en w2 ⟨rfl,hb2⟩;have x0:=zac hb2 (alloc_at (w:=w) rfl) (by simp);have q0:w2.cell? ⟨w.heap.size,0,none⟩=some (.int .i64 0):=zaa x0 0;have q1:w2.cell? ⟨w.heap.size,1,none⟩=some (.int .i64 0):=zaa x0 1;have q2:w2.cell? ⟨w.heap.size,2,none⟩=some (.int .i64 0):=zaa x0 2;have q3:w2.cell? ⟨w.heap.size,3,none⟩=some (.int .i64 0):=zaa x0 3;have g0:=zab x0 0;have g1:=zab x0 1;have g2:=zab x0 2;have g3:=zab x0 3;have l2:w.heap.size<w2.heap.size:=(by have:=hb2.size;simp at this;omega);have HB2:=Lib.hid hb2;clear x0 hb2))
   refine bodyPost_ret (v:=.tuple #[.agg #[.int .i64 0,.int .i64 0,.int .i64 0,.int .i64 0],.int .i64 2]) (by simp[results,Tryd.results78,go_sem,q0,q1,q2,q3,l2]) rfl (And.intro ?_ ?_)
   ·rw[HE.out];rfl
   ·
    go_grown
    exact(below_drewN (zai w _) n1).trans (HB2.out.mono (by simp))
 ·
  have HE:Hid (nz=(0,e)):=Lib.hid (by rw[HN.out,if_pos he])
  have HV:Hid (zbS (0,e)=.agg #[.int .i64 0,.int .i64 0,.int .i64 0,.int .i64 0]):=Lib.hid (by unfold zbS;rw[if_neg he])
  have hb1:(e != 0)=true:=by rw[bne_iff_ne];exact he
  clear HN he
  go_enter Tryd.func78,Tryd.ntmps78
  go_wp2_with (first
   | (go_at_call 83;(with_reducible refine(HL.out _ ?_).mono ?_);exact HH.out.alloc HM.out _;rintro en w1 ⟨rfl,n1,rfl⟩)
   | (go_at_call 84;refine(HD.out _).mono ?_;rintro en w2 ⟨rfl,hb2⟩;have x0:=zac hb2 (alloc_at (w:=w) rfl) (by simp);have q0:w2.cell? ⟨w.heap.size,0,none⟩=some (.int .i64 0):=zaa x0 0;have q1:w2.cell? ⟨w.heap.size,1,none⟩=some (.int .i64 0):=zaa x0 1;have q2:w2.cell? ⟨w.heap.size,2,none⟩=some (.int .i64 0):=zaa x0 2;have q3:w2.cell? ⟨w.heap.size,3,none⟩=some (.int .i64 0):=zaa x0 3;have g0:=zab x0 0;have g1:=zab x0 1;have g2:=zab x0 2;have g3:=zab x0 3;have l2:w.heap.size<w2.heap.size:=(by have:=hb2.size;simp at this;omega);have HB2:=Lib.hid hb2;clear x0 hb2))
  refine bodyPost_ret (v:=.tuple #[.agg #[.int .i64 0,.int .i64 0,.int .i64 0,.int .i64 0],.int .i64 e]) (by simp[results,Tryd.results78,go_sem]) rfl (And.intro ?_ ?_)
  ·rw[HE.out];simp only[HV.out]
  ·
   go_grown
   exact below_drewN (zai w _) n1
theorem zhl{t fL fS:Nat}{v:Value}{St:World→(Nat→Prop)→List Int→Bool→Prop}(hM:MemI t fL fS v St){w0 w:World}{D:Nat→Prop}{cb gr cr:Nat}{vm:Value}{m:Mach}{wrote:Int}{x:Bool}{ao:Option Addr}{co:Nat}{F:Nat→Prop}(h:GSt St w0 D cb gr cr vm m wrote x ao co F w):Calls Tryd.prog 59 #[.pointer (some ⟨cb,0,none⟩)] w fun e w'=>e=.returned (.tuple #[])∧GS St w0 D cb gr cr vm (zax m) wrote x w':=by
 have c1:w.cell? ⟨cb,1,none⟩=some (.int .i64 m.pc):=zaa h.box 1
 have c2:w.cell? ⟨cb,2,none⟩=some (.int .i64 m.back):=zaa h.box 2
 have c3:w.cell? ⟨cb,3,none⟩=some (.bool m.ints):=zaa h.box 3
 have c4:w.cell? ⟨cb,4,none⟩=some (.bool m.wait):=zaa h.box 4
 have c7:w.cell? ⟨cb,7,none⟩=some (.int .i64 m.fin):=zaa h.box 7
 have f1:=zab h.box 1
 have f2:=zab h.box 2
 have f3:=zab h.box 3
 have f4:=zab h.box 4
 have HH:=Lib.hid h
 have HM:=Lib.hid hM
 clear hM h
 by_cases hc:m.wait=true∧m.ints=true∧m.fin=0
 ·
  rw[show zax m={m with wait:=false,ints:=false,back:=m.pc,pc:=8} by unfold zax;rw[if_pos hc]]
  rw[hc.1] at c4
  rw[hc.2.1] at c3
  rw[hc.2.2] at c7
  clear hc
  go_enter Tryd.func59,Tryd.ntmps59
  go_wp2
  first|go_end0|refine bodyPost_ret (results_none rfl _ _ _) rfl ?_
  have p1:=HH.out.put HM.out 4 (.bool false) {m with wait:=false} wrote rfl rfl rfl rfl
  have p2:=p1.put HM.out 3 (.bool false) {m with wait:=false,ints:=false} wrote rfl rfl rfl rfl
  have p3:=p2.put HM.out 2 (.int .i64 m.pc) {m with wait:=false,ints:=false,back:=m.pc} wrote rfl rfl rfl rfl
  have p4:=p3.put HM.out 1 (.int .i64 8) {m with wait:=false,ints:=false,back:=m.pc,pc:=8} wrote rfl rfl rfl rfl
  exact⟨rfl,p4.gs⟩
 ·
  rw[show zax m=m by unfold zax;rw[if_neg hc]]
  have HC:=Lib.hid hc
  clear hc
  cases h4:m.wait with
  | false=>
   rw[h4] at c4
   clear h4
   go_enter Tryd.func59,Tryd.ntmps59
   go_wp2
   first|go_end0|refine bodyPost_ret (results_none rfl _ _ _) rfl ?_
   exact⟨rfl,HH.out.gs⟩
  | true=>
   rw[h4] at c4
   cases h3:m.ints with
   | false=>
    rw[h3] at c3
    clear h3 h4
    go_enter Tryd.func59,Tryd.ntmps59
    go_wp2
    first|go_end0|refine bodyPost_ret (results_none rfl _ _ _) rfl ?_
    exact⟨rfl,HH.out.gs⟩
   | true=>
    rw[h3] at c3
    have h7:(m.fin == 0)=false:=by
     rw[beq_eq_false_iff_ne];intro h7;exact HC.out ⟨h4,h3,h7⟩
    clear h3 h4
    go_enter Tryd.func59,Tryd.ntmps59
    go_wp2
    first|go_end0|refine bodyPost_ret (results_none rfl _ _ _) rfl ?_
    exact⟨rfl,HH.out.gs⟩
def zd7(St:World→(Nat→Prop)→List Int→Bool→Prop)(w0:World)(D:Nat→Prop)(cb gr cr:Nat)(vm:Value)(m:Mach)(wrote:Int)(x:Bool)(r:Mach)(e:Ending)(w':World):Prop:=
 ∃m' x',e=.returned (.tuple #[])∧GS St w0 D cb gr cr vm m' wrote x' w'∧MOk m'∧m'.count=m.count∧((x'=x∧m'=r)∨x'=true)
def Mach.laid(m:Mach)(b:List Int)(i:Nat):Mach:={m with mem:=blit m.mem (m.want*16).toNat (b.take i)}
theorem MOk.mem'{m:Mach}(h:MOk m){l:List Int}(hl:l.length=256)(hw:∀z∈l,WordZ z):MOk {m with mem:=l}:=
 ⟨h.regs,hl,h.out,h.wr,zbL hw,h.wo,h.pc,h.back,h.table,h.count,h.fin,h.ready,h.want⟩
theorem MOk.came{m:Mach}(h:MOk m):MOk {m with want:=-1,ready:=1,wait:=true}:=
 ⟨h.regs,h.mem,h.out,h.wr,h.wm,h.wo,h.pc,h.back,h.table,h.count,h.fin,by show (0:Int)≤1∧(1:Int)≤1;omega,by show (-1:Int)≤-1∧(-1:Int)<16;omega⟩
theorem zhm{m:Mach}{b:List Int}{i:Nat}(hi:i<b.length)(hb:(m.want*16).toNat+b.length≤m.mem.length)(h0:0≤m.want):(m.laid b i).mem.set (m.want*16+i).toNat b[i]=(m.laid b (i+1)).mem:=by
 have:=zd5 (mem:=m.mem) (k:=(m.want*16).toNat) hi hb
 show (blit m.mem (m.want*16).toNat (b.take i)).set (m.want*16+i).toNat b[i]=blit m.mem (m.want*16).toNat (b.take (i+1))
 rw[←this,show (m.want*16+(i:Int)).toNat=(m.want*16).toNat+i by omega]
theorem zhn{t fL fS:Nat}{v:Value}{St:World→(Nat→Prop)→List Int→Bool→Prop}(hM:MemI t fL fS v St){w0 w:World}{D:Nat→Prop}{cb gr cr:Nat}{vm:Value}{m:Mach}{wrote:Int}{x:Bool}{ao:Option Addr}{co:Nat}{F:Nat→Prop}(h:GSt St w0 D cb gr cr vm m wrote x ao co F w)(hm:MOk m)(B:Nat)(vb:Value)(b:List Int)(hb:b.length=16)(hw:∀z∈b,WordZ z)(hi:∀w',OutF D w0 w'→Ints B w' vb b):Calls Tryd.prog 77 #[.pointer (some ⟨cb,0,none⟩),.iface t v,vb] w (zd7 St w0 D cb gr cr vm m wrote x (za8 m b)):=by
 have c11:w.cell? ⟨cb,11,none⟩=some (.int .i64 m.want):=zaa h.box 11
 have c7:w.cell? ⟨cb,7,none⟩=some (.int .i64 m.fin):=zaa h.box 7
 have HOK:=Lib.hid (hm.comes hb hw)
 have hmem:=hm.mem
 have hwant:=hm.want
 have HMO:=Lib.hid hm
 have HH:=Lib.hid h
 have HM:=Lib.hid hM
 have nS:=hM.nS
 have mS:=hM.mS
 have eS:=hM.eS
 clear hM h
 by_cases hc:m.want<0∨m.fin≠0
 ·
  rw[show za8 m b=m by unfold za8;rw[if_pos hc]]
  by_cases h1:m.want<0
  ·
   go_enter Tryd.func77,Tryd.ntmps77
   go_wp2
   first|go_end0|refine bodyPost_ret (results_none rfl _ _ _) rfl ?_
   exact⟨m,x,rfl,HH.out.gs,HMO.out,rfl,Or.inl ⟨rfl,rfl⟩⟩
  ·
   have h7:(m.fin != 0)=true:=by rw[bne_iff_ne];exact hc.resolve_left h1
   have h1':¬m.want<0:=h1
   clear hc
   go_enter Tryd.func77,Tryd.ntmps77
   go_wp2
   first|go_end0|refine bodyPost_ret (results_none rfl _ _ _) rfl ?_
   exact⟨m,x,rfl,HH.out.gs,HMO.out,rfl,Or.inl ⟨rfl,rfl⟩⟩
 ·
  have h1:¬m.want<0:=fun k=>hc (Or.inl k)
  have h7:(m.fin != 0)=false:=by
   cases h:(m.fin != 0) with
   | false=>rfl
   | true=>exact absurd (Or.inr (bne_iff_ne.1 h)) hc
  have HC:Hid (za8 m b={m.laid b 16 with want:=-1,ready:=1,wait:=true}):=Lib.hid (by
   unfold za8 Mach.laid
   rw[if_neg hc,List.take_of_length_le (by omega)])
  have w1:IntKind.i64.wrap (m.want*16)=m.want*16:=IntWalk.i64_in _ (by omega)
  have hI0:=hi w HH.out.old
  obtain⟨ba,bc,rfl,bl,bcap,-⟩:=hI0
  have HI:=Lib.hid hi
  have HB:=Lib.hid hb
  have HW:=Lib.hid hw
  have hbl:(b.length:Int)=16:=by omega
  clear hc hi c7 c11 hw
  have wz:∀i:Nat,i<16→IntKind.i64.wrap (m.want*16+(i:Int))=m.want*16+i:=fun i hi=>IntWalk.i64_in _ (by omega)
  have WZ:=Lib.hid wz
  have c11:w.cell? ⟨cb,11,none⟩=some (.int .i64 m.want):=zaa HH.out.box 11
  have c7:w.cell? ⟨cb,7,none⟩=some (.int .i64 m.fin):=zaa HH.out.box 7
  clear wz
  go_enter Tryd.func77,Tryd.ntmps77
  go_upto_block 1 with fail
  go_wp2_with fail
  go_loopg [6,7,24] 16 (fun gg _ _ s24 wr =>∃i:Nat,i≤16∧16-i≤gg∧s24=.int .i64 i∧∃m' x',MOk m'∧m'.count=m.count∧m'.want=m.want∧Hid ((x'=x∧m'=m.laid b i)∨x'=true)∧Hid (GS St w0 D cb gr cr vm m' wrote x' wr))
  case atStart=>exact⟨0,by omega,by omega,rfl,m,x,HMO.out,rfl,rfl,Lib.hid (Or.inl ⟨rfl,by unfold Mach.laid;rw[List.take_zero,zfB]⟩),Lib.hid HH.out.gs⟩
  case round=>
   obtain⟨i,hi,hg,rfl,m',x',hmo,hct,hwt,HQ,HG⟩:=hrel
   obtain⟨ao',co',F',hg'⟩:=HG.out
   have HMO':=Lib.hid hmo
   have HCT:=Lib.hid hct
   have HWT:=Lib.hid hwt
   have HG':=Lib.hid hg'
   clear HG c11 c7
   have c11:wr.cell? ⟨cb,11,none⟩=some (.int .i64 m.want):=by rw[←hwt];exact zaa hg'.box 11
   by_cases hlt:i<16
   ·
    have hib:i<b.length:=by omega
    obtain⟨a2,c2,hv,-,-,hcell⟩:=HI.out wr hg'.old
    injection hv with e1 e2 e3
    subst e1 e3
    obtain⟨bb,off,vi,ha,hb2,hcl,hvi,hz⟩:=hcell i hib
    subst ha hvi
    have hW:=HW.out b[i] (List.getElem_mem hib)
    have HN:=Lib.hid (zhm (m:=m) hib (by have:=HB.out;omega) (by omega))
    have wzi:=WZ.out i hlt
    have hlen:=hmo.mem
    clear hcell hct hwt hmo
    generalize b[i]=z at *
    have HS:=Lib.hid (fun w' (h:∃n,w'=wr.drewN n)=>HM.out.store w' F' m'.mem x' (m.want*16+i) z (by obtain⟨n,rfl⟩:=h;exact(HG'.out.drewN HM.out n).mem) (by omega) (by omega) hW)
    clear hg'
    go_wp2_with fail
    go_region_with ((with_reducible refine(HS.out _ ?_).mono ?_);exact⟨1,rfl⟩;rintro e w2 ⟨ho,F2,hF,hor⟩;have HOR:=Lib.hid (And.intro ho (And.intro hF hor));obtain⟨b',rfl⟩:∃b',e=.returned (.bool b'):=(by rcases hor with⟨h,-⟩|⟨h,-⟩<;>exact⟨_,h⟩);clear ho hF hor)
    all_goals (
     have HT:Hid (∃m2 x2,MOk m2∧m2.count=m.count∧m2.want=m.want∧Hid ((x2=x∧m2=m.laid b (i+1))∨x2=true)∧Hid (GS St w0 D cb gr cr vm m2 wrote x2 (w2.drewN 0))):=Lib.hid (by
      obtain⟨ho,hF,hor⟩:=HOR.out
      rcases hor with⟨-,hs⟩|⟨-,hs⟩
      ·
       have q:=(HG'.out.drew HM.out).stored ho hF hs
       refine⟨_,x',HMO'.out.mem' (by rw[List.length_set];exact hlen) (zeS (zaE HMO'.out.wm) hW _),HCT.out,HWT.out,Lib.hid ?_,Lib.hid (q.drewN HM.out 0).gs⟩
       rcases HQ.out with⟨e1,e2⟩|e1
       ·
        left
        refine⟨e1,?_⟩
        subst e2
        rw[HN.out]
        rfl
       ·exact Or.inr e1
      ·
       have q:=(HG'.out.drew HM.out).stored ho hF hs
       exact⟨_,true,HMO'.out,HCT.out,HWT.out,Lib.hid (Or.inr rfl),Lib.hid (q.drewN HM.out 0).gs⟩)
     clear HOR HS
     go_wp2_with fail
     go_roundg (16-(i+1))
     case measure=>omega
     case rel=>
      obtain⟨m2,x2,h1,h2,h3,h4,h5⟩:=HT.out
      exact⟨i+1,by omega,by omega,by go_num,m2,x2,h1,h2,h3,h4,Lib.hid (by obtain⟨ao2,co2,F2,h6⟩:=h5.out;first|exact h6.gs|exact(h6.drewN HM.out _).gs)⟩)
   ·
    have hi16:i=16:=by omega
    subst hi16
    have c10:wr.cell? ⟨cb,10,none⟩=some (.int .i64 m'.ready):=zaa hg'.box 10
    have c4:wr.cell? ⟨cb,4,none⟩=some (.bool m'.wait):=zaa hg'.box 4
    have f11:=zab hg'.box 11
    have f10:=zab hg'.box 10
    have f4:=zab hg'.box 4
    clear hg' hmo hct hwt
    go_wp2_with fail
    first|go_end0|refine bodyPost_ret (results_none rfl _ _ _) rfl ?_
    have p1:=HG'.out.put HM.out 11 (.int .i64 (-1)) {m' with want:=-1} wrote rfl rfl rfl rfl
    have p2:=p1.put HM.out 10 (.int .i64 1) {m' with want:=-1,ready:=1} wrote rfl rfl rfl rfl
    have p3:=p2.put HM.out 4 (.bool true) {m' with want:=-1,ready:=1,wait:=true} wrote rfl rfl rfl rfl
    refine⟨_,x',rfl,p3.gs,HMO'.out.came,HCT.out,?_⟩
    rcases HQ.out with⟨e1,e2⟩|e1
    ·
     left
     refine⟨e1,?_⟩
     rw[HC.out,e2]
    ·exact Or.inr e1
def ziE(St:World→(Nat→Prop)→List Int→Bool→Prop)(w0:World)(D:Nat→Prop)(cb gr cr:Nat)(vm:Value)(m:Mach)(x:Bool)(r:Mach×Int)(e:Ending)(w':World):Prop:=
 ∃m' wr' x',e=.returned (.tuple #[])∧GS St w0 D cb gr cr vm m' wr' x' w'∧MOk m'∧m.count≤m'.count∧m'.count≤m.count+1∧((x'=x∧m'=r.1∧wr'=r.2)∨x'=true)
theorem ziF{t fL fS:Nat}{v:Value}{St:World→(Nat→Prop)→List Int→Bool→Prop}(hM:MemI t fL fS v St){w0 w:World}{D:Nat→Prop}{cb gr cr:Nat}{vm:Value}{m:Mach}{wrote:Int}{x:Bool}{ao:Option Addr}{co:Nat}{F:Nat→Prop}(h:GSt St w0 D cb gr cr vm m wrote x ao co F w)(hm:MOk m)(hc:m.count<1099511627776)(value:Int)(hv:WordZ value):Calls Tryd.prog 60 #[.pointer (some ⟨cb,0,none⟩),.iface t v,.int .i64 value] w (ziE St w0 D cb gr cr vm m x (za3 m value)):=by
 have c12:w.cell? ⟨cb,12,none⟩=some (.int .i64 wrote):=zaa h.box 12
 have c7:w.cell? ⟨cb,7,none⟩=some (.int .i64 m.fin):=zaa h.box 7
 have f12:=zab h.box 12
 have lc:=h.clt
 have HMO:=Lib.hid hm
 have HM:=Lib.hid hM
 have HC:=Lib.hid hc
 have H1:=Lib.hid (h.put hM 12 (.int .i64 (-1)) m (-1) rfl rfl rfl rfl)
 clear h hm hM hc
 by_cases hf:m.fin=0
 ·
  rw[hf] at c7
  have HF:=Lib.hid hf
  clear hf
  have HNX:=Lib.hid (ziD HM.out H1.out HMO.out)
  by_cases hn:(zal m).2=0
  ·
   have hdc:decC (zal m).1=0:=by
    have:=zdf m
    by_cases k1:(zbr m.table m.mem m.pc).2≠0
    ·
     rw[if_pos k1] at this
     rw[this] at hn
     exact absurd hn k1
    ·
     by_cases k2:decC (zbr m.table m.mem m.pc).1≠0
     ·
      rw[if_neg k1,if_pos k2] at this
      rw[this] at hn
      exact absurd hn (by decide)
     ·
      rw[if_neg k1,if_neg k2] at this
      rw[this]
      exact Classical.not_not.1 k2
   have HE:=Lib.hid (show za3 m value=({(doM m (zaM (zal m).1) (decA (zal m).1) (decB (zal m).1) (decN (zal m).1) value).1 with count:=m.count+1,fin:=(doM m (zaM (zal m).1) (decA (zal m).1) (decB (zal m).1) (decN (zal m).1) value).2.1},(doM m (zaM (zal m).1) (decA (zal m).1) (decB (zal m).1) (decN (zal m).1) value).2.2) by unfold za3;rw[if_neg (fun k=>k HF.out),if_neg (fun k=>k hn)])
   have HV:zbS (zal m)=.agg #[.int .i64 (zaM (zal m).1),.int .i64 (decA (zal m).1),.int .i64 (decB (zal m).1),.int .i64 (decN (zal m).1)]:=by unfold zbS decV;rw[if_pos hn,if_pos hdc]
   rw[HV,hn] at HNX
   have HD:=Lib.hid (fun (w':World) (hw:GS St w0 D cb gr cr vm m (-1) x w')=>(by obtain⟨ao',co',F',hw⟩:=hw;exact zkr HM.out hw HMO.out (zaM (zal m).1) (decA (zal m).1) (decB (zal m).1) (decN (zal m).1) value hdc hv:Calls Tryd.prog 79 #[.pointer (some ⟨cb,0,none⟩),.iface t v,.agg #[.int .i64 (zaM (zal m).1),.int .i64 (decA (zal m).1),.int .i64 (decB (zal m).1),.int .i64 (decN (zal m).1)],.int .i64 value] w' (DoPost St w0 D cb gr cr vm m x (doM m (zaM (zal m).1) (decA (zal m).1) (decB (zal m).1) (decN (zal m).1) value))))
   clear HV hn hdc
   have hcn:=HMO.out.count
   have hcw:IntKind.i64.wrap (m.count+1)=m.count+1:=IntWalk.i64_in _ (by have:=HC.out;omega)
   generalize za3 m value=er at *
   generalize doM m (zaM (zal m).1) (decA (zal m).1) (decB (zal m).1) (decN (zal m).1) value=dr at *
   generalize zaM (zal m).1=o1 at *
   generalize decA (zal m).1=o2 at *
   generalize decB (zal m).1=o3 at *
   generalize decN (zal m).1=o4 at *
   go_enter Tryd.func60,Tryd.ntmps60
   go_wp2_with (first
    | (go_at_call 78;refine HNX.out.mono ?_;rintro en w1 ⟨rfl,hb1⟩;have H2:=Lib.hid (H1.out.below HM.out hb1);clear hb1)
    | (go_at_call 79;(with_reducible refine(HD.out _ ?_).mono ?_);exact(H2.out.alloc HM.out _).gs;rintro en w2 ⟨e2,m2,wr2,x2,rfl,hg2,hm2,h02,h42,hc2,hor⟩;obtain⟨ao2,co2,F2,hg2⟩:=hg2;have H3:=Lib.hid hg2;have HM2:=Lib.hid hm2;have HOR:=Lib.hid hor;have HC2:=Lib.hid hc2;have c6:w2.cell? ⟨cb,6,none⟩=some (.int .i64 m.count):=(by rw[←hc2];exact zaa hg2.box 6);have c72:w2.cell? ⟨cb,7,none⟩=some (.int .i64 m2.fin):=zaa hg2.box 7;have f6:=zab hg2.box 6;have f7:=zab hg2.box 7;clear hg2 hm2 hc2 hor))
   first|go_end0|refine bodyPost_ret (results_none rfl _ _ _) rfl ?_
   have p1:=H3.out.put HM.out 6 (.int .i64 (m.count+1)) {m2 with count:=m.count+1} wr2 rfl rfl rfl rfl
   have p2:=p1.put HM.out 7 (.int .i64 e2) {m2 with count:=m.count+1,fin:=e2} wr2 rfl rfl rfl rfl
   refine⟨_,wr2,x2,rfl,p2.gs,?_,by show m.count≤m.count+1;omega,by show m.count+1≤m.count+1;omega,?_⟩
   ·
    have q:=HM2.out.tick (by rw[HC2.out];exact HC.out) h02 h42
    rw[HC2.out] at q
    exact q
   ·
    rcases HOR.out with⟨k1,k2,k3,k4⟩|k1
    ·
     left
     rw[HE.out]
     exact⟨k1,by rw[k2,k3],k4⟩
    ·exact Or.inr k1
  ·
   have HE:=Lib.hid (show za3 m value=({m with count:=m.count+1,fin:=(zal m).2},-1) by unfold za3;rw[if_neg (fun k=>k HF.out),if_pos hn])
   have HV:zbS (zal m)=.agg #[.int .i64 0,.int .i64 0,.int .i64 0,.int .i64 0]:=by unfold zbS;rw[if_neg hn]
   have HB:=Lib.hid (zfC m)
   rw[HV] at HNX
   have hnb:((zal m).2 == 0)=false:=by rw[beq_eq_false_iff_ne];exact hn
   generalize za3 m value=er at *
   generalize (zal m).2=e2 at *
   clear HV hn
   have hcn:=HMO.out.count
   have hcw:IntKind.i64.wrap (m.count+1)=m.count+1:=IntWalk.i64_in _ (by have:=HC.out;omega)
   go_enter Tryd.func60,Tryd.ntmps60
   go_wp2_with (go_at_call 78;refine HNX.out.mono ?_;rintro en w1 ⟨rfl,hb1⟩;have hg1:=H1.out.below HM.out hb1;have H2:=Lib.hid hg1;have c6:w1.cell? ⟨cb,6,none⟩=some (.int .i64 m.count):=zaa hg1.box 6;have c72:w1.cell? ⟨cb,7,none⟩=some (.int .i64 m.fin):=zaa hg1.box 7;have f6:=zab hg1.box 6;have f7:=zab hg1.box 7;have lc2:=hg1.clt;clear hb1 hg1)
   first|go_end0|refine bodyPost_ret (results_none rfl _ _ _) rfl ?_
   have p1:=H2.out.put HM.out 6 (.int .i64 (m.count+1)) {m with count:=m.count+1} (-1) rfl rfl rfl rfl
   have p2:=p1.put HM.out 7 (.int .i64 e2) {m with count:=m.count+1,fin:=e2} (-1) rfl rfl rfl rfl
   exact⟨_,-1,x,rfl,(p2.alloc HM.out _).gs,HMO.out.tick HC.out HB.out.1 HB.out.2,by show m.count≤m.count+1;omega,by show m.count+1≤m.count+1;omega,Or.inl ⟨rfl,by rw[HE.out],by rw[HE.out]⟩⟩
 ·
  have HE:=Lib.hid (show za3 m value=(m,-1) by unfold za3;rw[if_pos hf])
  have hfb:(m.fin != 0)=true:=by rw[bne_iff_ne];exact hf
  generalize za3 m value=er at *
  clear hf
  go_enter Tryd.func60,Tryd.ntmps60
  go_wp2_with fail
  first|go_end0|refine bodyPost_ret (results_none rfl _ _ _) rfl ?_
  exact⟨m,-1,x,rfl,H1.out.gs,HMO.out,by omega,by omega,Or.inl ⟨rfl,by rw[HE.out],by rw[HE.out]⟩⟩
end Go.Proofs.YtflonfcemlfbdaaDoor
