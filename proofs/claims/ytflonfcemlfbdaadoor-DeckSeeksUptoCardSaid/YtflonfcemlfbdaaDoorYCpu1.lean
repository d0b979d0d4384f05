/- Several texts joined, each with its own heading in the notes: Contracts of cpu. Contracts of the reference's InstrFault, WordOf, InstrOf, and of cpu. A step of a guest, in plain Lean: what cpu. What a call leaves as it was, but for some blocks; a guest's core in memory. A guest's core and its memory in a world: what each change leaves. The contract of a core's do, what it leaves. The contracts of a core's place, load and store, over any memory. The document's floor and InstrOf. No condition beyond those of each row. -/
import Derived.Test.YtflonfcemlfbdaaDoorYMem
import Derived.Test.YtflonfcemlfbdaaDoorYCm
import Derived.Deep.AppendLies
import Derived.Deep.RegionWith
import Derived.Deep.RegionLaw
import Derived.Deep.CutBlock
import Derived.Deep.RegionHeld3
namespace Go.Proofs.YtflonfcemlfbdaaDoor
open Go Go.RowKit Go.ChangeShapes Go.WideShapes Go.Deep
set_option maxHeartbeats 4000000
set_option linter.unusedVariables false
def zaH(n:Int):Int:=(n+1099511627776)%2199023255553-1099511627776
theorem zix{n:Int}(h1:-1099511627776≤n)(h2:n≤1099511627776):zaH n=n:=by unfold zaH;omega
theorem zg7(n:Int):zaH (n-2199023255553)=zaH n:=by unfold zaH;omega
theorem zg8(n:Int):zaH (n+2199023255553)=zaH n:=by unfold zaH;omega
theorem zfx(n:Int):-1099511627776≤zaH n∧zaH n≤1099511627776:=by unfold zaH;omega
theorem zb3{a b:Int}(h:0≤a):a.tmod b=a%b:=Int.tmod_eq_emod_of_nonneg h
theorem zfy{a:Int}(h:a<0):a.tmod 2199023255553 = - ((-a)%2199023255553):=by
 have:a.tmod 2199023255553 = -((-a).tmod 2199023255553):=by rw[Int.neg_tmod,Int.neg_neg]
 rw[this,zb3 (by omega)]
theorem ziy{n:Int}(h1:-4398046511104≤n)(h2:n≤4398046511104)(h:(n+1099511627776).tmod 2199023255553<0):wrap64 (wrap64 ((n+1099511627776).tmod 2199023255553+2199023255553)-1099511627776)=zaH n:=by
 by_cases hp:0≤n+1099511627776
 ·
  rw[zb3 hp] at h
  omega
 ·
  rw[zfy (by omega)] at h ⊢
  unfold zaH wrap64
  omega
theorem ziz{n:Int}(h1:-4398046511104≤n)(h2:n≤4398046511104)(h:0≤(n+1099511627776).tmod 2199023255553):wrap64 ((n+1099511627776).tmod 2199023255553-1099511627776)=zaH n:=by
 by_cases hp:0≤n+1099511627776
 ·
  rw[zb3 hp] at h ⊢
  unfold zaH wrap64
  omega
 ·
  rw[zfy (by omega)] at h ⊢
  unfold zaH wrap64
  omega
theorem zav(n:Int)(w:World)(h1:-4398046511104≤n)(h2:n≤4398046511104):Calls Tryd.prog 85 #[.int .i64 n] w fun e w'=>e=.returned (.int .i64 (zaH n))∧w=w':=by
 go_enter Tryd.func85,Tryd.ntmps85
 go_wp2
 all_goals go_ret
 ·exact⟨zbd (ziy h1 h2 (by assumption)),rfl⟩
 ·exact⟨zbd (ziz h1 h2 (by assumption)),rfl⟩
theorem zbK(n:Int)(w:World)(h1:-4398046511104≤n)(h2:n≤4398046511104):Calls Tryd.prog 67 #[.int .i64 n] w fun e w'=>e=.returned (.int .i64 (zaH n))∧w=w':=by
 go_enter Tryd.func67,Tryd.ntmps67
 go_wp2
 go_loop [0] (fun v =>∃m:Int,v=.int .i64 m∧-4398046511104≤m∧m≤4398046511104∧Hid (zaH m=zaH n)) (fun v=>(intOf v+4398046511104).toNat)
 case atStart=>exact⟨n,rfl,h1,h2,Lib.hid rfl⟩
 case round=>
  obtain⟨m,rfl,hm1,hm2,hf⟩:=hrel
  by_cases hc:1099511627776<m
  ·
   go_wp2
   go_round
   case rel=>exact⟨m-2199023255553,by go_num,by omega,by omega,Lib.hid (by rw[zg7];exact hf.out)⟩
   case measure=>simp[intOf];omega
  ·
   go_wp2
   go_loop [0] (fun v =>∃m:Int,v=.int .i64 m∧-4398046511104≤m∧m≤1099511627776∧Hid (zaH m=zaH n)) (fun v=>(1099511627776-intOf v).toNat)
   case atStart=>exact⟨m,rfl,hm1,by omega,hf⟩
   case round=>
    obtain⟨q,rfl,hq1,hq2,hg⟩:=hrel
    by_cases hd:q < -1099511627776
    ·
     go_wp2
     go_round
     case rel=>exact⟨q+2199023255553,by go_num,by omega,by omega,Lib.hid (by rw[zg8];exact hg.out)⟩
     case measure=>simp[intOf];omega
    ·
     go_wp2
     go_ret
     exact⟨zbd (by rw[←hg.out,zix (by omega) (by omega)]),rfl⟩
def zbo(op a b n:Int):Int:=
 if op<0∨15<op then 3 else
 if a<0∨8≤a∨b<0∨8≤b∨n < -1048576∨1048576≤n then 2 else
 if (op=2∨op=3)∧(n<0∨8≤n)∨op=12∧(n<0∨1<n) then 4 else 0
theorem zjj{op a b n:Int}(h:op<0∨15<op):(3:Int)=zbo op a b n:=by unfold zbo;rw[if_pos h]
theorem zjk{op a b n:Int}(h:¬(op<0∨15<op))(h1:a<0∨8≤a∨b<0∨8≤b∨n < -1048576∨1048576≤n):(2:Int)=zbo op a b n:=by unfold zbo;rw[if_neg h,if_pos h1]
theorem zg9{op a b n:Int}(h:¬(op<0∨15<op))(h1:¬(a<0∨8≤a∨b<0∨8≤b∨n < -1048576∨1048576≤n))(h2:(op=2∨op=3)∧(n<0∨8≤n)∨op=12∧(n<0∨1<n)):(4:Int)=zbo op a b n:=by
 unfold zbo;rw[if_neg h,if_neg h1,if_pos h2]
theorem zjl{op a b n:Int}(h:¬(op<0∨15<op))(h1:¬(a<0∨8≤a∨b<0∨8≤b∨n < -1048576∨1048576≤n))(h2:¬((op=2∨op=3)∧(n<0∨8≤n)∨op=12∧(n<0∨1<n))):(0:Int)=zbo op a b n:=by
 unfold zbo;rw[if_neg h,if_neg h1,if_neg h2]
theorem zf8(op a b n:Int)(w:World):Calls Tryd.prog 91 #[.agg #[.int .i64 op,.int .i64 a,.int .i64 b,.int .i64 n]] w fun e w'=>e=.returned (.int .i64 (zbo op a b n))∧w.alloc (.cells #[.int .i64 op,.int .i64 a,.int .i64 b,.int .i64 n] 123)=w':=by
 go_enter Tryd.func91,Tryd.ntmps91
 go_wp2
 all_goals go_ret
 all_goals refine⟨zbd ?_,by first|rfl|simp[*]⟩
 all_goals first|(refine zjj ?_;omega;done)|(refine zjk ?_ ?_<;>omega;done)|(refine zg9 ?_ ?_ ?_<;>omega;done)|(refine zjl ?_ ?_ ?_<;>omega;done)
theorem zf9(op a b n:Int)(w:World):Calls Tryd.prog 89 #[.agg #[.int .i64 op,.int .i64 a,.int .i64 b,.int .i64 n]] w fun e w'=>e=.returned (.int .i64 (zbo op a b n))∧w.alloc (.cells #[.int .i64 op,.int .i64 a,.int .i64 b,.int .i64 n] 123)=w':=by
 go_enter Tryd.func89,Tryd.ntmps89
 go_wp2_with (go_at_call 13;refine(zjv _ _ _ _).mono ?_;rintro e w' (⟨rfl,rfl,hlo,hhi⟩|⟨rfl,rfl,hno⟩))
 all_goals go_ret
 all_goals refine⟨zbd ?_,by first|rfl|simp[*]⟩
 all_goals first|(refine zjj ?_;omega;done)|(refine zjk ?_ ?_<;>omega;done)|(refine zg9 ?_ ?_ ?_<;>omega;done)|(refine zjl ?_ ?_ ?_<;>omega;done)
theorem zcQ{op a b n:Int}(h:zbo op a b n=0):0≤op∧op≤15∧0≤a∧a≤7∧0≤b∧b≤7∧-1048576≤n∧n≤1048575:=by
 unfold zbo at h
 split at h
 ·omega
 ·split at h<;>omega
def zaM(z:Int):Int:=z%16
def decA(z:Int):Int:=z/16%8
def decB(z:Int):Int:=z/128%8
def decN(z:Int):Int:=z/1024
def decC(z:Int):Int:=zbo (zaM z) (decA z) (decB z) (decN z)
def decV(z:Int):Value:=if decC z=0 then .agg #[.int .i64 (zaM z),.int .i64 (decA z),.int .i64 (decB z),.int .i64 (decN z)] else .agg #[.int .i64 0,.int .i64 0,.int .i64 0,.int .i64 0]
theorem zga(z:Int)(w:World)(h:-9223372036854775808≤z∧z≤9223372036854775807):Calls Tryd.prog 84 #[.int .i64 z] w fun e w'=>e=.returned (.tuple #[decV z,.int .i64 (decC z)])∧Below w.heap.size w w':=by
 obtain⟨h1,h2⟩:=h
 have HC:=Lib.hid (zf8 (zaM z) (decA z) (decB z) (decN z))
 have e1:bits .and .i64 z 15=zaM z:=zgG z
 have e2:bits .and .i64 (z/16) 7=decA z:=zfm (z/16)
 have e3:bits .and .i64 (z/128) 7=decB z:=zfm (z/128)
 have e4:z/1024=decN z:=rfl
 by_cases hc:decC z=0
 ·
  have he:decV z=.agg #[.int .i64 (zaM z),.int .i64 (decA z),.int .i64 (decB z),.int .i64 (decN z)]:=by unfold decV;rw[if_pos hc]
  rw[show zbo (zaM z) (decA z) (decB z) (decN z)=0 from hc] at HC
  rw[hc,he]
  clear hc he
  go_enter Tryd.func84,Tryd.ntmps84
  go_wp2_with (go_at_call 91;refine(HC.out _).mono ?_;rintro e w' ⟨rfl,rfl⟩)
  refine bodyPost_ret (v:=.tuple #[.agg #[.int .i64 (zaM z),.int .i64 (decA z),.int .i64 (decB z),.int .i64 (decN z)],.int .i64 0]) (by simp[results,Tryd.results84,go_sem]) rfl ⟨rfl,?_⟩
  exact below_alloc3 _ _ _ _
 ·
  have he:decV z=.agg #[.int .i64 0,.int .i64 0,.int .i64 0,.int .i64 0]:=by unfold decV;rw[if_neg hc]
  rw[show zbo (zaM z) (decA z) (decB z) (decN z)=decC z from rfl] at HC
  rw[he]
  generalize decC z=c at *
  have hb:(c != 0)=true:=by rw[bne_iff_ne];exact hc
  have hb':(c == 0)=false:=by rw[beq_eq_false_iff_ne];exact hc
  clear he
  go_enter Tryd.func84,Tryd.ntmps84
  go_wp2_with (go_at_call 91;refine(HC.out _).mono ?_;rintro e w' ⟨rfl,rfl⟩)
  refine bodyPost_ret (v:=.tuple #[.agg #[.int .i64 0,.int .i64 0,.int .i64 0,.int .i64 0],.int .i64 c]) (by simp[results,Tryd.results84,go_sem]) rfl ⟨rfl,?_⟩
  exact below_alloc3 _ _ _ _
end Go.Proofs.YtflonfcemlfbdaaDoor
namespace Go.Proofs.YtflonfcemlfbdaaDoor
open Go Go.RowKit
set_option linter.unusedVariables false
def WordZ(z:Int):Prop:=-1099511627776≤z∧z≤1099511627776
theorem WordZ.i64{z:Int}(h:WordZ z):I64 z:=by unfold WordZ at h;unfold I64;omega
theorem zaE{zs:List Int}(h:zs.any oddB=false):∀z∈zs,WordZ z:=by
 intro z hz
 cases ho:oddB z with
 | false=>exact zjJ ho
 | true=>
  have:zs.any oddB=true:=List.any_eq_true.2 ⟨z,hz,ho⟩
  rw[h] at this;cases this
theorem zbL{zs:List Int}(h:∀z∈zs,WordZ z):zs.any oddB=false:=by
 cases e:zs.any oddB with
 | false=>rfl
 | true=>
  obtain⟨z,hz,ho⟩:=List.any_eq_true.1 e
  rw[zcG (h z hz)] at ho;cases ho
theorem zfz{zs:List Int}{P:Int→Prop}(h:∀z∈zs,P z)(h0:P 0)(k:Nat):P (zs.getD k 0):=by
 rw[List.getD_eq_getElem?_getD]
 cases e:zs[k]? with
 | none=>exact h0
 | some x=>exact h x (List.mem_of_getElem? e)
theorem zeS{zs:List Int}{P:Int→Prop}(h:∀z∈zs,P z){x:Int}(hx:P x)(k:Nat):∀z∈zs.set k x,P z:=by
 intro z hz
 rcases List.mem_or_eq_of_mem_set hz with hz|rfl
 ·exact h z hz
 ·exact hx
def zan(table:Int)(mem:List Int)(at_:Int)(write:Bool):Int×Int:=
 if at_<0∨256≤at_ then (0,3) else
 if table<0 then (at_,0) else
 if mem.getD (table*16+at_/16).toNat 0<32∨63<mem.getD (table*16+at_/16).toNat 0∨(write=true∧mem.getD (table*16+at_/16).toNat 0<48) then (0,4) else
 (mem.getD (table*16+at_/16).toNat 0%16*16+at_%16,0)
theorem zdd{table:Int}{mem:List Int}{at_:Int}{write:Bool}(h:at_<0∨256≤at_):zan table mem at_ write=(0,3):=by unfold zan;rw[if_pos h]
theorem zcR{table:Int}{mem:List Int}{at_:Int}{write:Bool}(h:¬(at_<0∨256≤at_))(ht:table<0):zan table mem at_ write=(at_,0):=by unfold zan;rw[if_neg h,if_pos ht]
theorem zde{table:Int}{mem:List Int}{at_:Int}{write:Bool}(h:¬(at_<0∨256≤at_))(ht:¬table<0)(hx:mem.getD (table*16+at_/16).toNat 0<32∨63<mem.getD (table*16+at_/16).toNat 0∨(write=true∧mem.getD (table*16+at_/16).toNat 0<48)):zan table mem at_ write=(0,4):=by
 unfold zan;rw[if_neg h,if_neg ht,if_pos hx]
theorem zcS{table:Int}{mem:List Int}{at_:Int}{write:Bool}(h:¬(at_<0∨256≤at_))(ht:¬table<0)(hx:¬(mem.getD (table*16+at_/16).toNat 0<32∨63<mem.getD (table*16+at_/16).toNat 0∨(write=true∧mem.getD (table*16+at_/16).toNat 0<48))):zan table mem at_ write=(mem.getD (table*16+at_/16).toNat 0%16*16+at_%16,0):=by
 unfold zan;rw[if_neg h,if_neg ht,if_neg hx]
theorem za2(table:Int)(mem:List Int)(at_:Int)(write:Bool):0≤(zan table mem at_ write).1∧(zan table mem at_ write).1<256∧((zan table mem at_ write).2=0∨(zan table mem at_ write).2=3∨(zan table mem at_ write).2=4):=by
 unfold zan
 generalize mem.getD (table*16+at_/16).toNat 0=x
 split
 ·simp
 ·
  split
  ·simp;omega
  ·
   split
   ·simp
   ·simp;omega
def Mach.reg(m:Mach)(a:Int):Int:=m.regs.getD a.toNat 0
def Mach.setReg(m:Mach)(a v:Int):Mach:={m with regs:=m.regs.set a.toNat v}
def Mach.goTo(m:Mach)(pc:Int):Mach:={m with pc:=zaH pc}
def doM(m:Mach)(op a b n value:Int):Mach×Int×Int:=
 if op=0 then (m,1,-1)
 else if op=1 then ((m.setReg a n).goTo (m.pc+1),0,-1)
 else if op=2 then ((m.setReg a (zaH (m.reg b+m.reg n))).goTo (m.pc+1),0,-1)
 else if op=3 then ((m.setReg a (zaH (m.reg b-m.reg n))).goTo (m.pc+1),0,-1)
 else if op=4 then ((m.setReg a (zaH (m.reg b+n))).goTo (m.pc+1),0,-1)
 else if op=5 then
  if (zan m.table m.mem (m.reg b+n) false).2=0 then ((m.setReg a (m.mem.getD (zan m.table m.mem (m.reg b+n) false).1.toNat 0)).goTo (m.pc+1),0,-1) else (m,(zan m.table m.mem (m.reg b+n) false).2,-1)
 else if op=6 then
  if (zan m.table m.mem (m.reg b+n) true).2=0 then ((({m with mem:=m.mem.set (zan m.table m.mem (m.reg b+n) true).1.toNat (m.reg a)}:Mach)).goTo (m.pc+1),0,(zan m.table m.mem (m.reg b+n) true).1) else (m,(zan m.table m.mem (m.reg b+n) true).2,-1)
 else if op=7 then (m.goTo (if m.reg a=0 then m.pc+n else m.pc+1),0,-1)
 else if op=8 then (m.goTo (if m.reg a<0 then m.pc+n else m.pc+1),0,-1)
 else if op=9 then (m.goTo (m.pc+n),0,-1)
 else if op=10 then
  if n=0∨n=1 then ((m.setReg a value).goTo (m.pc+1),0,-1)
  else if n=2 then ((m.setReg a m.ready).goTo (m.pc+1),0,-1)
  else (m,3,-1)
 else if op=11 then
  if n=3 then ((({m with out:=if m.out.length<200 then m.out++[m.reg a] else m.out}:Mach)).goTo (m.pc+1),0,-1)
  else if n=4∧0≤m.reg a∧m.reg a<16 then ((if m.want<0 then ({m with want:=m.reg a,ready:=0}:Mach) else m).goTo (m.pc+1),0,-1)
  else (m,3,-1)
 else if op=12 then ((({m with ints:=decide (n=1)}:Mach)).goTo (m.pc+1),0,-1)
 else if op=13 then ((({m with ints:=true}:Mach)).goTo m.back,0,-1)
 else if op=14 then
  if m.reg a < -1∨16≤m.reg a then (m,3,-1) else ((({m with table:=m.reg a}:Mach)).goTo (m.pc+1),0,-1)
 else (m.goTo (m.pc+1),0,-1)
def zal(m:Mach):Int×Int:=
 if (zan m.table m.mem m.pc false).2≠0 then (0,(zan m.table m.mem m.pc false).2)
 else if decC (m.mem.getD (zan m.table m.mem m.pc false).1.toNat 0)≠0 then (0,2)
 else (m.mem.getD (zan m.table m.mem m.pc false).1.toNat 0,0)
def za3(m:Mach)(value:Int):Mach×Int:=
 if m.fin≠0 then (m,-1)
 else if (zal m).2≠0 then ({m with count:=m.count+1,fin:=(zal m).2},-1)
 else ({(doM m (zaM (zal m).1) (decA (zal m).1) (decB (zal m).1) (decN (zal m).1) value).1 with count:=m.count+1,fin:=(doM m (zaM (zal m).1) (decA (zal m).1) (decB (zal m).1) (decN (zal m).1) value).2.1},(doM m (zaM (zal m).1) (decA (zal m).1) (decB (zal m).1) (decN (zal m).1) value).2.2)
def zax(m:Mach):Mach:=if m.wait=true∧m.ints=true∧m.fin=0 then {m with wait:=false,ints:=false,back:=m.pc,pc:=8} else m
def blit(mem:List Int)(k:Nat)(b:List Int):List Int:=mem.take k++b++mem.drop (k+b.length)
def za8(m:Mach)(b:List Int):Mach:=if m.want<0∨m.fin≠0 then m else {m with mem:=blit m.mem (m.want*16).toNat b,want:=-1,ready:=1,wait:=true}
def irqM(m:Mach)(irq:Bool):Mach:=if m.fin=0∧irq=true then {m with wait:=true} else m
def zat(m:Mach)(b:List Int):Mach:=if b.length=0 then m else za8 m b
def zbe(m:Mach)(irq:Bool)(b:List Int)(value:Int):Mach×Int:=za3 (zax (zat (irqM m irq) b)) value
theorem zfA{mem:List Int}{k:Nat}{b:List Int}(h:k+b.length≤mem.length):(blit mem k b).length=mem.length:=by
 unfold blit;simp;omega
theorem zha{mem:List Int}{k:Nat}{b:List Int}{P:Int→Prop}(h:∀z∈mem,P z)(hb:∀z∈b,P z):∀z∈blit mem k b,P z:=by
 intro z hz
 unfold blit at hz
 rcases List.mem_append.1 hz with hz|hz
 ·
  rcases List.mem_append.1 hz with hz|hz
  ·exact h z (List.mem_of_mem_take hz)
  ·exact hb z hz
 ·exact h z (List.mem_of_mem_drop hz)
theorem zfB(mem:List Int)(k:Nat):blit mem k []=mem:=by unfold blit;simp
theorem zdz{mem b:List Int}{k:Nat}(h:k≤mem.length)(j:Nat):(blit mem k b)[j]?=if j<k then mem[j]? else if j<k+b.length then b[j-k]? else mem[j]?:=by
 unfold blit
 have e:(mem.take k).length=k:=by rw[List.length_take];omega
 by_cases h1:j<k
 ·rw[if_pos h1,List.append_assoc,List.getElem?_append_left (by omega),List.getElem?_take,if_pos h1]
 ·
  rw[if_neg h1,List.append_assoc,List.getElem?_append_right (by omega),e]
  by_cases h2:j<k+b.length
  ·rw[if_pos h2,List.getElem?_append_left (by omega)]
  ·
   rw[if_neg h2,List.getElem?_append_right (by omega),List.getElem?_drop]
   congr 1;omega
theorem zd5{mem:List Int}{k i:Nat}{b:List Int}(hi:i<b.length)(h:k+b.length≤mem.length):(blit mem k (b.take i)).set (k+i) b[i]=blit mem k (b.take (i+1)):=by
 apply List.ext_getElem?
 intro j
 have l1:(b.take i).length=i:=by rw[List.length_take];omega
 have l2:(b.take (i+1)).length=i+1:=by rw[List.length_take];omega
 have h1:k+i<(blit mem k (b.take i)).length:=by rw[zfA (by omega)];omega
 rw[List.getElem?_set]
 by_cases hj:k+i=j
 ·
  subst hj
  rw[if_pos rfl,if_pos h1,zdz (by omega),if_neg (by omega),if_pos (by omega),List.getElem?_take,if_pos (by omega),show k+i-k=i by omega,List.getElem?_eq_getElem hi]
 ·
  rw[if_neg hj,zdz (by omega),zdz (by omega)]
  by_cases h2:j<k
  ·rw[if_pos h2,if_pos h2]
  ·
   rw[if_neg h2,if_neg h2]
   by_cases h3:j<k+i
   ·rw[if_pos (by omega),if_pos (by omega),List.getElem?_take,if_pos (by omega),List.getElem?_take,if_pos (by omega)]
   ·rw[if_neg (by omega),if_neg (by omega)]
/-! ### A guest that may be stays one -/
theorem zjL(n:Int):WordZ (zaH n):=zfx n
theorem MOk.wreg{m:Mach}(h:MOk m)(a:Int):WordZ (m.reg a):=zfz (zaE h.wr) (by unfold WordZ;omega) _
theorem MOk.wmem{m:Mach}(h:MOk m)(k:Nat):WordZ (m.mem.getD k 0):=zfz (zaE h.wm) (by unfold WordZ;omega) _
theorem MOk.goTo{m:Mach}(h:MOk m)(pc:Int):MOk (m.goTo pc):=⟨h.regs,h.mem,h.out,h.wr,h.wm,h.wo,zfx pc,h.back,h.table,h.count,h.fin,h.ready,h.want⟩
theorem MOk.setReg{m:Mach}(h:MOk m)(a v:Int)(hv:WordZ v):MOk (m.setReg a v):=⟨by simp[Mach.setReg,h.regs],h.mem,h.out,zbL (zeS (zaE h.wr) hv _),h.wm,h.wo,h.pc,h.back,h.table,h.count,h.fin,h.ready,h.want⟩
theorem MOk.irq{m:Mach}(h:MOk m)(b:Bool):MOk (irqM m b):=by
 unfold irqM;split
 ·exact⟨h.regs,h.mem,h.out,h.wr,h.wm,h.wo,h.pc,h.back,h.table,h.count,h.fin,h.ready,h.want⟩
 ·exact h
theorem MOk.comes{m:Mach}(h:MOk m){b:List Int}(hb:b.length=16)(hw:∀z∈b,WordZ z):MOk (za8 m b):=by
 unfold za8;split
 ·exact h
 ·
  rename_i hn
  have h1:=h.want
  have h2:=h.mem
  exact⟨h.regs,by show (blit _ _ _).length=256;rw[zfA (by omega)];exact h.mem,h.out,h.wr,zbL (zha (zaE h.wm) hw),h.wo,h.pc,h.back,h.table,h.count,h.fin,by show (0:Int)≤1∧(1:Int)≤1;omega,by show (-1:Int)≤-1∧(-1:Int)<16;omega⟩
theorem MOk.block{m:Mach}(h:MOk m){b:List Int}(hb:b.length=0∨b.length=16)(hw:∀z∈b,WordZ z):MOk (zat m b):=by
 unfold zat;split
 ·exact h
 ·exact h.comes (by omega) hw
theorem MOk.enter{m:Mach}(h:MOk m):MOk (zax m):=by
 unfold zax;split
 ·exact⟨h.regs,h.mem,h.out,h.wr,h.wm,h.wo,by show -1099511627776≤(8:Int)∧(8:Int)≤1099511627776;omega,h.pc,h.table,h.count,h.fin,h.ready,h.want⟩
 ·exact h
theorem MOk.tick{m:Mach}(h:MOk m)(hc:m.count<1099511627776){e:Int}(h0:0≤e)(h4:e≤4):MOk {m with count:=m.count+1,fin:=e}:=
 ⟨h.regs,h.mem,h.out,h.wr,h.wm,h.wo,h.pc,h.back,h.table,by have:=h.count;show 0≤m.count+1∧m.count+1≤1099511627776;omega,⟨h0,h4⟩,h.ready,h.want⟩
theorem MOk.st{m:Mach}(h:MOk m)(k:Nat)(a:Int):MOk {m with mem:=m.mem.set k (m.reg a)}:=
 ⟨h.regs,by show (m.mem.set k _).length=256;rw[List.length_set];exact h.mem,h.out,h.wr,zbL (zeS (zaE h.wm) (h.wreg a) _),h.wo,h.pc,h.back,h.table,h.count,h.fin,h.ready,h.want⟩
theorem MOk.told{m:Mach}(h:MOk m)(hl:m.out.length<200)(a:Int):MOk {m with out:=m.out++[m.reg a]}:=
 ⟨h.regs,h.mem,by show (m.out++_).length≤200;simp;omega,h.wr,h.wm,zbL (fun z hz=>by rcases List.mem_append.1 hz with hz|hz;exact zaE h.wo z hz;rw[List.mem_singleton.1 hz];exact h.wreg a),h.pc,h.back,h.table,h.count,h.fin,h.ready,h.want⟩
theorem MOk.wants{m:Mach}(h:MOk m){v:Int}(h0:0≤v)(h1:v<16):MOk {m with want:=v,ready:=0}:=
 ⟨h.regs,h.mem,h.out,h.wr,h.wm,h.wo,h.pc,h.back,h.table,h.count,h.fin,by show (0:Int)≤0∧(0:Int)≤1;omega,by show -1≤v∧v<16;omega⟩
theorem MOk.ei{m:Mach}(h:MOk m)(b:Bool):MOk {m with ints:=b}:=⟨h.regs,h.mem,h.out,h.wr,h.wm,h.wo,h.pc,h.back,h.table,h.count,h.fin,h.ready,h.want⟩
theorem MOk.tab{m:Mach}(h:MOk m){v:Int}(h0:¬(v < -1∨16≤v)):MOk {m with table:=v}:=⟨h.regs,h.mem,h.out,h.wr,h.wm,h.wo,h.pc,h.back,by show -1≤v∧v<16;omega,h.count,h.fin,h.ready,h.want⟩
def DoOk(m:Mach)(r:Mach×Int×Int):Prop:=MOk r.1∧0≤r.2.1∧r.2.1≤4∧r.1.count=m.count
theorem za9{m:Mach}(h:MOk m)(op a b n value:Int)(hn:WordZ n)(hv:WordZ value):DoOk m (doM m op a b n value):=by
 unfold doM
 have p1:=za2 m.table m.mem (m.reg b+n) false
 have p2:=za2 m.table m.mem (m.reg b+n) true
 have hr:WordZ m.ready:=by have:=h.ready;unfold WordZ;omega
 by_cases h0:op=0
 ·
  rw[if_pos h0]
  exact⟨h,by dsimp only;omega,by dsimp only;omega,rfl⟩
 rw[if_neg h0]
 by_cases h1:op=1
 ·
  rw[if_pos h1]
  exact⟨(h.setReg _ _ hn).goTo _,by dsimp only;omega,by dsimp only;omega,rfl⟩
 rw[if_neg h1]
 by_cases h2:op=2
 ·
  rw[if_pos h2]
  exact⟨(h.setReg _ _ (zjL _)).goTo _,by dsimp only;omega,by dsimp only;omega,rfl⟩
 rw[if_neg h2]
 by_cases h3:op=3
 ·
  rw[if_pos h3]
  exact⟨(h.setReg _ _ (zjL _)).goTo _,by dsimp only;omega,by dsimp only;omega,rfl⟩
 rw[if_neg h3]
 by_cases h4:op=4
 ·
  rw[if_pos h4]
  exact⟨(h.setReg _ _ (zjL _)).goTo _,by dsimp only;omega,by dsimp only;omega,rfl⟩
 rw[if_neg h4]
 by_cases h5:op=5
 ·
  rw[if_pos h5]
  by_cases k:(zan m.table m.mem (m.reg b+n) false).2=0
  ·rw[if_pos k];exact⟨(h.setReg _ _ (h.wmem _)).goTo _,by dsimp only;omega,by dsimp only;omega,rfl⟩
  ·rw[if_neg k];exact⟨h,by dsimp only;omega,by dsimp only;omega,rfl⟩
 rw[if_neg h5]
 by_cases h6:op=6
 ·
  rw[if_pos h6]
  by_cases k:(zan m.table m.mem (m.reg b+n) true).2=0
  ·rw[if_pos k];exact⟨(h.st _ _).goTo _,by dsimp only;omega,by dsimp only;omega,rfl⟩
  ·rw[if_neg k];exact⟨h,by dsimp only;omega,by dsimp only;omega,rfl⟩
 rw[if_neg h6]
 by_cases h7:op=7
 ·
  rw[if_pos h7]
  exact⟨h.goTo _,by dsimp only;omega,by dsimp only;omega,rfl⟩
 rw[if_neg h7]
 by_cases h8:op=8
 ·
  rw[if_pos h8]
  exact⟨h.goTo _,by dsimp only;omega,by dsimp only;omega,rfl⟩
 rw[if_neg h8]
 by_cases h9:op=9
 ·
  rw[if_pos h9]
  exact⟨h.goTo _,by dsimp only;omega,by dsimp only;omega,rfl⟩
 rw[if_neg h9]
 by_cases h10:op=10
 ·
  rw[if_pos h10]
  by_cases k:n=0∨n=1
  ·rw[if_pos k];exact⟨(h.setReg _ _ hv).goTo _,by dsimp only;omega,by dsimp only;omega,rfl⟩
  ·
   rw[if_neg k]
   by_cases k2:n=2
   ·rw[if_pos k2];exact⟨(h.setReg _ _ hr).goTo _,by dsimp only;omega,by dsimp only;omega,rfl⟩
   ·rw[if_neg k2];exact⟨h,by dsimp only;omega,by dsimp only;omega,rfl⟩
 rw[if_neg h10]
 by_cases h11:op=11
 ·
  rw[if_pos h11]
  by_cases k:n=3
  ·
   rw[if_pos k]
   by_cases k2:m.out.length<200
   ·rw[if_pos k2];exact⟨(h.told k2 _).goTo _,by dsimp only;omega,by dsimp only;omega,rfl⟩
   ·rw[if_neg k2];exact⟨h.goTo _,by dsimp only;omega,by dsimp only;omega,rfl⟩
  ·
   rw[if_neg k]
   by_cases k2:n=4∧0≤m.reg a∧m.reg a<16
   ·
    rw[if_pos k2]
    by_cases k3:m.want<0
    ·rw[if_pos k3];exact⟨(h.wants k2.2.1 k2.2.2).goTo _,by dsimp only;omega,by dsimp only;omega,rfl⟩
    ·rw[if_neg k3];exact⟨h.goTo _,by dsimp only;omega,by dsimp only;omega,rfl⟩
   ·rw[if_neg k2];exact⟨h,by dsimp only;omega,by dsimp only;omega,rfl⟩
 rw[if_neg h11]
 by_cases h12:op=12
 ·
  rw[if_pos h12]
  exact⟨(h.ei _).goTo _,by dsimp only;omega,by dsimp only;omega,rfl⟩
 rw[if_neg h12]
 by_cases h13:op=13
 ·
  rw[if_pos h13]
  exact⟨(h.ei _).goTo _,by dsimp only;omega,by dsimp only;omega,rfl⟩
 rw[if_neg h13]
 by_cases h14:op=14
 ·
  rw[if_pos h14]
  by_cases k:m.reg a < -1∨16≤m.reg a
  ·rw[if_pos k];exact⟨h,by dsimp only;omega,by dsimp only;omega,rfl⟩
  ·rw[if_neg k];exact⟨(h.tab k).goTo _,by dsimp only;omega,by dsimp only;omega,rfl⟩
 rw[if_neg h14]
 exact⟨h.goTo _,by dsimp only;omega,by dsimp only;omega,rfl⟩
theorem zfC(m:Mach):0≤(zal m).2∧(zal m).2≤4:=by
 unfold zal
 have p1:=za2 m.table m.mem m.pc false
 split
 ·dsimp only;omega
 ·
  split
  ·dsimp only;omega
  ·dsimp only;omega
theorem zhb{z:Int}(h:WordZ z):WordZ (decN z):=by unfold decN;unfold WordZ at *;omega
theorem zgb{m:Mach}(h:MOk m):WordZ (zal m).1:=by
 unfold zal
 split
 ·show WordZ 0;unfold WordZ;omega
 ·
  split
  ·show WordZ 0;unfold WordZ;omega
  ·exact h.wmem _
theorem ziA{m:Mach}(h:MOk m)(value:Int)(hv:WordZ value)(hc:m.count<1099511627776):MOk (za3 m value).1:=by
 unfold za3
 have p:=zfC m
 split
 ·exact h
 ·
  split
  ·exact h.tick hc p.1 p.2
  ·
   obtain⟨d1,d2,d3,d4⟩:=za9 h (zaM (zal m).1) (decA (zal m).1) (decB (zal m).1) (decN (zal m).1) value (zhb (zgb h)) hv
   have:=d1.tick (by rw[d4];exact hc) d2 d3
   rw[d4] at this
   exact this
theorem zfD{m:Mach}(h:MOk m)(irq:Bool){b:List Int}(value:Int)(hb:b.length=0∨b.length=16)(hw:∀z∈b,WordZ z)(hv:WordZ value)(hc:m.count<1099511627776):MOk (zbe m irq b value).1:=by
 unfold zbe
 refine ziA ((h.irq irq).block hb hw).enter value hv ?_
 have:(zax (zat (irqM m irq) b)).count=m.count:=by
  unfold zax zat za8 irqM
  repeat' split
  all_goals rfl
 rw[this];exact hc
end Go.Proofs.YtflonfcemlfbdaaDoor
namespace Go.Proofs.YtflonfcemlfbdaaDoor
open Go Go.RowKit Go.ChangeShapes Go.WideShapes Go.Deep
set_option linter.unusedVariables false
structure OutF(F:Nat→Prop)(w w':World):Prop where
 os:w'.os=w.os
 tape:w'.tape=w.tape
 output:w'.output=w.output
 size:w.heap.size≤w'.heap.size
 block:∀g,g<w.heap.size→¬F g→w'.heap[g]?=w.heap[g]?
theorem OutF.refl(F:Nat→Prop)(w:World):OutF F w w:=⟨rfl,rfl,rfl,Nat.le_refl _,fun _ _ _=>rfl⟩
theorem OutF.trans{F G:Nat→Prop}{a b c:World}(h:OutF F a b)(k:OutF G b c)(hG:∀g,G g→F g∨a.heap.size≤g):OutF F a c:=
 ⟨k.os.trans h.os,k.tape.trans h.tape,k.output.trans h.output,Nat.le_trans h.size k.size,fun g hg hF=>
  (k.block g (Nat.lt_of_lt_of_le hg h.size) (fun x=>(hG g x).elim hF (fun y=>by omega))).trans (h.block g hg hF)⟩
theorem OutF.mono{F G:Nat→Prop}{a b:World}(h:OutF F a b)(hG:∀g,F g→G g):OutF G a b:=
 ⟨h.os,h.tape,h.output,h.size,fun g hg hF=>h.block g hg (fun x=>hF (hG g x))⟩
theorem OutF.alloc{F:Nat→Prop}{a w:World}(h:OutF F a w)(o:Obj):OutF F a (w.alloc o):=
 h.trans (G:=fun _=>False) ⟨rfl,rfl,rfl,by simp,fun g hg _=>Below.heap_alloc _ _ _ hg⟩ (fun _ x=>x.elim)
theorem OutF.drewN{F:Nat→Prop}{a w:World}(h:OutF F a w)(n:Nat):OutF F a (w.drewN n):=⟨h.os,h.tape,h.output,h.size,h.block⟩
theorem OutF.setCell{F:Nat→Prop}{a w:World}(h:OutF F a w){g i:Nat}(hp:F g∨a.heap.size≤g)(u:Value):OutF F a (w.setCell ⟨g,i,none⟩ u):=
 h.trans (G:=fun k=>k=g) ⟨rfl,rfl,rfl,by simp[World.setCell],fun k _ hk=>Below.heap_setCell _ _ _ _ hk⟩ (fun k e=>by subst e;exact hp)
theorem OutF.grown{F:Nat→Prop}{a w w':World}{row:Option Nat}(h:OutF F a w)(hg:w.grownBy w' row)(hr:∀k,row=some k→F k∨a.heap.size≤k):OutF F a w':=
 h.trans (G:=fun k=>row=some k) ⟨hg.os,hg.tape,hg.output,hg.size,fun k hk hn=>hg.block k hk (fun e=>hn e.symm)⟩ hr
theorem OutF.below{F:Nat→Prop}{B:Nat}{w w':World}(h:OutF F w w')(hF:∀g,F g→B≤g)(hB:B≤w.heap.size):Below B w w':=
 ⟨h.os,h.tape,h.output,h.size,fun g hg=>h.block g (by omega) (fun x=>by have:=hF g x;omega)⟩
theorem OutF.of{w w':World}(h:Below w.heap.size w w')(F:Nat→Prop):OutF F w w':=⟨h.os,h.tape,h.output,h.size,fun g hg _=>h.block g hg⟩
theorem OutF.at{F:Nat→Prop}{w w':World}(h:OutF F w w'){g:Nat}{o:Obj}(hg:w.heap[g]?=some o)(hF:¬F g):w'.heap[g]?=some o:=
 (h.block g (Array.getElem?_eq_some_iff.1 hg).1 hF).trans hg
theorem zdA{F:Nat→Prop}{w w':World}{b:Nat}{t:TypeId}{s:Nat}{v:Value}{n:Nat}{xs:List Value}(h:w.ownsRow b t s v n xs)(k:OutF F w w')(hv:∀g,v.ownBlock=some g→¬F g):w'.ownsRow b t s v n xs:=by
 obtain⟨h1,h2⟩:=h
 refine⟨h1,?_⟩
 rcases h2 with h2|⟨g,cap,cur,rfl,hg,hh,r⟩
 ·exact Or.inl h2
 ·exact Or.inr ⟨g,cap,cur,rfl,hg,k.at hh (hv g rfl),r⟩
structure MemI(t:TypeId)(fL fS:FuncId)(v:Value)(St:World→(Nat→Prop)→List Int→Bool→Prop):Prop where
 nL : ∀ w, (nilAhead 262 t v "Load").run Tryd.prog w = .ok (some false) w
 mL : ∀ w, (method 262 t v "Load").run Tryd.prog w = .ok (fL, v) w
 eL:∀args w,(callFunc fL args).run Tryd.prog w=.ok (.enter fL args) w
 eS:∀args w,(callFunc fS args).run Tryd.prog w=.ok (.enter fS args) w
 nS : ∀ w, (nilAhead 262 t v "Store").run Tryd.prog w = .ok (some false) w
 mS : ∀ w, (method 262 t v "Store").run Tryd.prog w = .ok (fS, v) w
 load:∀w F mem x at_,St w F mem x→0≤at_→at_<256→Calls Tryd.prog fL #[v,.int .i64 at_] w fun e w'=>e=.returned (.tuple #[.int .i64 (mem.getD at_.toNat 0),.bool true])∧∃n,w'=w.drewN n
 store:∀w F mem x at_ z,St w F mem x→0≤at_→at_<256→WordZ z→Calls Tryd.prog fS #[v,.int .i64 at_,.int .i64 z] w fun e w'=>OutF F w w'∧∃F',(∀g,F' g→F g∨w.heap.size≤g)∧((e=.returned (.bool true)∧St w' F' (mem.set at_.toNat z) x)∨(e=.returned (.bool false)∧St w' F' mem true))
 stay:∀w w' F mem x,St w F mem x→(∀g,F g→w'.heap[g]?=w.heap[g]?)→w.heap.size≤w'.heap.size→St w' F mem x
 lt:∀w F mem x,St w F mem x→∀g,F g→g<w.heap.size
structure GSt(St:World→(Nat→Prop)→List Int→Bool→Prop)(w0:World)(D:Nat→Prop)(cb gr cr:Nat)(vm:Value)(m:Mach)(wrote:Int)(x:Bool)(ao:Option Addr)(co:Nat)(F:Nat→Prop)(w:World):Prop where
 box:w.heap[cb]?=some (.cells #[.slice (some ⟨gr,0,none⟩) 8 cr,.int .i64 m.pc,.int .i64 m.back,.bool m.ints,.bool m.wait,.int .i64 m.table,.int .i64 m.count,.int .i64 m.fin,vm,.slice ao m.out.length co,.int .i64 m.ready,.int .i64 m.want,.int .i64 wrote] 67 (0,0))
 regs:w.ownsRow 0 3 1 (.slice (some ⟨gr,0,none⟩) 8 cr) 8 (m.regs.map (Value.int .i64))
 out:w.ownsRow 0 3 1 (.slice ao m.out.length co) m.out.length (m.out.map (Value.int .i64))
 mem:St w F m.mem x
 ro:(Value.slice ao m.out.length co).ownBlock≠some gr
 fc:¬F cb
 fr:¬F gr
 fo:∀g,(Value.slice ao m.out.length co).ownBlock=some g→¬F g
 old:OutF D w0 w
 dc:D cb∨w0.heap.size≤cb
 dr:D gr∨w0.heap.size≤gr
 df:∀g,F g→D g∨w0.heap.size≤g
 dq:∀g,(Value.slice ao m.out.length co).ownBlock=some g→D g∨w0.heap.size≤g
def GS(St:World→(Nat→Prop)→List Int→Bool→Prop)(w0:World)(D:Nat→Prop)(cb gr cr:Nat)(vm:Value)(m:Mach)(wrote:Int)(x:Bool)(w:World):Prop:=∃ao co F,GSt St w0 D cb gr cr vm m wrote x ao co F w
theorem za6(w:World)(g i:Nat)(v:Value):w.grownBy (w.setCell ⟨g,i,none⟩ v) (some g):=
 ⟨rfl,rfl,rfl,by simp[World.setCell],fun k _ hk=>Below.heap_setCell _ _ _ _ (fun e=>hk (by rw[e]))⟩
section
variable {t fL fS:Nat} {v:Value} {St:World→(Nat→Prop)→List Int→Bool→Prop} {w0 w:World} {D:Nat→Prop} {cb gr cr:Nat} {vm:Value} {m:Mach} {wrote:Int} {x:Bool} {ao:Option Addr} {co:Nat} {F:Nat→Prop}
theorem GSt.gs(h:GSt St w0 D cb gr cr vm m wrote x ao co F w):GS St w0 D cb gr cr vm m wrote x w:=⟨ao,co,F,h⟩
theorem GSt.clt(h:GSt St w0 D cb gr cr vm m wrote x ao co F w):cb<w.heap.size:=(Array.getElem?_eq_some_iff.1 h.box).1
theorem GSt.rlt(h:GSt St w0 D cb gr cr vm m wrote x ao co F w):gr<w.heap.size:=(h.regs.lt gr rfl).2
theorem GSt.rne(h:GSt St w0 D cb gr cr vm m wrote x ao co F w):gr≠cb:=by
 intro e
 subst e
 exact zad h.regs h.box (by decide) rfl
theorem GSt.one(h:GSt St w0 D cb gr cr vm m wrote x ao co F w):(Value.slice ao m.out.length co).ownBlock≠some cb:=(zad h.out h.box (by decide)).symm
theorem GSt.rlen(h:GSt St w0 D cb gr cr vm m wrote x ao co F w):m.regs.length=8:=by have:=h.regs.1;simpa using this
theorem GSt.reg_at(h:GSt St w0 D cb gr cr vm m wrote x ao co F w){a:Nat}(ha:a<8):w.cell? ⟨gr,a,none⟩=some (.int .i64 (m.reg a)):=by
 rw[h.regs.cellAt a (by omega)]
 have hl:=h.rlen
 unfold Mach.reg
 rw[List.getElem?_map,Int.toNat_natCast,List.getElem?_eq_getElem (by omega),List.getD_eq_getElem?_getD,List.getElem?_eq_getElem (by omega)]
 rfl
theorem GSt.reg_free(h:GSt St w0 D cb gr cr vm m wrote x ao co F w)(a:Nat):w.frozen? ⟨gr,a,none⟩=false:=h.regs.frozenAt a
theorem GSt.kept(hM:MemI t fL fS v St)(h:GSt St w0 D cb gr cr vm m wrote x ao co F w){w':World}(hb:∀g,g<w.heap.size→w'.heap[g]?=w.heap[g]?)(hs:w.heap.size≤w'.heap.size)(ho:OutF D w0 w'):GSt St w0 D cb gr cr vm m wrote x ao co F w':=
 ⟨(hb _ h.clt).trans h.box,by
  obtain⟨h1,h2⟩:=h.regs
  refine⟨h1,?_⟩
  rcases h2 with h2|⟨g,cap,cur,hv,hg,hh,r⟩
  ·exact Or.inl h2
  ·exact Or.inr ⟨g,cap,cur,hv,hg,(hb _ (Array.getElem?_eq_some_iff.1 hh).1).trans hh,r⟩,by
  obtain⟨h1,h2⟩:=h.out
  refine⟨h1,?_⟩
  rcases h2 with h2|⟨g,cap,cur,hv,hg,hh,r⟩
  ·exact Or.inl h2
  ·exact Or.inr ⟨g,cap,cur,hv,hg,(hb _ (Array.getElem?_eq_some_iff.1 hh).1).trans hh,r⟩,
  hM.stay _ _ _ _ _ h.mem (fun g hg=>hb g (hM.lt _ _ _ _ h.mem g hg)) hs,h.ro,h.fc,h.fr,h.fo,ho,h.dc,h.dr,h.df,h.dq⟩
theorem GSt.alloc(hM:MemI t fL fS v St)(h:GSt St w0 D cb gr cr vm m wrote x ao co F w)(o:Obj):GSt St w0 D cb gr cr vm m wrote x ao co F (w.alloc o):=
 h.kept hM (fun g hg=>Below.heap_alloc _ _ _ hg) (by simp) (h.old.alloc o)
theorem GSt.drewN(hM:MemI t fL fS v St)(h:GSt St w0 D cb gr cr vm m wrote x ao co F w)(n:Nat):GSt St w0 D cb gr cr vm m wrote x ao co F (w.drewN n):=
 h.kept hM (fun g hg=>rfl) (Nat.le_refl _) (h.old.drewN n)
theorem GSt.drew(hM:MemI t fL fS v St)(h:GSt St w0 D cb gr cr vm m wrote x ao co F w):GSt St w0 D cb gr cr vm m wrote x ao co F w.drew:=h.drewN hM 1
theorem GSt.below(hM:MemI t fL fS v St)(h:GSt St w0 D cb gr cr vm m wrote x ao co F w){w':World}(hb:Below w.heap.size w w'):GSt St w0 D cb gr cr vm m wrote x ao co F w':=
 h.kept hM (fun g hg=>hb.block g hg) hb.size (h.old.trans (OutF.of hb (fun _=>False)) (fun _ q=>q.elim))
theorem GSt.put (hM : MemI t fL fS v St) (h : GSt St w0 D cb gr cr vm m wrote x ao co F w) (i : Nat) (u : Value) (m' : Mach) (wrote' : Int)
  (hb:(#[.slice (some ⟨gr,0,none⟩) 8 cr,.int .i64 m.pc,.int .i64 m.back,.bool m.ints,.bool m.wait,.int .i64 m.table,.int .i64 m.count,.int .i64 m.fin,vm,.slice ao m.out.length co,.int .i64 m.ready,.int .i64 m.want,.int .i64 wrote]:Array Value).setIfInBounds i u=#[.slice (some ⟨gr,0,none⟩) 8 cr,.int .i64 m'.pc,.int .i64 m'.back,.bool m'.ints,.bool m'.wait,.int .i64 m'.table,.int .i64 m'.count,.int .i64 m'.fin,vm,.slice ao m.out.length co,.int .i64 m'.ready,.int .i64 m'.want,.int .i64 wrote'])
  (hr:m'.regs=m.regs) (hm:m'.mem=m.mem) (ho:m'.out=m.out):GSt St w0 D cb gr cr vm m' wrote' x ao co F (w.setCell ⟨cb,i,none⟩ u):=by
 have hg:w.grownBy (w.setCell ⟨cb,i,none⟩ u) (some cb):=za6 w cb i u
 refine⟨?_,?_,?_,?_,by rw[ho];exact h.ro,h.fc,h.fr,by rw[ho];exact h.fo,h.old.setCell h.dc u,h.dc,h.dr,h.df,by rw[ho];exact h.dq⟩
 ·rw[ho,←hb];exact zaf h.box u
 ·rw[hr];exact h.regs.kept hg (Or.inr (by have:=h.rne;simp[Value.ownBlock];exact this))
 ·rw[ho];exact h.out.kept hg (Or.inr h.one)
 ·rw[hm];exact hM.stay _ _ _ _ _ h.mem (fun g hF=>Below.heap_setCell _ _ _ _ (fun e=>h.fc (by have e':g=cb:=e;rw[←e'];exact hF))) (by simp[World.setCell])
theorem GSt.setReg(hM:MemI t fL fS v St)(h:GSt St w0 D cb gr cr vm m wrote x ao co F w)(a:Nat)(z:Int):GSt St w0 D cb gr cr vm (m.setReg a z) wrote x ao co F (w.setCell ⟨gr,a,none⟩ (.int .i64 z)):=by
 obtain⟨hs,hg⟩:=h.regs.stored a (.int .i64 z)
 refine⟨?_,?_,?_,?_,h.ro,h.fc,h.fr,h.fo,h.old.setCell h.dr _,h.dc,h.dr,h.df,h.dq⟩
 ·exact(Below.heap_setCell _ _ _ _ (fun e=>h.rne e.symm)).trans h.box
 ·
  show World.ownsRow _ _ _ _ _ _ ((m.regs.set (a:Int).toNat z).map _)
  rw[List.map_set,Int.toNat_natCast];exact hs
 ·exact h.out.kept hg (Or.inr h.ro)
 ·exact hM.stay _ _ _ _ _ h.mem (fun g hF=>Below.heap_setCell _ _ _ _ (fun e=>h.fr (by have e':g=gr:=e;rw[←e'];exact hF))) (by simp[World.setCell])
theorem GSt.tell(hM:MemI t fL fS v St)(h:GSt St w0 D cb gr cr vm m wrote x ao co F w){w':World}{z:Int}{a':Option Addr}{cap:Nat}(hg:w.grownBy w' (Value.slice ao m.out.length co).ownBlock)(hn:w'.ownsRow 0 3 1 (.slice a' (m.out.length+1) cap) (m.out.length+1) (m.out.map (Value.int .i64)++[.int .i64 z]))(hnew:(Value.slice a' (m.out.length+1) cap).ownBlock=(Value.slice ao m.out.length co).ownBlock∨(Value.slice a' (m.out.length+1) cap).ownBlock=some w.heap.size):GSt St w0 D cb gr cr vm {m with out:=m.out++[z]} wrote x a' cap F (w'.setCell ⟨cb,9,none⟩ (.slice a' (m.out.length+1) cap)):=by
 have hcb:w'.heap[cb]?=w.heap[cb]?:=hg.block cb h.clt (fun e=>h.one e.symm)
 have hlen:(m.out++[z]).length=m.out.length+1:=by simp
 have hgs:w'.grownBy (w'.setCell ⟨cb,9,none⟩ (.slice a' (m.out.length+1) cap)) (some cb):=za6 w' cb 9 _
 have hg1:(Value.slice a' (m.out.length+1) cap).ownBlock≠some cb:=by
  rcases hnew with e|e
  ·rw[e];exact h.one
  ·rw[e];intro k;injection k with k;have:=h.clt;omega
 have hg2:(Value.slice a' (m.out.length+1) cap).ownBlock≠some gr:=by
  rcases hnew with e|e
  ·rw[e];exact h.ro
  ·rw[e];intro k;injection k with k;have:=h.rlt;omega
 have hF1:∀g,(Value.slice a' (m.out.length+1) cap).ownBlock=some g→¬F g:=by
  intro g hgq
  rcases hnew with e|e
  ·rw[e] at hgq;exact h.fo _ hgq
  ·rw[e] at hgq;injection hgq with hgq;intro k;have:=hM.lt _ _ _ _ h.mem _ k;omega
 have hD:∀g,(Value.slice a' (m.out.length+1) cap).ownBlock=some g→D g∨w0.heap.size≤g:=by
  intro g hgq
  rcases hnew with e|e
  ·rw[e] at hgq;exact h.dq _ hgq
  ·rw[e] at hgq;injection hgq with hgq;exact Or.inr (by have:=h.old.size;omega)
 refine⟨?_,?_,?_,?_,?_,h.fc,h.fr,?_,?_,h.dc,h.dr,h.df,?_⟩
 ·
  have hb:=zaf (i:=9) (hcb.trans h.box) (.slice a' (m.out++[z]).length cap)
  rw[hlen] at hb
  show _=some (Obj.cells #[.slice (some ⟨gr,0,none⟩) 8 cr,.int .i64 m.pc,.int .i64 m.back,.bool m.ints,.bool m.wait,.int .i64 m.table,.int .i64 m.count,.int .i64 m.fin,vm,.slice a' (m.out++[z]).length cap,.int .i64 m.ready,.int .i64 m.want,.int .i64 wrote] _ _)
  rw[hlen]
  exact hb
 ·exact(h.regs.kept hg (Or.inr (fun e=>h.ro e.symm))).kept hgs (Or.inr (by have:=h.rne;simp[Value.ownBlock];exact this))
 ·
  show World.ownsRow _ _ _ _ (.slice _ (m.out++[z]).length _) (m.out++[z]).length ((m.out++[z]).map _)
  rw[hlen,List.map_append]
  exact hn.kept hgs (Or.inr hg1)
 ·
  refine hM.stay _ _ _ _ _ h.mem (fun g hF=>?_) (Nat.le_trans hg.size hgs.size)
  refine(Below.heap_setCell _ _ _ _ (fun e=>h.fc (by have e':g=cb:=e;rw[←e'];exact hF))).trans (hg.block g (hM.lt _ _ _ _ h.mem g hF) (fun e=>h.fo _ e.symm hF))
 ·
  show (Value.slice a' (m.out++[z]).length cap).ownBlock≠some gr
  rw[hlen];exact hg2
 ·
  show ∀g,(Value.slice a' (m.out++[z]).length cap).ownBlock=some g→¬F g
  rw[hlen];exact hF1
 ·exact(h.old.grown hg (fun k hk=>h.dq k hk)).setCell h.dc _
 ·
  show ∀g,(Value.slice a' (m.out++[z]).length cap).ownBlock=some g→D g∨w0.heap.size≤g
  rw[hlen];exact hD
theorem GSt.stored(h:GSt St w0 D cb gr cr vm m wrote x ao co F w){w':World}{F':Nat→Prop}{mem':List Int}{x':Bool}(ho:OutF F w w')(hF:∀g,F' g→F g∨w.heap.size≤g)(hs:St w' F' mem' x'):GSt St w0 D cb gr cr vm {m with mem:=mem'} wrote x' ao co F' w':=by
 have hlt:=h.old.size
 refine⟨ho.at h.box h.fc,zdA h.regs ho (fun g e=>by simp[Value.ownBlock] at e;subst e;exact h.fr),zdA h.out ho (fun g e=>h.fo g e),hs,h.ro,?_,?_,?_,h.old.trans ho h.df,h.dc,h.dr,?_,h.dq⟩
 ·
  intro k
  rcases hF _ k with q|q
  ·exact h.fc q
  ·have:=h.clt;omega
 ·
  intro k
  rcases hF _ k with q|q
  ·exact h.fr q
  ·have:=h.rlt;omega
 ·
  intro g e k
  rcases hF _ k with q|q
  ·exact h.fo g e q
  ·have:=(h.out.lt g e).2;omega
 ·
  intro g k
  rcases hF _ k with q|q
  ·exact h.df g q
  ·exact Or.inr (by omega)
end
end Go.Proofs.YtflonfcemlfbdaaDoor
namespace Go.Proofs.YtflonfcemlfbdaaDoor
open Go Go.RowKit Go.ChangeShapes Go.WideShapes Go.Deep
set_option linter.unusedVariables false
attribute [local go_sem ↓] Go.wp_at_zero Go.wp_at_succ
def DoPost(St:World→(Nat→Prop)→List Int→Bool→Prop)(w0:World)(D:Nat→Prop)(cb gr cr:Nat)(vm:Value)(m:Mach)(x:Bool)(r:Mach×Int×Int)(e:Ending)(w':World):Prop:=
 ∃en m' wr' x',e=.returned (.int .i64 en)∧GS St w0 D cb gr cr vm m' wr' x' w'∧MOk m'∧0≤en∧en≤4∧m'.count=m.count∧((x'=x∧m'=r.1∧en=r.2.1∧wr'=r.2.2)∨x'=true)
theorem DoPost.ok{St:World→(Nat→Prop)→List Int→Bool→Prop}{w0:World}{D:Nat→Prop}{cb gr cr:Nat}{vm:Value}{m:Mach}{x:Bool}{r:Mach×Int×Int}{w':World}{en:Int}(hr:DoOk m r)(he:en=r.2.1)(h:GS St w0 D cb gr cr vm r.1 r.2.2 x w'):DoPost St w0 D cb gr cr vm m x r (.returned (.int .i64 en)) w':=by
 subst he
 exact⟨_,_,_,_,rfl,h,hr.1,hr.2.1,hr.2.2.1,hr.2.2.2,Or.inl ⟨rfl,rfl,rfl,rfl⟩⟩
end Go.Proofs.YtflonfcemlfbdaaDoor
namespace Go.Proofs.YtflonfcemlfbdaaDoor
open Go Go.RowKit Go.ChangeShapes Go.WideShapes Go.Deep
set_option maxHeartbeats 4000000
set_option maxRecDepth 100000
set_option linter.unusedVariables false
theorem zd6{t fL fS:Nat}{v:Value}{St:World→(Nat→Prop)→List Int→Bool→Prop}(hM:MemI t fL fS v St)(w:World)(F:Nat→Prop)(mem:List Int)(x:Bool)(hst:St w F mem x)(cb:Nat)(table:Int)(hc:w.cell? ⟨cb,5,none⟩=some (.int .i64 table))(ht:-1≤table∧table<16)(at_:Int)(write:Bool):Calls Tryd.prog 90 #[.pointer (some ⟨cb,0,none⟩),.iface t v,.int .i64 at_,.bool write] w fun e w'=>e=.returned (.tuple #[.int .i64 (zan table mem at_ write).1,.int .i64 (zan table mem at_ write).2])∧∃n,w'=w.drewN n:=by
 by_cases h1:at_<0∨256≤at_
 ·
  rw[zdd h1]
  clear hM hst
  go_enter Tryd.func90,Tryd.ntmps90
  go_wp2
  all_goals (go_ret2;exact⟨rfl,0,rfl⟩)
 ·
  by_cases h2:table<0
  ·
   rw[zcR h1 h2]
   clear hM hst
   have h3:¬at_<0:=by omega
   have h4:¬256≤at_:=by omega
   clear h1
   go_enter Tryd.func90,Tryd.ntmps90
   go_wp2
   all_goals (go_ret2;exact⟨rfl,0,rfl⟩)
  ·
   have h3:¬at_<0:=by omega
   have h4:¬256≤at_:=by omega
   have hd:at_.tdiv 16=at_/16:=Int.tdiv_eq_ediv_of_nonneg (by omega)
   have w1:IntKind.i64.wrap (table*16)=table*16:=IntWalk.i64_in _ (by omega)
   have w2:IntKind.i64.wrap (at_/16)=at_/16:=IntWalk.i64_in _ (by omega)
   have w3:IntKind.i64.wrap (table*16+at_/16)=table*16+at_/16:=IntWalk.i64_in _ (by omega)
   have HL:=Lib.hid (fun w' (hw:∃n,w'=w.drewN n)=>hM.load w' F mem x (table*16+at_/16) (by obtain⟨n,rfl⟩:=hw;exact hM.stay _ _ _ _ _ hst (fun g hg=>rfl) (Nat.le_refl _)) (by omega) (by omega))
   have nL:=hM.nL
   have mL:=hM.mL
   have eL:=hM.eL
   have HP:Hid (∀z,z=mem.getD (table*16+at_/16).toNat 0→(z<32∨63<z∨(write=true∧z<48)→zan table mem at_ write=(0,4))∧(¬(z<32∨63<z∨(write=true∧z<48))→zan table mem at_ write=(z%16*16+at_%16,0))):=Lib.hid (by
    intro z hz
    subst hz
    exact⟨fun h=>zde h1 h2 h,fun h=>zcS h1 h2 h⟩)
   clear hM hst h1
   generalize zan table mem at_ write=pz at *
   have hk1:0≤table*16+at_/16:=by omega
   have hk2:table*16+at_/16<256:=by omega
   generalize hk:table*16+at_/16=k at *
   generalize mem.getD k.toNat 0=z at *
   go_enter Tryd.func90,Tryd.ntmps90
   go_wp2_with fail
   go_region_with ((with_reducible refine(HL.out _ ?_).mono ?_);exact⟨1,rfl⟩;rintro e w' ⟨rfl,n,rfl⟩)
   all_goals (
    have HPZ:=Lib.hid (HP.out z rfl)
    have hm:at_.tmod 16=at_%16:=Int.tmod_eq_emod_of_nonneg (by omega)
    have v1:IntKind.i64.wrap (at_%16)=at_%16:=IntWalk.i64_in _ (by omega)
    have v2:IntKind.i64.wrap (z%16)=z%16:=IntWalk.i64_in _ (by omega)
    have v3:IntKind.i64.wrap (z%16*16)=z%16*16:=IntWalk.i64_in _ (by omega)
    have v4:IntKind.i64.wrap (z%16*16+at_%16)=z%16*16+at_%16:=IntWalk.i64_in _ (by omega)
    clear HP HL hc ht hd w1 w2 w3 hk hk1 hk2
    by_cases z1:z<32
    ·
     have HE:=Lib.hid (HPZ.out.1 (Or.inl z1))
     clear HPZ
     go_wp2_with fail
     go_ret2
     rw[HE.out]
     exact⟨rfl,_,rfl⟩
    ·
     by_cases z2:63<z
     ·
      have HE:=Lib.hid (HPZ.out.1 (Or.inr (Or.inl z2)))
      clear HPZ
      go_wp2_with fail
      go_ret2
      rw[HE.out]
      exact⟨rfl,_,rfl⟩
     ·
      have zm:z.tmod 16=z%16:=Int.tmod_eq_emod_of_nonneg (by omega)
      cases write with
      | true=>
       by_cases z3:z<48
       ·
        have HE:=Lib.hid (HPZ.out.1 (Or.inr (Or.inr ⟨rfl,z3⟩)))
        clear HPZ
        go_wp2_with fail
        go_ret2
        rw[HE.out]
        exact⟨rfl,_,rfl⟩
       ·
        have HE:=Lib.hid (HPZ.out.2 (by rintro (h|h|⟨_,h⟩)<;>omega))
        clear HPZ
        go_wp2_with fail
        go_ret2
        rw[HE.out]
        exact⟨rfl,_,rfl⟩
      | false=>
       have HE:=Lib.hid (HPZ.out.2 (by rintro (h|h|⟨h,_⟩);omega;omega;cases h))
       clear HPZ
       go_wp2_with fail
       go_ret2
       rw[HE.out]
       exact⟨rfl,_,rfl⟩)
def zbr(table:Int)(mem:List Int)(at_:Int):Int×Int:=
 if (zan table mem at_ false).2=0 then (mem.getD (zan table mem at_ false).1.toNat 0,0) else (0,(zan table mem at_ false).2)
theorem zfE{t fL fS:Nat}{v:Value}{St:World→(Nat→Prop)→List Int→Bool→Prop}(hM:MemI t fL fS v St)(w:World)(F:Nat→Prop)(mem:List Int)(x:Bool)(hst:St w F mem x)(cb:Nat)(table:Int)(hc:w.cell? ⟨cb,5,none⟩=some (.int .i64 table))(ht:-1≤table∧table<16)(at_:Int):Calls Tryd.prog 83 #[.pointer (some ⟨cb,0,none⟩),.iface t v,.int .i64 at_] w fun e w'=>e=.returned (.tuple #[.int .i64 (zbr table mem at_).1,.int .i64 (zbr table mem at_).2])∧∃n,w'=w.drewN n:=by
 have HPL:=Lib.hid (zd6 hM w F mem x hst cb table hc ht at_ false)
 have hb:=za2 table mem at_ false
 have HLZ:Hid (zbr table mem at_=if (zan table mem at_ false).2=0 then (mem.getD (zan table mem at_ false).1.toNat 0,0) else (0,(zan table mem at_ false).2)):=Lib.hid rfl
 generalize zan table mem at_ false=pz at *
 obtain⟨k,e⟩:=pz
 generalize zbr table mem at_=lz at *
 simp only at hb HLZ
 have HL:=Lib.hid (fun w' (hw:∃n,w'=w.drewN n)=>hM.load w' F mem x k (by obtain⟨n,rfl⟩:=hw;exact hM.stay _ _ _ _ _ hst (fun g hg=>rfl) (Nat.le_refl _)) hb.1 hb.2.1)
 have nL:=hM.nL
 have mL:=hM.mL
 have eL:=hM.eL
 have hk1:=hb.1
 have hk2:=hb.2.1
 clear hM hst hb
 generalize mem.getD k.toNat 0=z at *
 go_enter Tryd.func83,Tryd.ntmps83
 go_wp2_with fail
 refine HPL.out.mono ?_
 rintro en w1 ⟨rfl,n,rfl⟩
 by_cases he:e=0
 ·
  subst he
  have HE:Hid (lz=(z,0)):=HLZ
  clear HLZ HPL
  go_wp2_with ((with_reducible refine(HL.out _ ?_).mono ?_);exact⟨_,rfl⟩;rintro en w' ⟨rfl,n2,rfl⟩)
  go_ret2
  rw[HE.out]
  exact⟨rfl,_,rfl⟩
 ·
  have HE:Hid (lz=(0,e)):=Lib.hid (by rw[HLZ.out,if_neg he])
  have hen:(e != 0)=true:=by rw[bne_iff_ne];exact he
  clear HLZ HPL he
  go_wp2_with fail
  go_ret2
  rw[HE.out]
  exact⟨rfl,_,rfl⟩
theorem zfF{n:Int}(h:n<0):n.tdiv 1024 = -((-n)/1024):=by
 have:n.tdiv 1024 = -((-n).tdiv 1024):=by rw[Int.neg_tdiv,Int.neg_neg]
 rw[this,Int.tdiv_eq_ediv_of_nonneg (by omega)]
theorem zcr{n:Int}(h:n<0):n.tmod 1024 = -((-n)%1024):=by
 have:n.tmod 1024 = -((-n).tmod 1024):=by rw[Int.neg_tmod,Int.neg_neg]
 rw[this,zb3 (by omega)]
theorem zhc{n:Int}(h1:-9223372036854775808≤n)(h:n.tmod 1024<0):wrap64 (n.tdiv 1024-1)=n/1024:=by
 by_cases hn:n<0
 ·
  rw[zcr hn] at h
  rw[zfF hn,zba (by omega)]
  omega
 ·
  rw[zb3 (by omega)] at h
  omega
theorem zhd{n:Int}(h:0≤n.tmod 1024):n.tdiv 1024=n/1024:=by
 by_cases hn:n<0
 ·
  rw[zcr hn] at h
  rw[zfF hn]
  omega
 ·exact Int.tdiv_eq_ediv_of_nonneg (by omega)
theorem zhe(n:Int)(w:World)(h:-9223372036854775808≤n∧n≤9223372036854775807):Calls Tryd.prog 88 #[.int .i64 n,.int .i64 1024] w fun e w'=>e=.returned (.int .i64 (n/1024))∧w=w':=by
 obtain⟨h1,h2⟩:=h
 go_enter Tryd.func88,Tryd.ntmps88
 go_wp2
 all_goals go_ret
 ·exact⟨zbd (zhc h1 (by assumption)),rfl⟩
 ·exact⟨zbd (zhd (by assumption)),rfl⟩
theorem zeT(z:Int)(w:World)(h:-9223372036854775808≤z∧z≤9223372036854775807):Calls Tryd.prog 81 #[.int .i64 z] w fun e w'=>e=.returned (.tuple #[decV z,.int .i64 (decC z)])∧Below w.heap.size w w':=by
 obtain⟨h1,h2⟩:=h
 have HC:=Lib.hid (zf9 (zaM z) (decA z) (decB z) (decN z))
 have b1:0≤z-1024*(z/1024):=by omega
 have b2:z-1024*(z/1024)≤1023:=by omega
 have b3:-9007199254740992≤z/1024:=by omega
 have b4:z/1024≤9007199254740991:=by omega
 have HF:=Lib.hid (fun w=>zhe z w ⟨h1,h2⟩)
 have e1:(z-1024*(z/1024))%16=zaM z:=by unfold zaM;omega
 have e2:(z-1024*(z/1024))/16%8=decA z:=by unfold decA;omega
 have e3:(z-1024*(z/1024))/128=decB z:=by unfold decB;omega
 have E4:=Lib.hid (show z/1024=decN z from rfl)
 by_cases hc:decC z=0
 ·
  have he:decV z=.agg #[.int .i64 (zaM z),.int .i64 (decA z),.int .i64 (decB z),.int .i64 (decN z)]:=by unfold decV;rw[if_pos hc]
  rw[show zbo (zaM z) (decA z) (decB z) (decN z)=0 from hc] at HC
  rw[hc,he,←E4.out]
  rw[←E4.out] at HC
  clear hc he
  go_enter Tryd.func81,Tryd.ntmps81
  go_wp2_with (first|(go_at_call 88;refine(HF.out _).mono ?_;rintro e w' ⟨rfl,rfl⟩)|(go_at_call 89;refine(HC.out _).mono ?_;rintro e w' ⟨rfl,rfl⟩))
  refine bodyPost_ret (v:=.tuple #[.agg #[.int .i64 (zaM z),.int .i64 (decA z),.int .i64 (decB z),.int .i64 (z/1024)],.int .i64 0]) (by simp[results,Tryd.results81,go_sem]) rfl ⟨rfl,?_⟩
  exact below_alloc3 _ _ _ _
 ·
  have he:decV z=.agg #[.int .i64 0,.int .i64 0,.int .i64 0,.int .i64 0]:=by unfold decV;rw[if_neg hc]
  rw[show zbo (zaM z) (decA z) (decB z) (decN z)=decC z from rfl,←E4.out] at HC
  rw[he]
  generalize decC z=c at *
  have hb:(c != 0)=true:=by rw[bne_iff_ne];exact hc
  have hb':(c == 0)=false:=by rw[beq_eq_false_iff_ne];exact hc
  clear he
  go_enter Tryd.func81,Tryd.ntmps81
  go_wp2_with (first|(go_at_call 88;refine(HF.out _).mono ?_;rintro e w' ⟨rfl,rfl⟩)|(go_at_call 89;refine(HC.out _).mono ?_;rintro e w' ⟨rfl,rfl⟩))
  refine bodyPost_ret (v:=.tuple #[.agg #[.int .i64 0,.int .i64 0,.int .i64 0,.int .i64 0],.int .i64 c]) (by simp[results,Tryd.results81,go_sem]) rfl ⟨rfl,?_⟩
  exact below_alloc3 _ _ _ _
end Go.Proofs.YtflonfcemlfbdaaDoor
