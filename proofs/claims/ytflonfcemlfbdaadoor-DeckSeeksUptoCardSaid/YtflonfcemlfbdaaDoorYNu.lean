/- Several texts joined, each with its own heading in the notes: The contracts of evlog. The contracts of the reference's zaS, zigs and SumOf. Events as bytes, whole: what Encode answers, in plain Lean; its length. The contract of evlog. The contract of evlog. The contract of the reference's EventBytes. No condition beyond those of each row. -/
import Derived.Test.YtflonfcemlfbdaaDoorYCl
import Derived.Test.YtflonfcemlfbdaaDoorYEv
import Derived.Test.YtflonfcemlfbdaaDoorYMem
import Derived.Deep.CutBlock
import Derived.Deep.DeepCutAuto
import Derived.Deep.LoopGhost
import Derived.Deep.RegionLaw
import Derived.BigQuiet
namespace Go.Proofs.YtflonfcemlfbdaaDoor
open Go Go.RowKit Go.ChangeShapes Go.WideShapes Go.Deep
set_option maxHeartbeats 4000000
set_option linter.unusedVariables false
def bv(bs:List UInt8):List Value:=bs.map (fun b=>Value.int .u8 (b.toNat:Int))
theorem zdX(bs:List UInt8):(bv bs).length=bs.length:=by simp[bv]
def Lies(w:World)(r r':Option Nat):Prop:=r'=r∨∃g,r'=some g∧w.heap.size≤g
theorem Lies.step{w w1:World}{r r1 r2:Option Nat}(h:Lies w r r1)(hs:w.heap.size≤w1.heap.size)(h2:Lies w1 r1 r2):Lies w r r2:=by
 rcases h2 with e|⟨g,e,hg⟩
 ·rw[e];exact h
 ·exact Or.inr ⟨g,e,by omega⟩
def zjz(base:Nat)(w:World)(r:Option Nat)(bs:List UInt8)(e:Ending)(w':World):Prop:=∃a c,e=.returned (.slice a bs.length c)∧w'.ownsRow base 5 1 (.slice a bs.length c) bs.length (bv bs)∧w.grownBy w' r∧Lies w r (Value.slice a bs.length c).ownBlock
theorem zgS(a b:Int):bits .or .i64 a b=bits .or .i64 b a:=by
 show IntKind.i64.wrap ((BitVec.ofInt 64 a ||| BitVec.ofInt 64 b).toNat:Int)=IntKind.i64.wrap ((BitVec.ofInt 64 b ||| BitVec.ofInt 64 a).toNat:Int)
 rw[BitVec.or_comm]
/-! ### The sum -/
def sumS(x y:Nat):List UInt8→Nat×Nat
 | []=>(x,y)
 | c::bs=>sumS ((x+c.toNat)%65521) ((y+(x+c.toNat)%65521)%65521) bs
theorem ziq(a b:List UInt8):∀x y,sumS x y (a++b)=sumS (sumS x y a).1 (sumS x y a).2 b:=by
 induction a with
 | nil=>intro x y;rfl
 | cons c a ih=>intro x y;exact ih _ _
theorem zeL(bs:List UInt8):∀x y,x<65521→y<65521→(sumS x y bs).1<65521∧(sumS x y bs).2<65521:=by
 induction bs with
 | nil=>intro x y h1 h2;exact⟨h1,h2⟩
 | cons c bs ih=>intro x y _ _;exact ih _ _ (Nat.mod_lt _ (by decide)) (Nat.mod_lt _ (by decide))
def sum1(bs:List UInt8):Nat:=(sumS 1 0 bs).1
def sum2(bs:List UInt8):Nat:=(sumS 1 0 bs).2
def sumB(bs:List UInt8):List UInt8:=[UInt8.ofNat (sum2 bs/256),UInt8.ofNat (sum2 bs%256),UInt8.ofNat (sum1 bs/256),UInt8.ofNat (sum1 bs%256)]
theorem zgT(bs:List UInt8)(k:Nat)(h:k<bs.length):bs.take (k+1)=bs.take k++[bs[k]]:=by rw[List.take_add_one,List.getElem?_eq_getElem h];rfl
theorem zft(bs:List UInt8)(k:Nat)(h:k<bs.length):sumS 1 0 (bs.take (k+1))=(((sumS 1 0 (bs.take k)).1+bs[k].toNat)%65521,((sumS 1 0 (bs.take k)).2+((sumS 1 0 (bs.take k)).1+bs[k].toNat)%65521)%65521):=by
 rw[zgT bs k h,ziq]
 rfl
theorem zgU(v:Value)(bs:List UInt8)(w:World)(hf:BytesR w.heap.size w v bs):Calls Tryd.prog 49 #[v] w fun e w'=>e=.returned (.int .i64 ((sum2 bs:Int)*65536+sum1 bs))∧w=w':=by
 obtain⟨a,cap,rfl,hl,hl2,hc⟩:=hf
 have HC:=Lib.hid hc
 clear hc
 go_enter Tryd.func49,Tryd.ntmps49
 go_wp2
 go_loop [3,4,9] (fun s3 s4 s9 =>∃k x y:Nat,k≤bs.length∧s9=.int .i64 k∧s3=.int .i64 x∧s4=.int .i64 y∧Hid (sumS 1 0 (bs.take k)=(x,y))∧x<65521∧y<65521) (fun _ _ s9=>bs.length-(intOf s9).toNat)
 case atStart=>exact⟨0,1,0,Nat.zero_le _,rfl,rfl,rfl,Lib.hid rfl,by omega,by omega⟩
 case round=>
  obtain⟨k,x,y,hk,rfl,rfl,rfl,S,hx,hy⟩:=hrel
  by_cases hlt:k<bs.length
  ·
   obtain⟨b,off,vi,ha,hb,hcell,hvi⟩:=HC.out k hlt
   subst ha
   unfold zc5 at hvi
   subst hvi
   have hstep:=zft bs k hlt
   rw[S.out] at hstep
   have HS:=Lib.hid hstep
   have hc:=zbA bs[k]
   generalize bs[k].toNat=z at *
   clear hstep
   go_wp2
   go_round
   case rel=>exact⟨k+1,(x+z)%65521,(y+(x+z)%65521)%65521,by omega,by go_num,by go_num,by go_num,HS,Nat.mod_lt _ (by decide),Nat.mod_lt _ (by decide)⟩
   case measure=>simp[intOf];omega
  ·
   obtain rfl:k=bs.length:=by omega
   have hS:sumS 1 0 bs=(x,y):=by have:=S.out;rwa [List.take_length] at this
   have h1:sum1 bs=x:=by unfold sum1;rw[hS]
   have h2:sum2 bs=y:=by unfold sum2;rw[hS]
   have H1:=Lib.hid h1
   have H2:=Lib.hid h2
   clear h1 h2 hS
   have hj:=zaC 16 (by decide) ((y:Int)*65536) (x:Int) (by omega) (by unfold I64;omega) (by omega) (by omega)
   have hw:IntKind.i64.wrap ((y:Int)*65536)=(y:Int)*65536:=IntWalk.i64_in _ (by omega)
   go_wp2
   go_ret
   exact⟨zbd (by rw[H1.out,H2.out]),rfl⟩
def NewB(w:World)(bs:List UInt8)(e:Ending)(w':World):Prop:=∃a c,e=.returned (.slice a bs.length c)∧w'.ownsRow w.heap.size 5 1 (.slice a bs.length c) bs.length (bv bs)∧Below w.heap.size w w'
theorem zgV{w:World}{g base:Nat}{bs:List UInt8}(h:w.heap[g]?=some (.cells (bv bs).toArray 5 (0,0)))(hb:base≤g)(hm:bs.length≤1000000):w.ownsRow base 5 1 (.slice (some ⟨g,0,none⟩) bs.length bs.length) bs.length (bv bs):=
 ⟨by simp[zdX],.inr ⟨g,bs.length,_,rfl,hb,h,Nat.le_refl _,by unfold maxLen;omega,by simp[zdX],by rw[←zdX];simp[List.take_of_length_le]⟩⟩
theorem zeM{w:World}{base m:Nat}{t:TypeId}{v:Value}{vs:List Value}(h:w.ownsRow base t 1 v vs.length vs)(hm:vs.length≤m):SlV m w.heap.size w v vs:=
 zbq h hm (fun i hi hv=>rfl)
theorem NewB.slv{w w':World}{bs:List UInt8}{a:Option Addr}{c:Nat}(h:w'.ownsRow w.heap.size 5 1 (.slice a bs.length c) bs.length (bv bs))(hl:bs.length≤100000000):SlV 100000000 w'.heap.size w' (.slice a bs.length c) (bv bs):=
 zeM (by rw[zdX];exact h) (by rw[zdX];exact hl)
theorem bv4{a b c d:UInt8}{x y z u:Int}(h1:(a.toNat:Int)=x)(h2:(b.toNat:Int)=y)(h3:(c.toNat:Int)=z)(h4:(d.toNat:Int)=u):(bv [a,b,c,d]).toArray=#[.int .u8 x,.int .u8 y,.int .u8 z,.int .u8 u]:=by rw[←h1,←h2,←h3,←h4];rfl
theorem zgW(v:Value)(bs:List UInt8)(w:World)(hf:BytesR w.heap.size w v bs):Calls Tryd.prog 41 #[v] w (NewB w (sumB bs)):=by
 obtain⟨a,cap,rfl,hl,hl2,hc⟩:=hf
 have HC:=Lib.hid hc
 clear hc
 go_enter Tryd.func41,Tryd.ntmps41
 go_wp2
 go_loop [3,4,5] (fun s3 s4 s5 =>∃k x y:Nat,k≤bs.length∧s5=.int .i64 k∧s3=.int .i64 x∧s4=.int .i64 y∧Hid (sumS 1 0 (bs.take k)=(x,y))∧x<65521∧y<65521) (fun _ _ s5=>bs.length-(intOf s5).toNat)
 case atStart=>exact⟨0,1,0,Nat.zero_le _,rfl,rfl,rfl,Lib.hid rfl,by omega,by omega⟩
 case round=>
  obtain⟨k,x,y,hk,rfl,rfl,rfl,S,hx,hy⟩:=hrel
  by_cases hlt:k<bs.length
  ·
   obtain⟨b,off,vi,ha,hb,hcell,hvi⟩:=HC.out k hlt
   subst ha
   unfold zc5 at hvi
   subst hvi
   have hstep:=zft bs k hlt
   rw[S.out] at hstep
   have HS:=Lib.hid hstep
   have hc:=zbA bs[k]
   generalize bs[k].toNat=z at *
   clear hstep
   go_wp2
   go_round
   case rel=>exact⟨k+1,(x+z)%65521,(y+(x+z)%65521)%65521,by omega,by go_num,by go_num,by go_num,HS,Nat.mod_lt _ (by decide),Nat.mod_lt _ (by decide)⟩
   case measure=>simp[intOf];omega
  ·
   obtain rfl:k=bs.length:=by omega
   have hS:sumS 1 0 bs=(x,y):=by have:=S.out;rwa [List.take_length] at this
   have h1:sum1 bs=x:=by unfold sum1;rw[hS]
   have h2:sum2 bs=y:=by unfold sum2;rw[hS]
   have hB:sumB bs=[UInt8.ofNat (y/256),UInt8.ofNat (y%256),UInt8.ofNat (x/256),UInt8.ofNat (x%256)]:=by unfold sumB;rw[h1,h2]
   have c1:((UInt8.ofNat (y/256)).toNat:Int)=(y:Int)/256:=by rw[zdT (by omega)];omega
   have c2:((UInt8.ofNat (y%256)).toNat:Int)=(y:Int)%256:=by rw[zdT (by omega)];omega
   have c3:((UInt8.ofNat (x/256)).toNat:Int)=(x:Int)/256:=by rw[zdT (by omega)];omega
   have c4:((UInt8.ofNat (x%256)).toNat:Int)=(x:Int)%256:=by rw[zdT (by omega)];omega
   have HB:=Lib.hid (zgV (base:=w.heap.size) (w:=w.alloc (.cells #[.int .u8 ((y:Int)/256),.int .u8 ((y:Int)%256),.int .u8 ((x:Int)/256),.int .u8 ((x:Int)%256)] 5)) (bs:=[UInt8.ofNat (y/256),UInt8.ofNat (y%256),UInt8.ofNat (x/256),UInt8.ofNat (x%256)]) (by rw[bv4 c1 c2 c3 c4];exact alloc_at rfl) (Nat.le_refl _) (by simp))
   have HE:=Lib.hid hB
   clear hB c1 c2 c3 c4 h1 h2 hS S
   go_wp2
   refine bodyPost_ret (v:=.slice (some ⟨w.heap.size,0,none⟩) 4 4) (by simp[results,Tryd.results41,go_sem]) rfl ?_
   rw[HE.out]
   exact⟨some ⟨w.heap.size,0,none⟩,4,rfl,HB.out,zai _ _⟩
end Go.Proofs.YtflonfcemlfbdaaDoor
namespace Go.Proofs.YtflonfcemlfbdaaDoor
set_option linter.unusedVariables false
def zir(x:Ev):List UInt8:=if x.kind=2 then zcx 0 0 x.data else if x.kind=3 then zaS (zig (x.data.getD 0 0)) else []
def evE(a:Int)(x:Ev):List UInt8:=zaS (4*(x.at_-a)+x.kind).toNat++zir x
def evsE:Int→List Ev→List UInt8
 | _,[]=>[]
 | a,x::l=>evE a x++evsE x.at_ l
def zcH:Int→List Ev→Int
 | a,[]=>a
 | _,x::l=>zcH x.at_ l
theorem zf2(l:List Ev)(x:Ev):∀a,zcH a (l++[x])=x.at_:=by
 induction l with
 | nil=>intro a;rfl
 | cons y l ih=>intro a;exact ih _
def payE(l:List Ev):List UInt8:=zaS l.length++evsE 0 l
def encE(l:List Ev):List UInt8:=payE l++sumB (payE l)
def EvOk(l:List Ev):Prop:=∀j,j<l.length→fAt l j=0
theorem zcI{l:List Ev}{k:Nat}(h:k+1≤l.length):zcH 0 (l.take (k+1))=l[k].at_:=by
 rw[List.take_add_one,List.getElem?_eq_getElem (by omega)]
 exact zf2 _ _ _
theorem zjA{l:List Ev}(h:EvOk l){k:Nat}(hk:k<l.length):1≤l[k].kind∧l[k].kind≤3∧0≤l[k].at_∧l[k].at_<3000∧l[k].data.any oddB=false∧(l[k].data.length:Int)=evW l[k].kind∧0≤zcH 0 (l.take k)∧zcH 0 (l.take k)≤l[k].at_:=by
 have e:=h k hk
 unfold fAt at e
 rw[List.getElem?_eq_getElem hk] at e
 simp only at e
 obtain⟨h1,h2,h3,h4,h5,h6⟩:=zfs e
 refine⟨h1,h2,h3,h4,h5,h6,?_⟩
 cases k with
 | zero=>exact⟨by simp[zcH],by simpa[zcH] using h3⟩
 | succ m=>
  have hm:m<l.length:=by omega
  have r:=zdW hm (h m hm)
  rw[zcI (by omega)]
  refine⟨r.2.2.1,?_⟩
  rw[if_neg (by omega),Nat.add_sub_cancel,List.getElem?_eq_getElem hm,evFp (by omega) (by rintro (h|h|h);omega;omega;rw[h5] at h;cases h) h6] at e
  simp only at e
  split at e
  ·omega
  ·omega
def zgX(kind last:Int)(rest:List Int):List UInt8:=
 if kind=2 then zcx last 0 rest else if kind=3 then (match rest with|[]=>[]|x::_=>zaS (zig (x-last))) else []
theorem zis{d:List Int}{i k:Nat}{x:Int}(hi:i<d.length)(hx:d[i]=x)(hik:i<k)(hk:k≤d.length)(h:∀j (hj:j<d.length),i≤j→j<k→d[j]=x):d.drop i=List.replicate (k-i-1+1) x++d.drop k:=by
 apply List.ext_getElem
 ·simp;omega
 ·
  intro j h1 h2
  rw[List.getElem_append]
  split
  ·
   rename_i hj
   simp only[List.length_replicate] at hj
   rw[List.getElem_replicate,List.getElem_drop]
   exact h _ _ (by omega) (by omega)
  ·
   rename_i hj
   simp only[List.length_replicate] at hj ⊢
   rw[List.getElem_drop,List.getElem_drop]
   congr 1
   omega
theorem zit{kind last x:Int}{m:Nat}{rest:List Int}(h:rest.head?≠some x)(hk:kind=3→m=0∧rest=[])(h1:kind=2∨kind=3):zgX kind last (List.replicate (m+1) x++rest)=(if kind=2 then zaS (m+1) else [])++(zaS (zig (x-last))++zgX kind x rest):=by
 unfold zgX
 rcases h1 with e|e
 ·
  rw[if_pos e,if_pos e,if_pos e,zdU last x rest h m 0]
  simp
 ·
  obtain⟨rfl,rfl⟩:=hk e
  subst e
  simp
end Go.Proofs.YtflonfcemlfbdaaDoor
namespace Go.Proofs.YtflonfcemlfbdaaDoor
open Go Go.RowKit Go.ChangeShapes Go.WideShapes Go.Deep
set_option linter.unusedVariables false
theorem EvRes.ok{l:List Ev}(h:EvRes l 0):EvOk l∧l.length≤1000:=by
 rcases h with⟨_,h⟩|⟨_,k,_,_,_,h⟩|⟨h1,h2,_⟩
 ·cases h
 ·exact absurd rfl h
 ·exact⟨h2,h1⟩
structure BSt(w:World)(g:Nat)(cells:Array Value)(a:Option Addr)(c:Nat)(bs:List UInt8)(wr:World):Prop where
 o:wr.ownsRow w.heap.size 5 1 (.slice a bs.length c) bs.length (bv bs)
 x:wr.heap[g]?=some (.cells cells 75 (0,0))
 b:Below w.heap.size w wr
theorem BSt.lt{w wr:World}{g c:Nat}{cells:Array Value}{a:Option Addr}{bs:List UInt8}(h:BSt w g cells a c bs wr):g<wr.heap.size:=(Array.getElem?_eq_some_iff.1 h.x).1
theorem BSt.step{w wr w1:World}{g c:Nat}{cells:Array Value}{a:Option Addr}{bs bs':List UInt8}{e:Ending}(h:BSt w g cells a c bs wr)(hp:zjz w.heap.size wr (Value.slice a bs.length c).ownBlock bs' e w1):∃a' c',e=.returned (.slice a' bs'.length c')∧BSt w g cells a' c' bs' w1:=by
 obtain⟨a',c',rfl,h1,h2,h3⟩:=hp
 exact⟨a',c',rfl,h1,zam h2 h.x (zad h.o h.x (by decide)),below_grown h.b h.o h2 h.b.size (Nat.le_refl _)⟩
theorem BSt.drewN{w wr:World}{g c:Nat}{cells:Array Value}{a:Option Addr}{bs:List UInt8}(h:BSt w g cells a c bs wr)(n:Nat):BSt w g cells a c bs (wr.drewN n):=⟨h.o,h.x,below_drewN h.b n⟩
def RunTo(d:List Int)(i q:Nat):Prop:=∃h:i<d.length,i<q∧q≤d.length∧(∀j (hj:j<d.length),i≤j→j<q→d[j]=d[i])∧(d.drop q).head?≠some d[i]
theorem RunTo.tail{d:List Int}{i q:Nat}(hr:RunTo d i q){kind last:Int}(h6:(d.length:Int)=evW kind)(h1:1≤kind)(h3:kind≤3)(hi:i<d.length):(kind=2∨kind=3)∧zgX kind last (d.drop i)=(if kind=2 then zaS (q-i) else [])++(zaS (zig (d[i]-last))++zgX kind d[i] (d.drop q)):=by
 obtain⟨_,hiq,hq2,ha,hh⟩:=hr
 have hlt3:kind=3→q-i-1=0∧d.drop q=[]:=by
  intro e
  rw[e] at h6
  have hl1:(d.length:Int)=1:=h6
  exact⟨by omega,List.drop_eq_nil_of_le (by omega)⟩
 have hkk:kind=2∨kind=3:=by
  rcases (show kind=1∨kind=2∨kind=3 by omega) with e|e|e
  ·
   rw[e] at h6
   have hl0:(d.length:Int)=0:=h6
   omega
  ·exact Or.inl e
  ·exact Or.inr e
 refine⟨hkk,?_⟩
 have htl:=zit (last:=last) hh hlt3 hkk
 rw[←zis hi rfl hiq hq2 ha,show q-i-1+1=q-i by omega] at htl
 exact htl
theorem zdY{w:World}{base c:Nat}{a:Option Addr}{bs:List UInt8}(h:w.ownsRow base 5 1 (.slice a bs.length c) bs.length (bv bs))(hl:bs.length≤100000000):BytesR w.heap.size w (.slice a bs.length c) bs:=
 zbq h (by omega) (fun i hi hv=>by unfold zc5;simp[bv])
structure RSt(w:World)(a:Option Addr)(c:Nat)(bs:List UInt8)(wr:World):Prop where
 o:wr.ownsRow w.heap.size 5 1 (.slice a bs.length c) bs.length (bv bs)
 b:Below w.heap.size w wr
theorem RSt.drewN{w wr:World}{c:Nat}{a:Option Addr}{bs:List UInt8}(h:RSt w a c bs wr)(n:Nat):RSt w a c bs (wr.drewN n):=⟨h.o,below_drewN h.b n⟩
theorem RSt.drew{w wr:World}{c:Nat}{a:Option Addr}{bs:List UInt8}(h:RSt w a c bs wr):RSt w a c bs wr.drew:=h.drewN 1
theorem RSt.call{w wr w1:World}{c:Nat}{a:Option Addr}{bs r:List UInt8}{e:Ending}(h:RSt w a c bs wr)(hr:r.length≤1000000)(hp:NewB wr r e w1):∃a1 c1,e=.returned (.slice a1 r.length c1)∧RSt w a c bs w1∧SlV 100000000 w1.heap.size w1 (.slice a1 r.length c1) (bv r):=by
 obtain⟨a1,c1,rfl,ho,hb⟩:=hp
 exact⟨a1,c1,rfl,⟨own_below h.o hb (Nat.le_refl _),h.b.trans (hb.mono h.b.size)⟩,NewB.slv ho (by omega)⟩
attribute [local go_sem ↓] Go.wp_at_zero Go.wp_at_succ
end Go.Proofs.YtflonfcemlfbdaaDoor
