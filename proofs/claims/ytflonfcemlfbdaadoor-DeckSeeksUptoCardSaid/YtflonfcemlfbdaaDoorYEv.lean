/- Several texts joined, each with its own heading in the notes: Contracts of slices. Events as bytes, in plain Lean: how they are written, how they are read, and that both go together. The readings of slices of numbers, of raw things, tapes, sessions, worlds. What is wrong with events; the contracts of evlog. The contract of the reference's EventsFault. No condition beyond those of each row. -/
import Derived.Test.YtflonfcemlfbdaaDoorYMem
import Derived.Lib.Walk
import Derived.Shelf.Abstract
import Derived.Deep.LoopGhost
import Derived.Deep.Draws
import Derived.IntWalk
namespace Go.Proofs.YtflonfcemlfbdaaDoor
open Go Go.RowKit Go.ChangeShapes Go.WideShapes Go.Deep
set_option maxHeartbeats 1000000
set_option linter.unusedVariables false
def zfp(g:Nat)(p:Int→Bool):Prop:=∀(z:Int) (W:World),-9223372036854775808≤z→z≤9223372036854775807→Calls Tryd.prog g #[.int .i64 z] W fun e w'=>e=.returned (.bool (p z))∧W=w'
theorem zgI{p:Int→Bool}{zs:List Int}{k:Nat}(hk:k<zs.length)(h:p zs[k]=true):zs.any p=true:=List.any_eq_true.2 ⟨_,List.getElem_mem hk,h⟩
theorem zfq{p:Int→Bool}{zs:List Int}(h:∀j,j<zs.length→p (zs.getD j 0)=false):zs.any p=false:=by
 rw[List.any_eq_false]
 intro x hx
 obtain⟨i,hi,rfl⟩:=List.mem_iff_getElem.1 hx
 have:=h i hi
 simp[List.getD,hi] at this
 simp[this]
theorem zdR{p:Int→Bool}{zs:List Int}{k:Nat}(h:∀j,j<k→p (zs.getD j 0)=false)(hk:k<zs.length)(h1:p zs[k]=false):∀j,j<k+1→p (zs.getD j 0)=false:=by
 intro j hj
 rcases Nat.lt_succ_iff_lt_or_eq.1 hj with hj|rfl
 ·exact h j hj
 ·simpa[List.getD,hk] using h1
theorem zin (g : Nat) (p : Int → Bool) (eg : ∀ args w, (callFunc g args).run Tryd.prog w = .ok (.enter g args) w) (hp : zfp g p) (v : Value) (zs : List Int) (w : World) (hf : Ints w.heap.size w v zs) :
  Calls Tryd.prog 69 #[v,.func (.func g) #[] #[]] w fun e w'=>(∃i:Int,e=.returned (.int .i64 i)∧-1≤i∧i≤17592186043904∧((0≤i)=(zs.any p=true)))∧∃n,w'=w.drewN n:=by
 obtain⟨a,c,rfl,hl,_,hc⟩:=hf
 have Hc:=Lib.hid hc
 have HP:=Lib.hid hp
 clear hc hp
 go_enter Tryd.func69,Tryd.ntmps69
 go_wp2
 go_loopg [5,8] zs.length (fun gg _ s8 wr =>∃k q:Nat,k≤zs.length∧zs.length-k≤gg∧s8=.int .i64 k∧wr=w.drewN q∧Hid (∀j,j<k→p (zs.getD j 0)=false))
 case atStart=>exact⟨0,0,Nat.zero_le _,by omega,rfl,rfl,Lib.hid fun j hj=>absurd hj (Nat.not_lt_zero _)⟩
 case round=>
  obtain⟨k,q,hk,hg,rfl,rfl,A⟩:=hrel
  by_cases hlt:k<zs.length
  ·
   obtain⟨b,off,vi,ha,hb,hcell,hvi,hz⟩:=Hc.out k hlt
   subst ha hvi
   have HG:=Lib.hid (zdR A.out hlt)
   have HH:=Lib.hid (zgI (p:=p) hlt)
   obtain⟨z1,z2⟩:=hz
   generalize zs[k]=z at *
   have hcall:=Lib.hid (fun W=>HP.out z W z1 z2)
   cases hq:p z with
   | true=>
    rw[hq] at hcall
    have HQ:=Lib.hid hq
    clear hq
    go_wp2_with (go_at_fn g;refine(hcall.out _).mono ?_;rintro e w' ⟨rfl,rfl⟩)
    go_ret
    exact⟨⟨k,rfl,by omega,by omega,by simp[HH.out HQ.out]⟩,_,rfl⟩
   | false=>
    rw[hq] at hcall
    have HQ:=Lib.hid hq
    clear hq
    go_wp2_with (go_at_fn g;refine(hcall.out _).mono ?_;rintro e w' ⟨rfl,rfl⟩)
    go_roundg (zs.length-(k+1))
    case measure=>omega
    case rel=>exact⟨k+1,_,by omega,by omega,by go_num,rfl,Lib.hid (HG.out HQ.out)⟩
  ·
   have hm:=zfq (p:=p) (zs:=zs) (fun j hj=>A.out j (by omega))
   have HM:=Lib.hid hm
   clear hm
   go_wp2
   go_ret
   exact⟨⟨-1,rfl,by omega,by omega,by simp[HM.out]⟩,q,rfl⟩
theorem zbZ (g : Nat) (p : Int → Bool) (eg : ∀ args w, (callFunc g args).run Tryd.prog w = .ok (.enter g args) w) (hp : zfp g p) (v : Value) (zs : List Int) (w : World) (hf : Ints w.heap.size w v zs) :
  Calls Tryd.prog 46 #[v,.func (.func g) #[] #[]] w fun e w'=>e=.returned (.bool (zs.any p))∧∃n,w'=w.drewN n:=by
 have HI:=Lib.hid (zin g p eg hp v zs w hf)
 clear hf hp eg
 go_enter Tryd.func46,Tryd.ntmps46
 go_wp2_with fail
 refine HI.out.mono ?_
 rintro e w' ⟨⟨i,rfl,h1,h2,h3⟩,n,rfl⟩
 have H3:=Lib.hid h3
 clear h3
 go_wp2
 go_ret
 refine⟨zaZ ?_,n,rfl⟩
 rw[Bool.eq_iff_iff,decide_eq_true_iff,H3.out]
def oddB(z:Int):Bool:=!(decide (-1099511627776≤z) && decide (z≤1099511627776))
theorem zcy{z:Int}(h:z < -1099511627776∨1099511627776<z):oddB z=true:=by
 unfold oddB
 rw[Bool.not_eq_true',Bool.and_eq_false_iff,decide_eq_false_iff_not,decide_eq_false_iff_not]
 omega
theorem zcG{z:Int}(h:-1099511627776≤z∧z≤1099511627776):oddB z=false:=by simp[oddB,h]
theorem zio(z:Int)(w:World):Calls Tryd.prog 48 #[.int .i64 z] w fun e w'=>e=.returned (.bool (!oddB z))∧w=w':=by
 by_cases h1:-1099511627776≤z
 ·
  by_cases h2:z≤1099511627776
  ·
   rw[zcG ⟨h1,h2⟩]
   go_enter Tryd.func48,Tryd.ntmps48
   go_wp2
   go_ret
   simp_all
  ·
   rw[zcy (by omega)]
   go_enter Tryd.func48,Tryd.ntmps48
   go_wp2
   go_ret
   simp_all
 ·
  rw[zcy (by omega)]
  go_enter Tryd.func48,Tryd.ntmps48
  go_wp2
  go_ret
  simp_all
theorem zeG(z:Int)(w:World):Calls Tryd.prog 64 #[.int .i64 z] w fun e w'=>e=.returned (.bool (!oddB z))∧w=w':=by
 have H:=Lib.hid (zkm z (-1099511627776) 1099511627776)
 have HE:(!oddB z)=inB z (-1099511627776) 1099511627776:=by unfold oddB inB;rw[Bool.not_not]
 have HE:=Lib.hid HE
 go_enter Tryd.func64,Tryd.ntmps64
 go_wp2_with (go_at_call 13;refine(H.out _).mono ?_;rintro e w' ⟨rfl,rfl⟩)
 go_ret
 exact⟨zaZ HE.out.symm,rfl⟩
theorem zaN(v:Value)(zs:List Int)(w:World)(hf:Ints w.heap.size w v zs):Calls Tryd.prog 40 #[v] w fun e w'=>e=.returned (.bool (!zs.any oddB))∧∃n,w'=w.drewN n:=by
 obtain⟨a,c,rfl,hl,_,hc⟩:=hf
 have Hc:=Lib.hid hc
 clear hc
 go_enter Tryd.func40,Tryd.ntmps40
 go_wp2
 go_loopw [3] (fun i wr =>∃k q:Nat,k≤zs.length∧i=.int .i64 k∧wr=w.drewN q∧Hid (∀j,j<k→oddB (zs.getD j 0)=false)) (fun i _=>zs.length-(intOf i).toNat)
 case atStart=>exact⟨0,0,Nat.zero_le _,rfl,rfl,Lib.hid fun j hj=>absurd hj (Nat.not_lt_zero _)⟩
 case round=>
  obtain⟨k,q,hk,rfl,rfl,A⟩:=hrel
  by_cases hlt:k<zs.length
  ·
   obtain⟨b,off,vi,ha,hb,hcell,hvi,hz⟩:=Hc.out k hlt
   subst ha hvi
   have HG:=Lib.hid (zdR A.out hlt)
   have HH:=Lib.hid (zgI (p:=oddB) hlt)
   generalize zs[k]=z at *
   clear hz
   have hcall:=Lib.hid (zeG z)
   cases hq:oddB z with
   | true=>
    rw[hq] at hcall
    have HQ:=Lib.hid hq
    clear hq
    go_wp2_with (go_at_call 64;refine(hcall.out _).mono ?_;rintro e w' ⟨rfl,rfl⟩)
    go_ret
    exact⟨zaZ (by rw[HH.out HQ.out];rfl),q,rfl⟩
   | false=>
    rw[hq] at hcall
    have HQ:=Lib.hid hq
    clear hq
    go_wp2_with (go_at_call 64;refine(hcall.out _).mono ?_;rintro e w' ⟨rfl,rfl⟩)
    go_roundw
    case rel=>exact⟨k+1,_,by omega,by go_num,rfl,Lib.hid (HG.out HQ.out)⟩
    case measure=>simp[intOf];omega
  ·
   have hm:=zfq (p:=oddB) (zs:=zs) (fun j hj=>A.out j (by omega))
   have HM:=Lib.hid hm
   clear hm
   go_wp2
   go_ret
   exact⟨zaZ (by rw[HM.out];rfl),q,rfl⟩
end Go.Proofs.YtflonfcemlfbdaaDoor
namespace Go.Proofs.YtflonfcemlfbdaaDoor
set_option linter.unusedVariables false
structure Ev where
 at_:Int
 kind:Int
 data:List Int
def zaS(n:Nat):List UInt8:=if n<128 then [UInt8.ofNat n] else UInt8.ofNat (128+n%128)::zaS (n/128)
 termination_by n
 decreasing_by omega
theorem zdS{n:Nat}(h:n<128):zaS n=[UInt8.ofNat n]:=by rw[zaS,if_pos h]
theorem zeH{n:Nat}(h:128≤n):zaS n=UInt8.ofNat (128+n%128)::zaS (n/128):=by rw[zaS,if_neg (by omega)]
theorem zdT{n:Nat}(h:n<256):(UInt8.ofNat n).toNat=n:=by rw[UInt8.toNat_ofNat'];omega
theorem zbA(c:UInt8):c.toNat<256:=c.toNat_lt
def zig(z:Int):Nat:=if z<0 then (-2*z-1).toNat else (2*z).toNat
def zag(n:Nat):Int:=if n%2=1 then -((n+1)/2:Nat) else ((n/2:Nat):Int)
theorem zgJ(n:Nat):zig (zag n)=n:=by
 unfold zag zig
 split<;>split<;>omega
def numP(i n:Nat):List UInt8→Int×Nat×List UInt8
 | []=>(5,0,[])
 | c::bs=>if (0<i∧c.toNat=0)∨i=7 then (4,0,bs) else if c.toNat<128 then (0,n+c.toNat%128*128 ^ i,bs) else numP (i+1) (n+c.toNat%128*128 ^ i) bs
theorem zb0{i n:Nat}{c:UInt8}{bs:List UInt8}(h:(0<i∧c.toNat=0)∨i=7):numP i n (c::bs)=(4,0,bs):=by rw[numP,if_pos h]
theorem zcz{i n:Nat}{c:UInt8}{bs:List UInt8}(h:¬((0<i∧c.toNat=0)∨i=7))(h1:c.toNat<128):numP i n (c::bs)=(0,n+c.toNat%128*128 ^ i,bs):=by rw[numP,if_neg h,if_pos h1]
theorem zb1{i n:Nat}{c:UInt8}{bs:List UInt8}(h:¬((0<i∧c.toNat=0)∨i=7))(h1:¬c.toNat<128):numP i n (c::bs)=numP (i+1) (n+c.toNat%128*128 ^ i) bs:=by rw[numP,if_neg h,if_neg h1]
theorem zfr(bs:List UInt8):∀(i n v:Nat) (r:List UInt8),numP i n bs=(0,v,r)→i≤6→∃m,v=n+m*128 ^ i∧bs=zaS m++r∧(i=0∨0<m)∧m<128 ^ (7-i):=by
 induction bs with
 | nil=>intro i n v r h;simp[numP] at h
 | cons c bs ih=>
  intro i n v r h hi
  by_cases h1:(0<i∧c.toNat=0)∨i=7
  ·rw[zb0 h1] at h;simp at h
  ·
   have hp:0<128 ^ (7-(i+1)):=Nat.pow_pos (by omega)
   have e1:7-i=7-(i+1)+1:=by omega
   by_cases h2:c.toNat<128
   ·
    rw[zcz h1 h2] at h
    simp only[Prod.mk.injEq,true_and] at h
    obtain⟨rfl,rfl⟩:=h
    refine⟨c.toNat,by rw[Nat.mod_eq_of_lt h2],?_,by omega,?_⟩
    ·rw[zdS h2,UInt8.ofNat_toNat];rfl
    ·rw[e1,Nat.pow_succ];omega
   ·
    rw[zb1 h1 h2] at h
    have hi6:i≠6:=by
     intro e6
     subst e6
     cases bs with
     | nil=>simp[numP] at h
     | cons d ds=>rw[zb0 (Or.inr rfl)] at h;simp at h
    obtain⟨m,hv,hb,hm0,hm⟩:=ih (i+1) _ v r h (by omega)
    have hm':0<m:=by omega
    have hc:=zbA c
    refine⟨c.toNat%128+128*m,?_,?_,by omega,?_⟩
    ·rw[hv,Nat.add_mul,Nat.pow_succ,Nat.add_assoc,Nat.mul_comm (128 ^ i) 128,←Nat.mul_assoc,Nat.mul_comm m 128]
    ·rw[zeH (by omega),show (c.toNat%128+128*m)/128=m by omega,show 128+(c.toNat%128+128*m)%128=c.toNat by omega,UInt8.ofNat_toNat,List.cons_append,←hb]
    ·rw[e1,Nat.pow_succ];omega
theorem zgK{bs r:List UInt8}{v:Nat}(h:numP 0 0 bs=(0,v,r)):v<128 ^ 7:=by
 obtain⟨m,hv,_,_,hm⟩:=zfr bs 0 0 v r h (by omega)
 simp at hv hm
 omega
theorem zbn{bs r:List UInt8}{v:Nat}(h:numP 0 0 bs=(0,v,r)):bs=zaS v++r:=by
 obtain⟨m,hv,hb,_,_⟩:=zfr bs 0 0 v r h (by omega)
 simp at hv
 rw[hv];exact hb
theorem zcA(bs:List UInt8):∀i n,(numP i n bs).1=0∨(((numP i n bs).1=4∨(numP i n bs).1=5)∧(numP i n bs).2.1=0):=by
 induction bs with
 | nil=>intro i n;simp[numP]
 | cons c bs ih=>
  intro i n
  by_cases h1:(0<i∧c.toNat=0)∨i=7
  ·rw[zb0 h1];simp
  ·
   by_cases h2:c.toNat<128
   ·rw[zcz h1 h2];simp
   ·rw[zb1 h1 h2];exact ih _ _
def zcx(last:Int)(run:Nat):List Int→List UInt8
 | []=>[]
 | [x]=>zaS (run+1)++zaS (zig (x-last))
 | x::y::l=>if x=y then zcx last (run+1) (y::l) else zaS (run+1)++(zaS (zig (x-last))++zcx x 0 (y::l))
theorem zdU(last:Int)(x:Int)(rest:List Int)(h:rest.head?≠some x):∀m run,zcx last run (List.replicate (m+1) x++rest)=zaS (run+m+1)++(zaS (zig (x-last))++zcx x 0 rest):=by
 intro m
 induction m with
 | zero=>
  intro run
  cases rest with
  | nil=>simp[zcx]
  | cons y l=>
   have hne:¬x=y:=fun e=>h (by simp[e])
   rw[List.replicate_one,List.singleton_append,zcx,if_neg hne]
 | succ m ih=>
  intro run
  rw[List.replicate_succ,List.replicate_succ,List.cons_append,List.cons_append,zcx,if_pos rfl,←List.cons_append,←List.replicate_succ,ih (run+1)]
  congr 2
  omega
def blkP:Nat→List Int→Int→List UInt8→Int×List Int×List UInt8
 | 0,acc,_,bs=>(0,acc,bs)
 | f+1,acc,last,bs=>if 16≤acc.length then (0,acc,bs) else
  let a:=numP 0 0 bs
  if a.1≠0 then (a.1,acc,a.2.2) else
  let z:=numP 0 0 a.2.2
  if z.1≠0 then (z.1,acc,z.2.2) else
  if a.2.1<1∨16-acc.length<a.2.1∨(0<acc.length∧last+zag z.2.1=last) then (4,acc,z.2.2) else
  blkP f (acc++List.replicate a.2.1 (last+zag z.2.1)) (last+zag z.2.1) z.2.2
theorem zdV{f:Nat}{acc:List Int}{last:Int}{bs:List UInt8}(h:16≤acc.length):blkP f acc last bs=(0,acc,bs):=by
 cases f with
 | zero=>rfl
 | succ f=>rw[blkP,if_pos h]
theorem zgL{f:Nat}{acc:List Int}{last:Int}{bs r:List UInt8}{e:Int}{k:Nat}(h:¬16≤acc.length)(h1:numP 0 0 bs=(e,k,r))(he:e≠0):blkP (f+1) acc last bs=(e,acc,r):=by
 rw[blkP,if_neg h]
 simp only[h1]
 rw[if_pos he]
theorem zgM{f:Nat}{acc:List Int}{last:Int}{bs r r2:List UInt8}{e:Int}{k z:Nat}(h:¬16≤acc.length)(h1:numP 0 0 bs=(0,k,r))(h2:numP 0 0 r=(e,z,r2))(he:e≠0):blkP (f+1) acc last bs=(e,acc,r2):=by
 rw[blkP,if_neg h]
 simp only[h1,h2]
 rw[if_neg (by simp),if_pos he]
theorem zgN{f:Nat}{acc:List Int}{last:Int}{bs r r2:List UInt8}{k z:Nat}(h:¬16≤acc.length)(h1:numP 0 0 bs=(0,k,r))(h2:numP 0 0 r=(0,z,r2))(hc:k<1∨16-acc.length<k∨(0<acc.length∧last+zag z=last)):blkP (f+1) acc last bs=(4,acc,r2):=by
 rw[blkP,if_neg h]
 simp only[h1,h2]
 rw[if_neg (by simp),if_neg (by simp),if_pos hc]
theorem zgO{f:Nat}{acc:List Int}{last:Int}{bs r r2:List UInt8}{k z:Nat}(h:¬16≤acc.length)(h1:numP 0 0 bs=(0,k,r))(h2:numP 0 0 r=(0,z,r2))(hc:¬(k<1∨16-acc.length<k∨(0<acc.length∧last+zag z=last))):blkP (f+1) acc last bs=blkP f (acc++List.replicate k (last+zag z)) (last+zag z) r2:=by
 rw[blkP,if_neg h]
 simp only[h1,h2]
 rw[if_neg (by simp),if_neg (by simp),if_neg hc]
theorem zip:∀(f:Nat) (acc:List Int) (last:Int) (bs r:List UInt8) (d:List Int),blkP f acc last bs=(0,d,r)→16≤f+acc.length→acc.length≤16→∃t,d=acc++t∧d.length=16∧bs=zcx last 0 t++r∧(acc=[]∨t.head?≠some last):=by
 intro f
 induction f with
 | zero=>
  intro acc last bs r d h h1 h2
  simp only[blkP,Prod.mk.injEq,true_and] at h
  obtain⟨rfl,rfl⟩:=h
  exact⟨[],by simp,by omega,by simp[zcx],Or.inr (by simp)⟩
 | succ f ih=>
  intro acc last bs r d h h1 h2
  by_cases hl:16≤acc.length
  ·
   rw[zdV hl] at h
   simp only[Prod.mk.injEq,true_and] at h
   obtain⟨rfl,rfl⟩:=h
   exact⟨[],by simp,by omega,by simp[zcx],Or.inr (by simp)⟩
  ·
   obtain⟨e1,k,r1,p1⟩:∃e k r1,numP 0 0 bs=(e,k,r1):=⟨_,_,_,rfl⟩
   by_cases he1:e1=0
   ·
    subst he1
    obtain⟨e2,z,r2,p2⟩:∃e z r2,numP 0 0 r1=(e,z,r2):=⟨_,_,_,rfl⟩
    by_cases he2:e2=0
    ·
     subst he2
     by_cases hc:k<1∨16-acc.length<k∨(0<acc.length∧last+zag z=last)
     ·rw[zgN hl p1 p2 hc] at h;simp at h
     ·
      rw[zgO hl p1 p2 hc] at h
      obtain⟨t,hd,hdl,hb,ht⟩:=ih _ _ _ _ _ h (by simp;omega) (by simp;omega)
      have hk:0<k:=by omega
      have ht':t.head?≠some (last+zag z):=by
       rcases ht with ht|ht
       ·simp at ht;omega
       ·exact ht
      obtain⟨m,rfl⟩:∃m,k=m+1:=⟨k-1,by omega⟩
      refine⟨List.replicate (m+1) (last+zag z)++t,by rw[hd,List.append_assoc],hdl,?_,?_⟩
      ·
       rw[zdU _ _ _ ht',show last+zag z-last=zag z by omega,zgJ,zbn p1,zbn p2,hb]
       simp
      ·
       by_cases ha:acc=[]
       ·exact Or.inl ha
       ·
        refine Or.inr ?_
        have:0<acc.length:=List.length_pos_iff.2 ha
        rw[List.replicate_succ,List.cons_append,List.head?_cons]
        intro e
        injection e with e
        exact hc (Or.inr (Or.inr ⟨this,e⟩))
    ·
     rw[zgM hl p1 p2 he2] at h
     simp only[Prod.mk.injEq] at h
     exact absurd h.1 he2
   ·
    rw[zgL hl p1 he1] at h
    simp only[Prod.mk.injEq] at h
    exact absurd h.1 he1
end Go.Proofs.YtflonfcemlfbdaaDoor
namespace Go.Proofs.YtflonfcemlfbdaaDoor
open Go Go.RowKit Go.ChangeShapes Go.WideShapes Go.Deep
set_option maxHeartbeats 8000000
set_option maxRecDepth 100000
set_option linter.unusedVariables false
section
variable {H:Type} {enc:TypeId × Value→H} {w:World} {held:Bool}
theorem zfZ{P:Program}{e:TypeId}(he:P.underlying e=some (.int .u8)){n:Nat}{v:Value}{d:DataW H}{p:List MemPlace}(h:DataW.trod enc P w 0 (fun _=>true) held n e [v]=some (d,p)):∃z,zc5 v z:=by
 obtain⟨a,e0,_,wa⟩:=DataW.trod_int he h
 simp only[List.cons.injEq,and_true] at e0
 simp[Lit.wf,IntKind.min,IntKind.max,IntKind.signed,IntKind.bits] at wa
 refine⟨UInt8.ofNat a.toNat,?_⟩
 unfold zc5
 rw[e0]
 congr 1
 simp[UInt8.toNat_ofNat']
 omega
theorem zf0{r:Reach}{b0:Nat}{v:Value}{d:DataW H}{p:List MemPlace}(ok:Value.okWide Tryd.prog w r b0 24 v)(h:DataW.Trod enc Tryd.prog w 0 (fun _=>true) held 24 v d p)(hf:Fits Tryd.prog 24 d):∃zs,Ints w.heap.size w v zs:=by
 obtain⟨a,len,cap,rfl⟩:=okWide_slice Tryd.underlying24 ok
 obtain⟨n,hn⟩:=h
 exact zda hn hf
theorem Tryd.cells5:Tryd.prog.cellsOf 5=1:=by kernel_rfl
theorem Tryd.bytes5:Tryd.prog.bytesOf 5=1:=by kernel_rfl
theorem zeI{n:Nat}{v:Value}{d:DataW H}{p:List MemPlace}(h:DataW.trod enc Tryd.prog w 0 (fun _=>true) held n 25 [v]=some (d,p))(hf:Fits Tryd.prog 25 d):∃zs,BytesR w.heap.size w v zs:=
 zfj 140737488351232 1 Tryd.underlying25 Tryd.cells5 Tryd.bytes5 zkl zc5 (fun _ _ _ _ h _=>zfZ Tryd.underlying5 h) h hf
def zkn(B:Nat)(w:World)(v:Value)(img:List Int)(evs:List UInt8)(cnt:Int):Prop:=∃vi ve,v=.agg #[vi,ve,.int .i64 cnt]∧Ints B w vi img∧BytesR B w ve evs∧I64 cnt
theorem zf1{r:Reach}{b0:Nat}{v:Value}{d:DataW H}{p:List MemPlace}(ok:Value.okWide Tryd.prog w r b0 27 v)(h:DataW.Trod enc Tryd.prog w 0 (fun _=>true) held 27 v d p)(hf:Fits Tryd.prog 27 d):∃img evs cnt,zkn w.heap.size w v img evs cnt:=by
 obtain⟨cs,rfl,hl,k,hk⟩:=zfk Tryd.underlying27 (by kernel_rfl) ok h hf
 obtain⟨c0,c1,c2,rfl⟩:=len3 (hl.trans (by kernel_rfl))
 obtain⟨d0,p0,h0,f0⟩:=hk 0 _ rfl
 obtain⟨d1,p1,h1,f1⟩:=hk 1 _ rfl
 obtain⟨d2,p2,h2,f2⟩:=hk 2 _ rfl
 obtain⟨img,hi⟩:=zda h0 f0
 obtain⟨evs,he⟩:=zeI h1 f1
 obtain⟨z2,rfl,g2⟩:=zby Tryd.underlying3 h2
 exact⟨img,evs,z2,c0,c1,rfl,hi,he,g2⟩
end
def EvC(B:Nat)(w:World)(cs:List Value)(x:Ev):Prop:=∃ad cd,cs=[.int .i64 x.at_,.int .i64 x.kind,.slice ad x.data.length cd]∧I64 x.at_∧I64 x.kind∧Ints B w (.slice ad x.data.length cd) x.data
def EvsR(B:Nat)(w:World)(v:Value)(l:List Ev):Prop:=SlN 3 3518437208780 B w (EvC B w) v l
theorem EvsR.to{B B':Nat}{w w':World}{v:Value}{l:List Ev}(hB:B≤B')(hw:Same B w w')(h:EvsR B w v l):EvsR B' w' v l:=
 SlN.to (Nat.le_refl _) hB hw (fun _ _ ⟨ad,cd,h1,h2,h3,h4⟩=>⟨ad,cd,h1,h2,h3,h4.to hB hw⟩) h
theorem EvsR.imp{B:Nat}{w w':World}{v:Value}{l:List Ev}(hw:Imp B w w')(h:EvsR B w v l):EvsR B w' v l:=
 SlN.imp hw (fun _ _ ⟨ad,cd,h1,h2,h3,h4⟩=>⟨ad,cd,h1,h2,h3,h4.imp hw⟩) h
def evW(k:Int):Int:=if k=2 then 16 else if k=3 then 1 else 0
def evF(p:Option Ev)(x:Ev):Int:=
 if x.kind<1∨3<x.kind then 3 else
 if x.at_<0∨3000≤x.at_∨x.data.any oddB=true then 2 else
 if (x.data.length:Int)≠evW x.kind then 1 else
 match p with
 | none=>0
 | some p=>if x.at_<p.at_∨(p.at_=x.at_∧x.kind≤p.kind) then 9 else 0
theorem evF3{p:Option Ev}{x:Ev}(h:x.kind<1∨3<x.kind):evF p x=3:=by unfold evF;rw[if_pos h]
theorem evF2{p:Option Ev}{x:Ev}(h:¬(x.kind<1∨3<x.kind))(h2:x.at_<0∨3000≤x.at_∨x.data.any oddB=true):evF p x=2:=by unfold evF;rw[if_neg h,if_pos h2]
theorem evF1{p:Option Ev}{x:Ev}(h:¬(x.kind<1∨3<x.kind))(h2:¬(x.at_<0∨3000≤x.at_∨x.data.any oddB=true))(h3:(x.data.length:Int)≠evW x.kind):evF p x=1:=by unfold evF;rw[if_neg h,if_neg h2,if_pos h3]
theorem evFp{p:Option Ev}{x:Ev}(h:¬(x.kind<1∨3<x.kind))(h2:¬(x.at_<0∨3000≤x.at_∨x.data.any oddB=true))(h3:(x.data.length:Int)=evW x.kind):evF p x=match p with
 | none=>0
 | some p=>if x.at_<p.at_∨(p.at_=x.at_∧x.kind≤p.kind) then 9 else 0:=by unfold evF;rw[if_neg h,if_neg h2,if_neg (fun e=>e h3)]
theorem zfs{p:Option Ev}{x:Ev}(h:evF p x=0):1≤x.kind∧x.kind≤3∧0≤x.at_∧x.at_<3000∧x.data.any oddB=false∧(x.data.length:Int)=evW x.kind:=by
 unfold evF at h
 split at h
 ·omega
 ·
  split at h
  ·omega
  ·
   split at h
   ·omega
   ·
    rename_i h1 h2 h3
    refine⟨by omega,by omega,by omega,by omega,?_,by omega⟩
    cases e:x.data.any oddB with
    | false=>rfl
    | true=>exact absurd (Or.inr (Or.inr e)) h2
def fAt(l:List Ev)(k:Nat):Int:=match l[k]? with
 | none=>0
 | some x=>evF (if k=0 then none else l[k-1]?) x
def EvRes(l:List Ev)(c:Int):Prop:=(1000<l.length∧c=1)∨(l.length≤1000∧∃k,k<l.length∧(∀j,j<k→fAt l j=0)∧fAt l k=c∧c≠0)∨(l.length≤1000∧(∀j,j<l.length→fAt l j=0)∧c=0)
theorem EvRes.det{l:List Ev}{c d:Int}(h:EvRes l c)(k:EvRes l d):c=d:=by
 rcases h with⟨h1,rfl⟩|⟨h1,i,hi,h2,rfl,h4⟩|⟨h1,h2,rfl⟩
 ·
  rcases k with⟨k1,rfl⟩|⟨k1,_⟩|⟨k1,_⟩
  ·rfl
  ·omega
  ·omega
 ·
  rcases k with⟨k1,rfl⟩|⟨k1,j,hj,k2,rfl,k4⟩|⟨k1,k2,rfl⟩
  ·omega
  ·
   rcases Nat.lt_trichotomy i j with e|e|e
   ·exact absurd (k2 i e) h4
   ·rw[e]
   ·exact absurd (h2 j e) k4
  ·exact absurd (k2 i hi) h4
 ·
  rcases k with⟨k1,rfl⟩|⟨k1,j,hj,k2,rfl,k4⟩|⟨k1,k2,rfl⟩
  ·omega
  ·exact absurd (h2 j hj) k4
  ·rfl
theorem zgP{l:List Ev}{k:Nat}{c:Int}(hl:l.length≤1000)(hk:k<l.length)(h:∀j,j<k→fAt l j=0)(hc:fAt l k=c)(h0:c≠0):EvRes l c:=Or.inr (Or.inl ⟨hl,k,hk,h,hc,h0⟩)
theorem zgQ{l:List Ev}{k:Nat}(h:∀j,j<k→fAt l j=0)(h1:fAt l k=0):∀j,j<k+1→fAt l j=0:=by
 intro j hj
 rcases Nat.lt_succ_iff_lt_or_eq.1 hj with hj|rfl
 ·exact h j hj
 ·exact h1
theorem zdW{l:List Ev}{m:Nat}(h:m<l.length)(h0:fAt l m=0):1≤l[m].kind∧l[m].kind≤3∧0≤l[m].at_∧l[m].at_<3000:=by
 unfold fAt at h0
 rw[List.getElem?_eq_getElem h] at h0
 have:=zfs h0
 exact⟨this.1,this.2.1,this.2.2.1,this.2.2.2.1⟩
structure Tab(w:World):Prop where
 c0:w.cell? ⟨0,0,none⟩=some (.int .i64 0)
 c1:w.cell? ⟨0,1,none⟩=some (.int .i64 0)
 c2:w.cell? ⟨0,2,none⟩=some (.int .i64 16)
 c3:w.cell? ⟨0,3,none⟩=some (.int .i64 1)
 lt:0<w.heap.size
theorem Tab.to{w w':World}(h:Tab w)(hb:Below w.heap.size w w'):Tab w':=
 ⟨(zae hb _ _ h.lt).trans h.c0,(zae hb _ _ h.lt).trans h.c1,(zae hb _ _ h.lt).trans h.c2,(zae hb _ _ h.lt).trans h.c3,Nat.lt_of_lt_of_le h.lt hb.size⟩
def zje(l:List Ev)(w:World)(e:Ending)(w':World):Prop:=∃c,EvRes l c∧e=.returned (.int .i64 c)∧Below w.heap.size w w'
theorem zgR(z:Int)(w:World):Calls Tryd.prog 72 #[.int .i64 z] w fun e w'=>e=.returned (.bool (!oddB z))∧w=w':=by
 by_cases h1:-1099511627776≤z
 ·
  by_cases h2:z≤1099511627776
  ·
   rw[zcG ⟨h1,h2⟩]
   go_enter Tryd.func72,Tryd.ntmps72
   go_wp2
   go_ret
   simp_all
  ·
   rw[zcy (by omega)]
   go_enter Tryd.func72,Tryd.ntmps72
   go_wp2
   go_ret
   simp_all
 ·
  rw[zcy (by omega)]
  go_enter Tryd.func72,Tryd.ntmps72
  go_wp2
  go_ret
  simp_all
theorem zjy:zfp 71 oddB:=by
 intro z W h1 h2
 have HW:=Lib.hid (zgR z)
 go_enter Tryd.func71,Tryd.ntmps71
 go_wp2_with (go_at_call 72;refine(HW.out _).mono ?_;rintro e w' ⟨rfl,rfl⟩)
 go_ret
 exact⟨zaZ (by simp),rfl⟩
def zko(zs:List Int)(w:World)(e:Ending)(w':World):Prop:=(e=.returned (.bool true)∧Hid (zs.any oddB=true)∧∃n,w'=w.drewN n)∨(e=.returned (.bool false)∧Hid (zs.any oddB=false)∧∃n,w'=w.drewN n)
theorem zkp{F:FuncId}{args:Array Value}{zs:List Int}{w:World}(h:Calls Tryd.prog F args w fun e w'=>e=.returned (.bool (zs.any oddB))∧∃n,w'=w.drewN n):Calls Tryd.prog F args w (zko zs w):=by
 rcases Bool.eq_false_or_eq_true (zs.any oddB) with hq|hq
 ·exact h.mono fun e w' ⟨he,hn⟩=>Or.inl ⟨by rw[he,hq],Lib.hid hq,hn⟩
 ·exact h.mono fun e w' ⟨he,hn⟩=>Or.inr ⟨by rw[he,hq],Lib.hid hq,hn⟩
theorem zaU(v:Value)(zs:List Int)(w:World)(hf:Ints w.heap.size w v zs):Calls Tryd.prog 46 #[v,.func (.func 71) #[] #[]] w (zko zs w):=
 zkp (zbZ _ oddB (enters_of Tryd.func71 (by kernel_rfl) rfl) zjy v zs w hf)
theorem zeJ(v:Value)(l:List Ev)(w:World)(hf:EvsR w.heap.size w v l)(ht:Tab w):Calls Tryd.prog 53 #[v] w (zje l w):=by
 obtain⟨a,cap,rfl,hl,hl2,hc⟩:=hf
 have HC:=Lib.hid hc
 have HT:=Lib.hid ht
 clear hc ht
 by_cases h1000:1000<l.length
 ·
  have h1:(1000:Int)<(l.length:Int):=by omega
  go_enter Tryd.func53,Tryd.ntmps53
  go_wp2
  go_ret
  exact⟨1,Or.inl ⟨h1000,rfl⟩,rfl,Below.refl _ _⟩
 ·
  have h1:¬(1000:Int)<(l.length:Int):=by omega
  have h1000':l.length≤1000:=by omega
  go_enter Tryd.func53,Tryd.ntmps53
  go_wp2
  go_loopw [10] (fun i wr =>∃k:Nat,k≤l.length∧i=.int .i64 k∧Hid (∀j,j<k→fAt l j=0)∧Below w.heap.size w wr) (fun i _=>l.length-(intOf i).toNat)
  case atStart=>exact⟨0,Nat.zero_le _,rfl,Lib.hid fun j hj=>absurd hj (Nat.not_lt_zero _),Below.refl _ _⟩
  case round=>
   obtain⟨k,hk,rfl,A,hb⟩:=hrel
   by_cases hlt:k<l.length
   ·
    obtain⟨b,off,cs,ha,hbb,hcs,hcell,ad,cd,hcs2,i1,i2,hint⟩:=HC.out k hlt
    have HX:=Lib.hid (fun c (hc:fAt l k=c) (h0:c≠0)=>zgP h1000' hlt A.out hc h0)
    have HG:=Lib.hid (fun (hc:fAt l k=0)=>zgQ A.out hc)
    subst ha hcs2
    have HT2:=Lib.hid (HT.out.to hb)
    have HI:=Lib.hid (hint.to hb.size (zae hb))
    have HB:=Lib.hid hb
    have r0:wr.cell? ⟨b,off+k*3,none⟩=some (.int .i64 l[k].at_):=(zae hb _ _ hbb).trans (hcell 0 (by simp))
    have r1:wr.cell? ⟨b,off+k*3+1,none⟩=some (.int .i64 l[k].kind):=(zae hb _ _ hbb).trans (hcell 1 (by simp))
    have r2:wr.cell? ⟨b,off+k*3+2,none⟩=some (.slice ad l[k].data.length cd):=(zae hb _ _ hbb).trans (hcell 2 (by simp))
    have hwb:=hb.size
    have hxl:l[k]?=some l[k]:=List.getElem?_eq_getElem hlt
    have e0:fAt l k=evF (if k=0 then none else l[k-1]?) l[k]:=by unfold fAt;rw[hxl]
    rw[e0] at HX HG
    clear hint hcell hb i1 i2 e0 hxl
    generalize l[k]=x at *
    obtain⟨at_,kd,data⟩:=x
    simp only at r0 r1 r2 HI
    have t1:=HT2.out.c1
    have t2:=HT2.out.c2
    have t3:=HT2.out.c3
    have tlt:=HT2.out.lt
    by_cases k1:kd<1
    ·
     go_wp2
     go_ret
     exact⟨3,HX.out 3 (evF3 (Or.inl k1)) (by decide),rfl,(by repeat (first|exact HB.out|refine below_drewN ?_ _|refine Below.alloc ?_ hwb _))⟩
    by_cases k3:3<kd
    ·
     go_wp2
     go_ret
     exact⟨3,HX.out 3 (evF3 (Or.inr k3)) (by decide),rfl,(by repeat (first|exact HB.out|refine below_drewN ?_ _|refine Below.alloc ?_ hwb _))⟩
    by_cases a0:at_<0
    ·
     go_wp2
     go_ret
     exact⟨2,HX.out 2 (evF2 (by simp;omega) (Or.inl a0)) (by decide),rfl,(by repeat (first|exact HB.out|refine below_drewN ?_ _|refine Below.alloc ?_ hwb _))⟩
    by_cases a3:3000≤at_
    ·
     go_wp2
     go_ret
     exact⟨2,HX.out 2 (evF2 (by simp;omega) (Or.inr (Or.inl a3))) (by decide),rfl,(by repeat (first|exact HB.out|refine below_drewN ?_ _|refine Below.alloc ?_ hwb _))⟩
    have hkd:kd=1∨kd=2∨kd=3:=by omega
    clear k1 k3
    cases k with
    | zero=>
     rw[if_pos rfl] at HX HG
     simp only[Nat.zero_mul,Nat.add_zero] at r0 r1 r2
     rcases hkd with rfl|rfl|rfl
     ·
      skip
      go_wp2_with (go_at_call 46;refine(zaU _ data _ ?_).mono ?_;(exact HI.out.to (by simp) (zaw _ _));rintro e w' (⟨rfl,ho,n1,rfl⟩|⟨rfl,ho,n1,rfl⟩))
      ·
       go_ret
       exact⟨2,HX.out 2 (evF2 (by simp) (Or.inr (Or.inr ho.out))) (by decide),rfl,(by repeat (first|exact HB.out|refine below_drewN ?_ _|refine Below.alloc ?_ hwb _))⟩
      have HN:=Lib.hid (show ¬(at_<0∨3000≤at_∨data.any oddB=true) by rw[ho.out];simp;omega)
      clear ho
      by_cases hlen:(data.length:Int)=0
      ·
       have bl:((data.length:Int) != 0)=false:=by rw[bne_eq_false_iff_eq];exact hlen
       have HL:=Lib.hid hlen
       clear hlen
       have HGG:=Lib.hid (HG.out (evFp (by simp) HN.out HL.out))
       go_quiet (fail)
       go_wp2_with fail
       go_quiet (fail)
       go_wp2
       go_roundw
       case rel=>exact⟨1,by omega,by go_num,HGG,(by repeat (first|exact HB.out|refine below_drewN ?_ _|refine Below.alloc ?_ hwb _))⟩
       case measure=>simp[intOf];omega
      ·
       have bl:((data.length:Int) != 0)=true:=by rw[bne_iff_ne];exact hlen
       have HL:=Lib.hid hlen
       clear hlen
       go_quiet (fail)
       go_wp2
       go_ret
       exact⟨1,HX.out 1 (evF1 (by simp) HN.out HL.out) (by decide),rfl,(by repeat (first|exact HB.out|refine below_drewN ?_ _|refine Below.alloc ?_ hwb _))⟩
     ·
      skip
      go_wp2_with (go_at_call 46;refine(zaU _ data _ ?_).mono ?_;(exact HI.out.to (by simp) (zaw _ _));rintro e w' (⟨rfl,ho,n1,rfl⟩|⟨rfl,ho,n1,rfl⟩))
      ·
       go_ret
       exact⟨2,HX.out 2 (evF2 (by simp) (Or.inr (Or.inr ho.out))) (by decide),rfl,(by repeat (first|exact HB.out|refine below_drewN ?_ _|refine Below.alloc ?_ hwb _))⟩
      have HN:=Lib.hid (show ¬(at_<0∨3000≤at_∨data.any oddB=true) by rw[ho.out];simp;omega)
      clear ho
      by_cases hlen:(data.length:Int)=16
      ·
       have bl:((data.length:Int) != 16)=false:=by rw[bne_eq_false_iff_eq];exact hlen
       have HL:=Lib.hid hlen
       clear hlen
       have HGG:=Lib.hid (HG.out (evFp (by simp) HN.out HL.out))
       go_quiet (fail)
       go_wp2_with fail
       go_quiet (fail)
       go_wp2
       go_roundw
       case rel=>exact⟨1,by omega,by go_num,HGG,(by repeat (first|exact HB.out|refine below_drewN ?_ _|refine Below.alloc ?_ hwb _))⟩
       case measure=>simp[intOf];omega
      ·
       have bl:((data.length:Int) != 16)=true:=by rw[bne_iff_ne];exact hlen
       have HL:=Lib.hid hlen
       clear hlen
       go_quiet (fail)
       go_wp2
       go_ret
       exact⟨1,HX.out 1 (evF1 (by simp) HN.out HL.out) (by decide),rfl,(by repeat (first|exact HB.out|refine below_drewN ?_ _|refine Below.alloc ?_ hwb _))⟩
     ·
      skip
      go_wp2_with (go_at_call 46;refine(zaU _ data _ ?_).mono ?_;(exact HI.out.to (by simp) (zaw _ _));rintro e w' (⟨rfl,ho,n1,rfl⟩|⟨rfl,ho,n1,rfl⟩))
      ·
       go_ret
       exact⟨2,HX.out 2 (evF2 (by simp) (Or.inr (Or.inr ho.out))) (by decide),rfl,(by repeat (first|exact HB.out|refine below_drewN ?_ _|refine Below.alloc ?_ hwb _))⟩
      have HN:=Lib.hid (show ¬(at_<0∨3000≤at_∨data.any oddB=true) by rw[ho.out];simp;omega)
      clear ho
      by_cases hlen:(data.length:Int)=1
      ·
       have bl:((data.length:Int) != 1)=false:=by rw[bne_eq_false_iff_eq];exact hlen
       have HL:=Lib.hid hlen
       clear hlen
       have HGG:=Lib.hid (HG.out (evFp (by simp) HN.out HL.out))
       go_quiet (fail)
       go_wp2_with fail
       go_quiet (fail)
       go_wp2
       go_roundw
       case rel=>exact⟨1,by omega,by go_num,HGG,(by repeat (first|exact HB.out|refine below_drewN ?_ _|refine Below.alloc ?_ hwb _))⟩
       case measure=>simp[intOf];omega
      ·
       have bl:((data.length:Int) != 1)=true:=by rw[bne_iff_ne];exact hlen
       have HL:=Lib.hid hlen
       clear hlen
       go_quiet (fail)
       go_wp2
       go_ret
       exact⟨1,HX.out 1 (evF1 (by simp) HN.out HL.out) (by decide),rfl,(by repeat (first|exact HB.out|refine below_drewN ?_ _|refine Below.alloc ?_ hwb _))⟩
    | succ m=>
     have hm:m<l.length:=by omega
     rw[if_neg (by omega),Nat.add_sub_cancel,List.getElem?_eq_getElem hm] at HX HG
     obtain⟨b',off',cs',ha',hbb',hcs',hcell',ad',cd',hcs2',i1',i2',hint'⟩:=HC.out m hm
     simp only[Option.some.injEq,Addr.mk.injEq,and_true] at ha'
     obtain⟨rfl,rfl⟩:=ha'
     subst hcs2'
     have p0:wr.cell? ⟨b,off+m*3,none⟩=some (.int .i64 l[m].at_):=(zae HB.out _ _ hbb').trans (hcell' 0 (by simp))
     have p1:wr.cell? ⟨b,off+m*3+1,none⟩=some (.int .i64 l[m].kind):=(zae HB.out _ _ hbb').trans (hcell' 1 (by simp))
     clear hcell' hint' i1' i2' hcs'
     generalize l[m]=px at *
     obtain⟨pat,pkd,pda⟩:=px
     simp only at p0 p1
     have hg:decide ((0:Int)<(m:Int)+1)=true:=by rw[decide_eq_true_iff];omega
     have hm0:(0:Int)≤(m:Int):=by omega
     have hm1:(m:Int)<(l.length:Int):=by omega
     have hbw:b<wr.heap.size:=by omega
     have hwm:IntKind.i64.wrap (m:Int)=m:=IntWalk.i64_in _ (by omega)
     rcases hkd with rfl|rfl|rfl
     ·
      skip
      go_wp2_with (go_at_call 46;refine(zaU _ data _ ?_).mono ?_;(exact HI.out.to (by simp) (zaw _ _));rintro e w' (⟨rfl,ho,n1,rfl⟩|⟨rfl,ho,n1,rfl⟩))
      ·
       go_ret
       exact⟨2,HX.out 2 (evF2 (by simp) (Or.inr (Or.inr ho.out))) (by decide),rfl,(by repeat (first|exact HB.out|refine below_drewN ?_ _|refine Below.alloc ?_ hwb _))⟩
      have HN:=Lib.hid (show ¬(at_<0∨3000≤at_∨data.any oddB=true) by rw[ho.out];simp;omega)
      clear ho
      by_cases hlen:(data.length:Int)=0
      ·
       have bl:((data.length:Int) != 0)=false:=by rw[bne_eq_false_iff_eq];exact hlen
       have HL:=Lib.hid hlen
       clear hlen
       have hev:=evFp (p:=some ⟨pat,pkd,pda⟩) (x:=⟨at_,1,data⟩) (by simp) HN.out HL.out
       simp only at hev
       rcases (show at_<pat∨(pat=at_∧1≤pkd)∨(pat=at_∧pkd<1)∨pat<at_ by omega) with o|⟨o,o2⟩|⟨o,o2⟩|o
       ·
        skip
        have HR:=Lib.hid (HX.out 9 (hev.trans (if_pos (by omega))) (by decide))
        have g1:decide (at_<pat)=true:=by rw[decide_eq_true_iff];exact o
        clear hev o
        go_quiet (fail)
        go_wp2_with fail
        go_quiet (fail)
        go_wp2
        go_ret
        exact⟨9,HR.out,rfl,(by repeat (first|exact HB.out|refine below_drewN ?_ _|refine Below.alloc ?_ hwb _))⟩
       ·
        skip
        have HR:=Lib.hid (HX.out 9 (hev.trans (if_pos (by omega))) (by decide))
        subst o
        have g1:decide (pat<pat)=false:=by simp
        have g3:decide ((1:Int)≤pkd)=true:=by rw[decide_eq_true_iff];exact o2
        clear hev o2
        go_quiet (fail)
        go_wp2_with fail
        go_quiet (fail)
        go_wp2
        go_ret
        exact⟨9,HR.out,rfl,(by repeat (first|exact HB.out|refine below_drewN ?_ _|refine Below.alloc ?_ hwb _))⟩
       ·
        skip
        have HR:=Lib.hid (HG.out (hev.trans (if_neg (by omega))))
        subst o
        have g1:decide (pat<pat)=false:=by simp
        have g3:decide ((1:Int)≤pkd)=false:=by rw[decide_eq_false_iff_not];omega
        clear hev o2
        go_quiet (fail)
        go_wp2_with fail
        go_quiet (fail)
        go_wp2
        go_roundw
        case rel=>exact⟨m+1+1,by omega,by go_num,HR,(by repeat (first|exact HB.out|refine below_drewN ?_ _|refine Below.alloc ?_ hwb _))⟩
        case measure=>simp[intOf];omega
       ·
        skip
        have HR:=Lib.hid (HG.out (hev.trans (if_neg (by omega))))
        have g1:decide (at_<pat)=false:=by rw[decide_eq_false_iff_not];omega
        have g2:(pat == at_)=false:=by rw[beq_eq_false_iff_ne];omega
        clear hev o
        go_quiet (fail)
        go_wp2_with fail
        go_quiet (fail)
        go_wp2
        go_roundw
        case rel=>exact⟨m+1+1,by omega,by go_num,HR,(by repeat (first|exact HB.out|refine below_drewN ?_ _|refine Below.alloc ?_ hwb _))⟩
        case measure=>simp[intOf];omega
      ·
       have bl:((data.length:Int) != 0)=true:=by rw[bne_iff_ne];exact hlen
       have HL:=Lib.hid hlen
       clear hlen
       go_quiet (fail)
       go_wp2
       go_ret
       exact⟨1,HX.out 1 (evF1 (by simp) HN.out HL.out) (by decide),rfl,(by repeat (first|exact HB.out|refine below_drewN ?_ _|refine Below.alloc ?_ hwb _))⟩
     ·
      skip
      go_wp2_with (go_at_call 46;refine(zaU _ data _ ?_).mono ?_;(exact HI.out.to (by simp) (zaw _ _));rintro e w' (⟨rfl,ho,n1,rfl⟩|⟨rfl,ho,n1,rfl⟩))
      ·
       go_ret
       exact⟨2,HX.out 2 (evF2 (by simp) (Or.inr (Or.inr ho.out))) (by decide),rfl,(by repeat (first|exact HB.out|refine below_drewN ?_ _|refine Below.alloc ?_ hwb _))⟩
      have HN:=Lib.hid (show ¬(at_<0∨3000≤at_∨data.any oddB=true) by rw[ho.out];simp;omega)
      clear ho
      by_cases hlen:(data.length:Int)=16
      ·
       have bl:((data.length:Int) != 16)=false:=by rw[bne_eq_false_iff_eq];exact hlen
       have HL:=Lib.hid hlen
       clear hlen
       have hev:=evFp (p:=some ⟨pat,pkd,pda⟩) (x:=⟨at_,2,data⟩) (by simp) HN.out HL.out
       simp only at hev
       rcases (show at_<pat∨(pat=at_∧2≤pkd)∨(pat=at_∧pkd<2)∨pat<at_ by omega) with o|⟨o,o2⟩|⟨o,o2⟩|o
       ·
        skip
        have HR:=Lib.hid (HX.out 9 (hev.trans (if_pos (by omega))) (by decide))
        have g1:decide (at_<pat)=true:=by rw[decide_eq_true_iff];exact o
        clear hev o
        go_quiet (fail)
        go_wp2_with fail
        go_quiet (fail)
        go_wp2
        go_ret
        exact⟨9,HR.out,rfl,(by repeat (first|exact HB.out|refine below_drewN ?_ _|refine Below.alloc ?_ hwb _))⟩
       ·
        skip
        have HR:=Lib.hid (HX.out 9 (hev.trans (if_pos (by omega))) (by decide))
        subst o
        have g1:decide (pat<pat)=false:=by simp
        have g3:decide ((2:Int)≤pkd)=true:=by rw[decide_eq_true_iff];exact o2
        clear hev o2
        go_quiet (fail)
        go_wp2_with fail
        go_quiet (fail)
        go_wp2
        go_ret
        exact⟨9,HR.out,rfl,(by repeat (first|exact HB.out|refine below_drewN ?_ _|refine Below.alloc ?_ hwb _))⟩
       ·
        skip
        have HR:=Lib.hid (HG.out (hev.trans (if_neg (by omega))))
        subst o
        have g1:decide (pat<pat)=false:=by simp
        have g3:decide ((2:Int)≤pkd)=false:=by rw[decide_eq_false_iff_not];omega
        clear hev o2
        go_quiet (fail)
        go_wp2_with fail
        go_quiet (fail)
        go_wp2
        go_roundw
        case rel=>exact⟨m+1+1,by omega,by go_num,HR,(by repeat (first|exact HB.out|refine below_drewN ?_ _|refine Below.alloc ?_ hwb _))⟩
        case measure=>simp[intOf];omega
       ·
        skip
        have HR:=Lib.hid (HG.out (hev.trans (if_neg (by omega))))
        have g1:decide (at_<pat)=false:=by rw[decide_eq_false_iff_not];omega
        have g2:(pat == at_)=false:=by rw[beq_eq_false_iff_ne];omega
        clear hev o
        go_quiet (fail)
        go_wp2_with fail
        go_quiet (fail)
        go_wp2
        go_roundw
        case rel=>exact⟨m+1+1,by omega,by go_num,HR,(by repeat (first|exact HB.out|refine below_drewN ?_ _|refine Below.alloc ?_ hwb _))⟩
        case measure=>simp[intOf];omega
      ·
       have bl:((data.length:Int) != 16)=true:=by rw[bne_iff_ne];exact hlen
       have HL:=Lib.hid hlen
       clear hlen
       go_quiet (fail)
       go_wp2
       go_ret
       exact⟨1,HX.out 1 (evF1 (by simp) HN.out HL.out) (by decide),rfl,(by repeat (first|exact HB.out|refine below_drewN ?_ _|refine Below.alloc ?_ hwb _))⟩
     ·
      skip
      go_wp2_with (go_at_call 46;refine(zaU _ data _ ?_).mono ?_;(exact HI.out.to (by simp) (zaw _ _));rintro e w' (⟨rfl,ho,n1,rfl⟩|⟨rfl,ho,n1,rfl⟩))
      ·
       go_ret
       exact⟨2,HX.out 2 (evF2 (by simp) (Or.inr (Or.inr ho.out))) (by decide),rfl,(by repeat (first|exact HB.out|refine below_drewN ?_ _|refine Below.alloc ?_ hwb _))⟩
      have HN:=Lib.hid (show ¬(at_<0∨3000≤at_∨data.any oddB=true) by rw[ho.out];simp;omega)
      clear ho
      by_cases hlen:(data.length:Int)=1
      ·
       have bl:((data.length:Int) != 1)=false:=by rw[bne_eq_false_iff_eq];exact hlen
       have HL:=Lib.hid hlen
       clear hlen
       have hev:=evFp (p:=some ⟨pat,pkd,pda⟩) (x:=⟨at_,3,data⟩) (by simp) HN.out HL.out
       simp only at hev
       rcases (show at_<pat∨(pat=at_∧3≤pkd)∨(pat=at_∧pkd<3)∨pat<at_ by omega) with o|⟨o,o2⟩|⟨o,o2⟩|o
       ·
        skip
        have HR:=Lib.hid (HX.out 9 (hev.trans (if_pos (by omega))) (by decide))
        have g1:decide (at_<pat)=true:=by rw[decide_eq_true_iff];exact o
        clear hev o
        go_quiet (fail)
        go_wp2_with fail
        go_quiet (fail)
        go_wp2
        go_ret
        exact⟨9,HR.out,rfl,(by repeat (first|exact HB.out|refine below_drewN ?_ _|refine Below.alloc ?_ hwb _))⟩
       ·
        skip
        have HR:=Lib.hid (HX.out 9 (hev.trans (if_pos (by omega))) (by decide))
        subst o
        have g1:decide (pat<pat)=false:=by simp
        have g3:decide ((3:Int)≤pkd)=true:=by rw[decide_eq_true_iff];exact o2
        clear hev o2
        go_quiet (fail)
        go_wp2_with fail
        go_quiet (fail)
        go_wp2
        go_ret
        exact⟨9,HR.out,rfl,(by repeat (first|exact HB.out|refine below_drewN ?_ _|refine Below.alloc ?_ hwb _))⟩
       ·
        skip
        have HR:=Lib.hid (HG.out (hev.trans (if_neg (by omega))))
        subst o
        have g1:decide (pat<pat)=false:=by simp
        have g3:decide ((3:Int)≤pkd)=false:=by rw[decide_eq_false_iff_not];omega
        clear hev o2
        go_quiet (fail)
        go_wp2_with fail
        go_quiet (fail)
        go_wp2
        go_roundw
        case rel=>exact⟨m+1+1,by omega,by go_num,HR,(by repeat (first|exact HB.out|refine below_drewN ?_ _|refine Below.alloc ?_ hwb _))⟩
        case measure=>simp[intOf];omega
       ·
        skip
        have HR:=Lib.hid (HG.out (hev.trans (if_neg (by omega))))
        have g1:decide (at_<pat)=false:=by rw[decide_eq_false_iff_not];omega
        have g2:(pat == at_)=false:=by rw[beq_eq_false_iff_ne];omega
        clear hev o
        go_quiet (fail)
        go_wp2_with fail
        go_quiet (fail)
        go_wp2
        go_roundw
        case rel=>exact⟨m+1+1,by omega,by go_num,HR,(by repeat (first|exact HB.out|refine below_drewN ?_ _|refine Below.alloc ?_ hwb _))⟩
        case measure=>simp[intOf];omega
      ·
       have bl:((data.length:Int) != 1)=true:=by rw[bne_iff_ne];exact hlen
       have HL:=Lib.hid hlen
       clear hlen
       go_quiet (fail)
       go_wp2
       go_ret
       exact⟨1,HX.out 1 (evF1 (by simp) HN.out HL.out) (by decide),rfl,(by repeat (first|exact HB.out|refine below_drewN ?_ _|refine Below.alloc ?_ hwb _))⟩
   ·
    obtain rfl:k=l.length:=by omega
    go_wp2
    go_ret
    exact⟨0,Or.inr (Or.inr ⟨h1000',A.out,rfl⟩),rfl,hb⟩
theorem zcf{F:FuncId}{args:Array Value}{zs:List Int}{w:World}(h:Calls Tryd.prog F args w fun e w'=>e=.returned (.bool (!zs.any oddB))∧∃n,w'=w.drewN n):Calls Tryd.prog F args w fun e w'=>(e=.returned (.bool false)∧Hid (zs.any oddB=true)∧∃n,w'=w.drewN n)∨(e=.returned (.bool true)∧Hid (zs.any oddB=false)∧∃n,w'=w.drewN n):=by
 rcases Bool.eq_false_or_eq_true (zs.any oddB) with hq|hq
 ·exact h.mono fun e w' ⟨he,hn⟩=>Or.inl ⟨by rw[he,hq];rfl,Lib.hid hq,hn⟩
 ·exact h.mono fun e w' ⟨he,hn⟩=>Or.inr ⟨by rw[he,hq];rfl,Lib.hid hq,hn⟩
theorem zbB(w:World):Calls Tryd.prog 65 #[.int .i64 1] w fun e w'=>e=.returned (.int .i64 0)∧w=w':=by
 go_enter Tryd.func65,Tryd.ntmps65
 go_wp2
 go_ret
 exact⟨rfl,rfl⟩
theorem zbC(w:World):Calls Tryd.prog 65 #[.int .i64 2] w fun e w'=>e=.returned (.int .i64 16)∧w=w':=by
 go_enter Tryd.func65,Tryd.ntmps65
 go_wp2
 go_ret
 exact⟨rfl,rfl⟩
theorem zbD(w:World):Calls Tryd.prog 65 #[.int .i64 3] w fun e w'=>e=.returned (.int .i64 1)∧w=w':=by
 go_enter Tryd.func65,Tryd.ntmps65
 go_wp2
 go_ret
 exact⟨rfl,rfl⟩
theorem zeK(v:Value)(l:List Ev)(w:World)(hf:EvsR w.heap.size w v l):Calls Tryd.prog 44 #[v] w (zje l w):=by
 obtain⟨a,cap,rfl,hl,hl2,hc⟩:=hf
 have HC:=Lib.hid hc
 clear hc
 by_cases h1000:1000<l.length
 ·
  have h1:(1000:Int)<(l.length:Int):=by omega
  go_enter Tryd.func44,Tryd.ntmps44
  go_wp2
  go_ret
  exact⟨1,Or.inl ⟨h1000,rfl⟩,rfl,Below.refl _ _⟩
 ·
  have h1:¬(1000:Int)<(l.length:Int):=by omega
  have h1000':l.length≤1000:=by omega
  go_enter Tryd.func44,Tryd.ntmps44
  go_wp2
  go_loopw [3] (fun i wr =>∃k:Nat,k≤l.length∧i=.int .i64 k∧Hid (∀j,j<k→fAt l j=0)∧Below w.heap.size w wr) (fun i _=>l.length-(intOf i).toNat)
  case atStart=>exact⟨0,Nat.zero_le _,rfl,Lib.hid fun j hj=>absurd hj (Nat.not_lt_zero _),Below.refl _ _⟩
  case round=>
   obtain⟨k,hk,rfl,A,hb⟩:=hrel
   by_cases hlt:k<l.length
   ·
    obtain⟨b,off,cs,ha,hbb,hcs,hcell,ad,cd,hcs2,i1,i2,hint⟩:=HC.out k hlt
    have HX:=Lib.hid (fun c (hc:fAt l k=c) (h0:c≠0)=>zgP h1000' hlt A.out hc h0)
    have HG:=Lib.hid (fun (hc:fAt l k=0)=>zgQ A.out hc)
    subst ha hcs2
    have HI:=Lib.hid (hint.to hb.size (zae hb))
    have HB:=Lib.hid hb
    have r0:wr.cell? ⟨b,off+k*3,none⟩=some (.int .i64 l[k].at_):=(zae hb _ _ hbb).trans (hcell 0 (by simp))
    have r1:wr.cell? ⟨b,off+k*3+1,none⟩=some (.int .i64 l[k].kind):=(zae hb _ _ hbb).trans (hcell 1 (by simp))
    have r2:wr.cell? ⟨b,off+k*3+2,none⟩=some (.slice ad l[k].data.length cd):=(zae hb _ _ hbb).trans (hcell 2 (by simp))
    have hwb:=hb.size
    have hxl:l[k]?=some l[k]:=List.getElem?_eq_getElem hlt
    have e0:fAt l k=evF (if k=0 then none else l[k-1]?) l[k]:=by unfold fAt;rw[hxl]
    rw[e0] at HX HG
    clear hint hcell hb i1 i2 e0 hxl
    generalize l[k]=x at *
    obtain⟨at_,kd,data⟩:=x
    simp only at r0 r1 r2 HI
    by_cases k1:kd<1
    ·
     go_wp2_with (first|(go_at_call 13;refine(za0 _ _ _ _ ?_).mono ?_;omega;rintro e w' ⟨rfl,rfl⟩)|(go_at_call 13;refine(zcw _ _ _ _ ?_).mono ?_;omega;rintro e w' ⟨rfl,rfl⟩))
     go_ret
     exact⟨3,HX.out 3 (evF3 (Or.inl k1)) (by decide),rfl,(by repeat (first|exact HB.out|refine below_drewN ?_ _|refine Below.alloc ?_ hwb _))⟩
    by_cases k3:3<kd
    ·
     go_wp2_with (first|(go_at_call 13;refine(za0 _ _ _ _ ?_).mono ?_;omega;rintro e w' ⟨rfl,rfl⟩)|(go_at_call 13;refine(zcw _ _ _ _ ?_).mono ?_;omega;rintro e w' ⟨rfl,rfl⟩))
     go_ret
     exact⟨3,HX.out 3 (evF3 (Or.inr k3)) (by decide),rfl,(by repeat (first|exact HB.out|refine below_drewN ?_ _|refine Below.alloc ?_ hwb _))⟩
    by_cases a0:at_<0
    ·
     go_wp2_with (first|(go_at_call 13;refine(za0 _ _ _ _ ?_).mono ?_;omega;rintro e w' ⟨rfl,rfl⟩)|(go_at_call 13;refine(zcw _ _ _ _ ?_).mono ?_;omega;rintro e w' ⟨rfl,rfl⟩))
     go_ret
     exact⟨2,HX.out 2 (evF2 (by simp;omega) (Or.inl a0)) (by decide),rfl,(by repeat (first|exact HB.out|refine below_drewN ?_ _|refine Below.alloc ?_ hwb _))⟩
    by_cases a3:3000≤at_
    ·
     go_wp2_with (first|(go_at_call 13;refine(za0 _ _ _ _ ?_).mono ?_;omega;rintro e w' ⟨rfl,rfl⟩)|(go_at_call 13;refine(zcw _ _ _ _ ?_).mono ?_;omega;rintro e w' ⟨rfl,rfl⟩))
     go_ret
     exact⟨2,HX.out 2 (evF2 (by simp;omega) (Or.inr (Or.inl a3))) (by decide),rfl,(by repeat (first|exact HB.out|refine below_drewN ?_ _|refine Below.alloc ?_ hwb _))⟩
    have hkd:kd=1∨kd=2∨kd=3:=by omega
    clear k1 k3
    cases k with
    | zero=>
     rw[if_pos rfl] at HX HG
     simp only[Nat.zero_mul,Nat.add_zero] at r0 r1 r2
     rcases hkd with rfl|rfl|rfl
     ·
      skip
      go_wp2_with (first|(go_at_call 13;refine(za0 _ _ _ _ ?_).mono ?_;omega;rintro e w' ⟨rfl,rfl⟩)|(go_at_call 40;refine(zcf (zaN _ data _ ?_)).mono ?_;(exact HI.out.to (by simp) (zaw _ _));rintro e w' (⟨rfl,ho,n1,rfl⟩|⟨rfl,ho,n1,rfl⟩)))
      ·
       go_ret
       exact⟨2,HX.out 2 (evF2 (by simp) (Or.inr (Or.inr ho.out))) (by decide),rfl,(by repeat (first|exact HB.out|refine below_drewN ?_ _|refine Below.alloc ?_ hwb _))⟩
      have HN:=Lib.hid (show ¬(at_<0∨3000≤at_∨data.any oddB=true) by rw[ho.out];simp;omega)
      clear ho
      by_cases hlen:(data.length:Int)=0
      ·
       have bl:((data.length:Int) != 0)=false:=by rw[bne_eq_false_iff_eq];exact hlen
       have HL:=Lib.hid hlen
       clear hlen
       have HGG:=Lib.hid (HG.out (evFp (by simp) HN.out HL.out))
       go_quiet ((go_at_call 65;refine(zbB _).mono ?_;rintro e w' ⟨rfl,rfl⟩;exact⟨rfl,_,rfl⟩))
       go_wp2_with fail
       go_quiet (fail)
       go_wp2
       go_roundw
       case rel=>exact⟨1,by omega,by go_num,HGG,(by repeat (first|exact HB.out|refine below_drewN ?_ _|refine Below.alloc ?_ hwb _))⟩
       case measure=>simp[intOf];omega
      ·
       have bl:((data.length:Int) != 0)=true:=by rw[bne_iff_ne];exact hlen
       have HL:=Lib.hid hlen
       clear hlen
       go_quiet ((go_at_call 65;refine(zbB _).mono ?_;rintro e w' ⟨rfl,rfl⟩;exact⟨rfl,_,rfl⟩))
       go_wp2
       go_ret
       exact⟨1,HX.out 1 (evF1 (by simp) HN.out HL.out) (by decide),rfl,(by repeat (first|exact HB.out|refine below_drewN ?_ _|refine Below.alloc ?_ hwb _))⟩
     ·
      skip
      go_wp2_with (first|(go_at_call 13;refine(za0 _ _ _ _ ?_).mono ?_;omega;rintro e w' ⟨rfl,rfl⟩)|(go_at_call 40;refine(zcf (zaN _ data _ ?_)).mono ?_;(exact HI.out.to (by simp) (zaw _ _));rintro e w' (⟨rfl,ho,n1,rfl⟩|⟨rfl,ho,n1,rfl⟩)))
      ·
       go_ret
       exact⟨2,HX.out 2 (evF2 (by simp) (Or.inr (Or.inr ho.out))) (by decide),rfl,(by repeat (first|exact HB.out|refine below_drewN ?_ _|refine Below.alloc ?_ hwb _))⟩
      have HN:=Lib.hid (show ¬(at_<0∨3000≤at_∨data.any oddB=true) by rw[ho.out];simp;omega)
      clear ho
      by_cases hlen:(data.length:Int)=16
      ·
       have bl:((data.length:Int) != 16)=false:=by rw[bne_eq_false_iff_eq];exact hlen
       have HL:=Lib.hid hlen
       clear hlen
       have HGG:=Lib.hid (HG.out (evFp (by simp) HN.out HL.out))
       go_quiet ((go_at_call 65;refine(zbC _).mono ?_;rintro e w' ⟨rfl,rfl⟩;exact⟨rfl,_,rfl⟩))
       go_wp2_with fail
       go_quiet (fail)
       go_wp2
       go_roundw
       case rel=>exact⟨1,by omega,by go_num,HGG,(by repeat (first|exact HB.out|refine below_drewN ?_ _|refine Below.alloc ?_ hwb _))⟩
       case measure=>simp[intOf];omega
      ·
       have bl:((data.length:Int) != 16)=true:=by rw[bne_iff_ne];exact hlen
       have HL:=Lib.hid hlen
       clear hlen
       go_quiet ((go_at_call 65;refine(zbC _).mono ?_;rintro e w' ⟨rfl,rfl⟩;exact⟨rfl,_,rfl⟩))
       go_wp2
       go_ret
       exact⟨1,HX.out 1 (evF1 (by simp) HN.out HL.out) (by decide),rfl,(by repeat (first|exact HB.out|refine below_drewN ?_ _|refine Below.alloc ?_ hwb _))⟩
     ·
      skip
      go_wp2_with (first|(go_at_call 13;refine(za0 _ _ _ _ ?_).mono ?_;omega;rintro e w' ⟨rfl,rfl⟩)|(go_at_call 40;refine(zcf (zaN _ data _ ?_)).mono ?_;(exact HI.out.to (by simp) (zaw _ _));rintro e w' (⟨rfl,ho,n1,rfl⟩|⟨rfl,ho,n1,rfl⟩)))
      ·
       go_ret
       exact⟨2,HX.out 2 (evF2 (by simp) (Or.inr (Or.inr ho.out))) (by decide),rfl,(by repeat (first|exact HB.out|refine below_drewN ?_ _|refine Below.alloc ?_ hwb _))⟩
      have HN:=Lib.hid (show ¬(at_<0∨3000≤at_∨data.any oddB=true) by rw[ho.out];simp;omega)
      clear ho
      by_cases hlen:(data.length:Int)=1
      ·
       have bl:((data.length:Int) != 1)=false:=by rw[bne_eq_false_iff_eq];exact hlen
       have HL:=Lib.hid hlen
       clear hlen
       have HGG:=Lib.hid (HG.out (evFp (by simp) HN.out HL.out))
       go_quiet ((go_at_call 65;refine(zbD _).mono ?_;rintro e w' ⟨rfl,rfl⟩;exact⟨rfl,_,rfl⟩))
       go_wp2_with fail
       go_quiet (fail)
       go_wp2
       go_roundw
       case rel=>exact⟨1,by omega,by go_num,HGG,(by repeat (first|exact HB.out|refine below_drewN ?_ _|refine Below.alloc ?_ hwb _))⟩
       case measure=>simp[intOf];omega
      ·
       have bl:((data.length:Int) != 1)=true:=by rw[bne_iff_ne];exact hlen
       have HL:=Lib.hid hlen
       clear hlen
       go_quiet ((go_at_call 65;refine(zbD _).mono ?_;rintro e w' ⟨rfl,rfl⟩;exact⟨rfl,_,rfl⟩))
       go_wp2
       go_ret
       exact⟨1,HX.out 1 (evF1 (by simp) HN.out HL.out) (by decide),rfl,(by repeat (first|exact HB.out|refine below_drewN ?_ _|refine Below.alloc ?_ hwb _))⟩
    | succ m=>
     have hm:m<l.length:=by omega
     rw[if_neg (by omega),Nat.add_sub_cancel,List.getElem?_eq_getElem hm] at HX HG
     obtain⟨b',off',cs',ha',hbb',hcs',hcell',ad',cd',hcs2',i1',i2',hint'⟩:=HC.out m hm
     simp only[Option.some.injEq,Addr.mk.injEq,and_true] at ha'
     obtain⟨rfl,rfl⟩:=ha'
     subst hcs2'
     have p0:wr.cell? ⟨b,off+m*3,none⟩=some (.int .i64 l[m].at_):=(zae HB.out _ _ hbb').trans (hcell' 0 (by simp))
     have p1:wr.cell? ⟨b,off+m*3+1,none⟩=some (.int .i64 l[m].kind):=(zae HB.out _ _ hbb').trans (hcell' 1 (by simp))
     clear hcell' hint' i1' i2' hcs'
     have hpr:=zdW hm (A.out m (by omega))
     generalize l[m]=px at *
     obtain⟨pat,pkd,pda⟩:=px
     simp only at p0 p1 hpr
     obtain⟨q1,q2,q3,q4⟩:=hpr
     have hg:decide ((0:Int)<(m:Int)+1)=true:=by rw[decide_eq_true_iff];omega
     have hm0:(0:Int)≤(m:Int):=by omega
     have hm1:(m:Int)<(l.length:Int):=by omega
     have hbw:b<wr.heap.size:=by omega
     have hwm:IntKind.i64.wrap (m:Int)=m:=IntWalk.i64_in _ (by omega)
     have w1:IntKind.i64.wrap (4*pat)=4*pat:=IntWalk.i64_in _ (by omega)
     have w2:IntKind.i64.wrap (4*pat+pkd)=4*pat+pkd:=IntWalk.i64_in _ (by omega)
     have w3:IntKind.i64.wrap (4*at_)=4*at_:=IntWalk.i64_in _ (by omega)
     rcases hkd with rfl|rfl|rfl
     ·
      have w4:IntKind.i64.wrap (4*at_+1)=4*at_+1:=IntWalk.i64_in _ (by omega)
      go_wp2_with (first|(go_at_call 13;refine(za0 _ _ _ _ ?_).mono ?_;omega;rintro e w' ⟨rfl,rfl⟩)|(go_at_call 40;refine(zcf (zaN _ data _ ?_)).mono ?_;(exact HI.out.to (by simp) (zaw _ _));rintro e w' (⟨rfl,ho,n1,rfl⟩|⟨rfl,ho,n1,rfl⟩)))
      ·
       go_ret
       exact⟨2,HX.out 2 (evF2 (by simp) (Or.inr (Or.inr ho.out))) (by decide),rfl,(by repeat (first|exact HB.out|refine below_drewN ?_ _|refine Below.alloc ?_ hwb _))⟩
      have HN:=Lib.hid (show ¬(at_<0∨3000≤at_∨data.any oddB=true) by rw[ho.out];simp;omega)
      clear ho
      by_cases hlen:(data.length:Int)=0
      ·
       have bl:((data.length:Int) != 0)=false:=by rw[bne_eq_false_iff_eq];exact hlen
       have HL:=Lib.hid hlen
       clear hlen
       have hev:=evFp (p:=some ⟨pat,pkd,pda⟩) (x:=⟨at_,1,data⟩) (by simp) HN.out HL.out
       simp only at hev
       rcases (show 4*at_+1≤4*pat+pkd∨4*pat+pkd<4*at_+1 by omega) with o|o
       ·
        skip
        have HR:=Lib.hid (HX.out 9 (hev.trans (if_pos (by omega))) (by decide))
        have g1:decide (4*at_+1≤4*pat+pkd)=true:=by rw[decide_eq_true_iff];exact o
        clear hev o
        go_quiet ((go_at_call 65;refine(zbB _).mono ?_;rintro e w' ⟨rfl,rfl⟩;exact⟨rfl,_,rfl⟩))
        go_wp2_with fail
        go_quiet (fail)
        go_wp2
        go_ret
        exact⟨9,HR.out,rfl,(by repeat (first|exact HB.out|refine below_drewN ?_ _|refine Below.alloc ?_ hwb _))⟩
       ·
        skip
        have HR:=Lib.hid (HG.out (hev.trans (if_neg (by omega))))
        have g1:decide (4*at_+1≤4*pat+pkd)=false:=by rw[decide_eq_false_iff_not];omega
        clear hev o
        go_quiet ((go_at_call 65;refine(zbB _).mono ?_;rintro e w' ⟨rfl,rfl⟩;exact⟨rfl,_,rfl⟩))
        go_wp2_with fail
        go_quiet (fail)
        go_wp2
        go_roundw
        case rel=>exact⟨m+1+1,by omega,by go_num,HR,(by repeat (first|exact HB.out|refine below_drewN ?_ _|refine Below.alloc ?_ hwb _))⟩
        case measure=>simp[intOf];omega
      ·
       have bl:((data.length:Int) != 0)=true:=by rw[bne_iff_ne];exact hlen
       have HL:=Lib.hid hlen
       clear hlen
       go_quiet ((go_at_call 65;refine(zbB _).mono ?_;rintro e w' ⟨rfl,rfl⟩;exact⟨rfl,_,rfl⟩))
       go_wp2
       go_ret
       exact⟨1,HX.out 1 (evF1 (by simp) HN.out HL.out) (by decide),rfl,(by repeat (first|exact HB.out|refine below_drewN ?_ _|refine Below.alloc ?_ hwb _))⟩
     ·
      have w4:IntKind.i64.wrap (4*at_+2)=4*at_+2:=IntWalk.i64_in _ (by omega)
      go_wp2_with (first|(go_at_call 13;refine(za0 _ _ _ _ ?_).mono ?_;omega;rintro e w' ⟨rfl,rfl⟩)|(go_at_call 40;refine(zcf (zaN _ data _ ?_)).mono ?_;(exact HI.out.to (by simp) (zaw _ _));rintro e w' (⟨rfl,ho,n1,rfl⟩|⟨rfl,ho,n1,rfl⟩)))
      ·
       go_ret
       exact⟨2,HX.out 2 (evF2 (by simp) (Or.inr (Or.inr ho.out))) (by decide),rfl,(by repeat (first|exact HB.out|refine below_drewN ?_ _|refine Below.alloc ?_ hwb _))⟩
      have HN:=Lib.hid (show ¬(at_<0∨3000≤at_∨data.any oddB=true) by rw[ho.out];simp;omega)
      clear ho
      by_cases hlen:(data.length:Int)=16
      ·
       have bl:((data.length:Int) != 16)=false:=by rw[bne_eq_false_iff_eq];exact hlen
       have HL:=Lib.hid hlen
       clear hlen
       have hev:=evFp (p:=some ⟨pat,pkd,pda⟩) (x:=⟨at_,2,data⟩) (by simp) HN.out HL.out
       simp only at hev
       rcases (show 4*at_+2≤4*pat+pkd∨4*pat+pkd<4*at_+2 by omega) with o|o
       ·
        skip
        have HR:=Lib.hid (HX.out 9 (hev.trans (if_pos (by omega))) (by decide))
        have g1:decide (4*at_+2≤4*pat+pkd)=true:=by rw[decide_eq_true_iff];exact o
        clear hev o
        go_quiet ((go_at_call 65;refine(zbC _).mono ?_;rintro e w' ⟨rfl,rfl⟩;exact⟨rfl,_,rfl⟩))
        go_wp2_with fail
        go_quiet (fail)
        go_wp2
        go_ret
        exact⟨9,HR.out,rfl,(by repeat (first|exact HB.out|refine below_drewN ?_ _|refine Below.alloc ?_ hwb _))⟩
       ·
        skip
        have HR:=Lib.hid (HG.out (hev.trans (if_neg (by omega))))
        have g1:decide (4*at_+2≤4*pat+pkd)=false:=by rw[decide_eq_false_iff_not];omega
        clear hev o
        go_quiet ((go_at_call 65;refine(zbC _).mono ?_;rintro e w' ⟨rfl,rfl⟩;exact⟨rfl,_,rfl⟩))
        go_wp2_with fail
        go_quiet (fail)
        go_wp2
        go_roundw
        case rel=>exact⟨m+1+1,by omega,by go_num,HR,(by repeat (first|exact HB.out|refine below_drewN ?_ _|refine Below.alloc ?_ hwb _))⟩
        case measure=>simp[intOf];omega
      ·
       have bl:((data.length:Int) != 16)=true:=by rw[bne_iff_ne];exact hlen
       have HL:=Lib.hid hlen
       clear hlen
       go_quiet ((go_at_call 65;refine(zbC _).mono ?_;rintro e w' ⟨rfl,rfl⟩;exact⟨rfl,_,rfl⟩))
       go_wp2
       go_ret
       exact⟨1,HX.out 1 (evF1 (by simp) HN.out HL.out) (by decide),rfl,(by repeat (first|exact HB.out|refine below_drewN ?_ _|refine Below.alloc ?_ hwb _))⟩
     ·
      have w4:IntKind.i64.wrap (4*at_+3)=4*at_+3:=IntWalk.i64_in _ (by omega)
      go_wp2_with (first|(go_at_call 13;refine(za0 _ _ _ _ ?_).mono ?_;omega;rintro e w' ⟨rfl,rfl⟩)|(go_at_call 40;refine(zcf (zaN _ data _ ?_)).mono ?_;(exact HI.out.to (by simp) (zaw _ _));rintro e w' (⟨rfl,ho,n1,rfl⟩|⟨rfl,ho,n1,rfl⟩)))
      ·
       go_ret
       exact⟨2,HX.out 2 (evF2 (by simp) (Or.inr (Or.inr ho.out))) (by decide),rfl,(by repeat (first|exact HB.out|refine below_drewN ?_ _|refine Below.alloc ?_ hwb _))⟩
      have HN:=Lib.hid (show ¬(at_<0∨3000≤at_∨data.any oddB=true) by rw[ho.out];simp;omega)
      clear ho
      by_cases hlen:(data.length:Int)=1
      ·
       have bl:((data.length:Int) != 1)=false:=by rw[bne_eq_false_iff_eq];exact hlen
       have HL:=Lib.hid hlen
       clear hlen
       have hev:=evFp (p:=some ⟨pat,pkd,pda⟩) (x:=⟨at_,3,data⟩) (by simp) HN.out HL.out
       simp only at hev
       rcases (show 4*at_+3≤4*pat+pkd∨4*pat+pkd<4*at_+3 by omega) with o|o
       ·
        skip
        have HR:=Lib.hid (HX.out 9 (hev.trans (if_pos (by omega))) (by decide))
        have g1:decide (4*at_+3≤4*pat+pkd)=true:=by rw[decide_eq_true_iff];exact o
        clear hev o
        go_quiet ((go_at_call 65;refine(zbD _).mono ?_;rintro e w' ⟨rfl,rfl⟩;exact⟨rfl,_,rfl⟩))
        go_wp2_with fail
        go_quiet (fail)
        go_wp2
        go_ret
        exact⟨9,HR.out,rfl,(by repeat (first|exact HB.out|refine below_drewN ?_ _|refine Below.alloc ?_ hwb _))⟩
       ·
        skip
        have HR:=Lib.hid (HG.out (hev.trans (if_neg (by omega))))
        have g1:decide (4*at_+3≤4*pat+pkd)=false:=by rw[decide_eq_false_iff_not];omega
        clear hev o
        go_quiet ((go_at_call 65;refine(zbD _).mono ?_;rintro e w' ⟨rfl,rfl⟩;exact⟨rfl,_,rfl⟩))
        go_wp2_with fail
        go_quiet (fail)
        go_wp2
        go_roundw
        case rel=>exact⟨m+1+1,by omega,by go_num,HR,(by repeat (first|exact HB.out|refine below_drewN ?_ _|refine Below.alloc ?_ hwb _))⟩
        case measure=>simp[intOf];omega
      ·
       have bl:((data.length:Int) != 1)=true:=by rw[bne_iff_ne];exact hlen
       have HL:=Lib.hid hlen
       clear hlen
       go_quiet ((go_at_call 65;refine(zbD _).mono ?_;rintro e w' ⟨rfl,rfl⟩;exact⟨rfl,_,rfl⟩))
       go_wp2
       go_ret
       exact⟨1,HX.out 1 (evF1 (by simp) HN.out HL.out) (by decide),rfl,(by repeat (first|exact HB.out|refine below_drewN ?_ _|refine Below.alloc ?_ hwb _))⟩
   ·
    obtain rfl:k=l.length:=by omega
    go_wp2
    go_ret
    exact⟨0,Or.inr (Or.inr ⟨h1000',A.out,rfl⟩),rfl,hb⟩
end Go.Proofs.YtflonfcemlfbdaaDoor
