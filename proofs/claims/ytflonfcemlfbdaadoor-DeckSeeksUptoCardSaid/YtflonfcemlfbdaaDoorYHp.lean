/- Several texts joined, each with its own heading in the notes: Spaces in frames, in plain Lean: which frame is in whose pages; a store, a fork and a drop keep what others know. A host and its spaces in a world: a load. Pieces of Space. No condition beyond those of each row. -/
import Derived.Test.YtflonfcemlfbdaaDoorYTk
import Derived.Test.YtflonfcemlfbdaaDoorYSm
import Derived.Test.YtflonfcemlfbdaaDoorYCpu1
import Derived.Handy
import Derived.StillTailTactics
import Derived.Deep.RegionWith
import Derived.Deep.RegionLaw
import Derived.Deep.CutBlock
import Derived.Deep.CutRange
import Derived.Deep.RegionHeld3
import Derived.Deep.LoopGhost
namespace Go.Proofs.YtflonfcemlfbdaaDoor
set_option linter.unusedVariables false
def cntP:List (List Int)→Nat→Nat
 | [],_=>0
 | pg::l,n=>pg.count (n:Int)+cntP l n
def pgW(rs:List (List Int))(pg:List Int)(k:Nat):Int:=if pg.getD (k/16) (-1)<0 then 0 else (rs.getD (pg.getD (k/16) (-1)).toNat []).getD (k%16) 0
def memP(rs:List (List Int))(pg:List Int):List Int:=(List.range 256).map (pgW rs pg)
structure HOk(rs:List (List Int))(zs:List Int)(sps:List (List Int)):Prop where
 ok:FOk rs zs
 bd:FBd rs zs
 len:∀pg∈sps,pg.length=16
 rng:∀pg∈sps,∀x∈pg,x = -1∨(0≤x∧x<zs.length)
 ref:∀n,n<zs.length→zs.getD n 0=cntP sps n
theorem zdI(rs:List (List Int))(pg:List Int):(memP rs pg).length=256:=by simp[memP]
theorem zjW(rs:List (List Int))(pg:List Int){k:Nat}(h:k<256):(memP rs pg).getD k 0=pgW rs pg k:=by
 rw[List.getD_eq_getElem?_getD];simp[memP,h]
theorem zgq{rs rs':List (List Int)}{pg:List Int}(h:∀x∈pg,0≤x→rs'.getD x.toNat []=rs.getD x.toNat []):memP rs' pg=memP rs pg:=by
 unfold memP
 apply List.map_congr_left
 intro k _
 unfold pgW
 by_cases hk:k/16<pg.length
 ·
  by_cases h0:pg.getD (k/16) (-1)<0
  ·rw[if_pos h0,if_pos h0]
  ·rw[if_neg h0,if_neg h0,h _ (by rw[zau hk];exact List.getElem_mem _) (by omega)]
 ·
  have e:pg.getD (k/16) (-1) = -1:=by rw[List.getD_eq_getElem?_getD,List.getElem?_eq_none (by omega)];rfl
  rw[e,if_pos (by omega),if_pos (by omega)]
theorem zei:∀(l:List Int) (p:Nat) (y a:Int),p<l.length→(l.set p y).count a+(if l.getD p 0=a then 1 else 0)=l.count a+(if y=a then 1 else 0)
 | [],p,y,a,h=>absurd h (Nat.not_lt_zero _)
 | x::l,0,y,a,h=>by
  simp only[List.set_cons_zero,List.count_cons,List.getD_cons_zero,beq_iff_eq];omega
 | x::l,p+1,y,a,h=>by
  have ih:=zei l p y a (by simpa using h)
  simp only[List.set_cons_succ,List.count_cons,List.getD_cons_succ,beq_iff_eq];omega
theorem zhL:∀(sps:List (List Int)) (i:Nat) (pg':List Int) (n:Nat),i<sps.length→cntP (sps.set i pg') n+(sps.getD i []).count (n:Int)=cntP sps n+pg'.count (n:Int)
 | [],i,_,_,h=>absurd h (Nat.not_lt_zero _)
 | x::l,0,pg',n,h=>by simp only[List.set_cons_zero,cntP,List.getD_cons_zero];omega
 | x::l,i+1,pg',n,h=>by
  have ih:=zhL l i pg' n (by simpa using h)
  simp only[List.set_cons_succ,cntP,List.getD_cons_succ];omega
theorem zck{sps:List (List Int)}{i p:Nat}(hi:i<sps.length)(hp:p<(sps.getD i []).length)(y:Int)(n:Nat):cntP (sps.set i ((sps.getD i []).set p y)) n+(if (sps.getD i []).getD p 0=n then 1 else 0)=cntP sps n+(if y=n then 1 else 0):=by
 have h1:=zhL sps i ((sps.getD i []).set p y) n hi
 have h2:=zei (sps.getD i []) p y n hp
 omega
theorem zgr:∀{l:List Int} {x:Int},x∈l→1≤l.count x:=fun h=>List.count_pos_iff.2 h
theorem zbu:∀{sps:List (List Int)} {pg:List Int} {n:Nat},pg∈sps→(n:Int)∈pg→1≤cntP sps n
 | [],_,_,h,_=>by cases h
 | x::l,pg,n,h,k=>by
  unfold cntP
  rcases List.mem_cons.1 h with rfl|h
  ·have:=zgr k;omega
  ·have:=zbu h k;omega
theorem ziR{a b:List (List Int)}(h:a.Perm b)(n:Nat):cntP a n=cntP b n:=by
 induction h with
 | nil=>rfl
 | cons x _ ih=>simp only[cntP,ih]
 | swap x y l=>simp only[cntP];omega
 | trans _ _ ih1 ih2=>exact ih1.trans ih2
theorem zfN{n:Nat}:cntP [List.replicate 16 (-1)] n=0:=by
 simp only[cntP,List.count_replicate]
 rw[if_neg (by rw[beq_iff_eq];omega)]
theorem HOk.perm{rs:List (List Int)}{zs:List Int}{a b:List (List Int)}(h:HOk rs zs a)(hp:a.Perm b):HOk rs zs b:=
 ⟨h.ok,h.bd,fun pg k=>h.len pg (hp.mem_iff.2 k),fun pg k=>h.rng pg (hp.mem_iff.2 k),fun n hn=>by rw[h.ref n hn,ziR hp]⟩
theorem HOk.fresh{rs:List (List Int)}{zs:List Int}{a:List (List Int)}(h:HOk rs zs a):HOk rs zs (List.replicate 16 (-1)::a):=by
 refine⟨h.ok,h.bd,fun pg k=>?_,fun pg k x hx=>?_,fun n hn=>?_⟩
 ·
  rcases List.mem_cons.1 k with rfl|k
  ·simp
  ·exact h.len pg k
 ·
  rcases List.mem_cons.1 k with rfl|k
  ·exact Or.inl (List.eq_of_mem_replicate hx)
  ·exact h.rng pg k x hx
 ·
  have e:cntP (List.replicate 16 (-1)::a) n=cntP [List.replicate 16 (-1)] n+cntP a n:=by simp only[cntP,Nat.add_zero]
  rw[h.ref n hn,e,zfN,Nat.zero_add]
theorem HOk.gone{rs:List (List Int)}{zs:List Int}{a:List (List Int)}(h:HOk rs zs (List.replicate 16 (-1)::a)):HOk rs zs a:=by
 refine⟨h.ok,h.bd,fun pg k=>h.len pg (List.mem_cons_of_mem _ k),fun pg k=>h.rng pg (List.mem_cons_of_mem _ k),fun n hn=>?_⟩
 have e:cntP (List.replicate 16 (-1)::a) n=cntP [List.replicate 16 (-1)] n+cntP a n:=by simp only[cntP,Nat.add_zero]
 rw[h.ref n hn,e,zfN,Nat.zero_add]
theorem zbG{n k:Nat}(x:Int):(List.replicate n x).getD k x=x:=by
 rw[List.getD_eq_getElem?_getD]
 cases e:(List.replicate n x)[k]? with
 | none=>rfl
 | some y=>exact List.eq_of_mem_replicate (List.mem_of_getElem? e)
theorem zhM(rs:List (List Int)):memP rs (List.replicate 16 (-1))=List.replicate 256 0:=by
 apply List.ext_getElem (by rw[zdI,List.length_replicate])
 intro k h1 h2
 simp only[memP,List.getElem_map,List.getElem_range,List.getElem_replicate,pgW,zbG]
 rfl
theorem ze2:∀(sps:List (List Int)) (M:Nat),(∀pg∈sps,pg.length=16)→sumN (cntP sps) M≤16*sps.length
 | [],M,_=>by
  rw[zcZ (f:=cntP []) (fun n=>rfl)];exact Nat.zero_le _
 | x::l,M,h=>by
  have h1:=ze2 l M (fun pg k=>h pg (List.mem_cons_of_mem _ k))
  have h2:=zeh x M
  have h3:=h x (List.mem_cons_self ..)
  have e:cntP (x::l)=fun n:Nat=>x.count (n:Int)+cntP l n:=by funext n;rfl
  rw[e,zdH,List.length_cons];omega
theorem zkw{sps:List (List Int)}{M:Nat}(hl:∀pg∈sps,pg.length=16)(h:∀m,m<M→1≤cntP sps m):M≤16*sps.length:=
 Nat.le_trans (zhI h) (ze2 sps M hl)
theorem zkx{sps:List (List Int)}{n:Nat}(hl:∀pg∈sps,pg.length=16):cntP sps n≤16*sps.length:=by
 have h:=ze2 sps (n+1) hl
 unfold sumN at h;omega
theorem zaO{α:Type}{l:List α}{i:Nat}(h:i<l.length)(d:α):l.getD i d∈l:=by rw[zau h];exact List.getElem_mem _
theorem zdJ{α:Type}{l:List α}{i:Nat}{a b:α}(h:b∈l.set i a):b∈l∨b=a:=List.mem_or_eq_of_mem_set h
section
variable {rs:List (List Int)} {zs:List Int} {sps:List (List Int)} {i p:Nat}
theorem HOk.entry(h:HOk rs zs sps)(hi:i<sps.length)(hp:p<16):(sps.getD i []).length=16∧((sps.getD i []).getD p (-1) = -1∨(0≤(sps.getD i []).getD p (-1)∧(sps.getD i []).getD p (-1)<zs.length)):=by
 have h1:=h.len _ (zaO hi [])
 exact⟨h1,h.rng _ (zaO hi []) _ (zaO (by omega) _)⟩
theorem zdj{l:List Int}{p:Nat}(h:p<l.length)(d d':Int):l.getD p d=l.getD p d':=by rw[zau h,zau h]
theorem HOk.pages(h:HOk rs zs sps)(hi:i<sps.length)(y:Int)(hy:y = -1∨(0≤y∧y<zs.length)):(∀pg∈sps.set i ((sps.getD i []).set p y),pg.length=16)∧(∀pg∈sps.set i ((sps.getD i []).set p y),∀x∈pg,x = -1∨(0≤x∧x<zs.length)):=by
 constructor
 ·
  intro pg k
  rcases zdJ k with k|rfl
  ·exact h.len pg k
  ·rw[List.length_set];exact h.len _ (zaO hi [])
 ·
  intro pg k x hx
  rcases zdJ k with k|rfl
  ·exact h.rng pg k x hx
  ·
   rcases zdJ hx with hx|rfl
   ·exact h.rng _ (zaO hi []) x hx
   ·exact hy
theorem HOk.alone(h:HOk rs zs sps)(hi:i<sps.length)(hp:p<16){n:Nat}(hn:n<zs.length)(he:(sps.getD i []).getD p (-1)=n)(h1:zs.getD n 0=1):(∀j,j<sps.length→j≠i→(n:Int) ∉ sps.getD j [])∧∀q,q<16→q≠p→(sps.getD i []).getD q (-1)≠n:=by
 obtain⟨hl,_⟩:=h.entry hi hp
 have hr:=h.ref n hn
 have hc:=zck (y:=-1) hi (p:=p) (by omega) n
 rw[zdj (by omega) 0 (-1),he,if_pos rfl,if_neg (by omega)] at hc
 have h0:cntP (sps.set i ((sps.getD i []).set p (-1))) n=0:=by omega
 constructor
 ·
  intro j hj hji hm
  have:sps.getD j []∈sps.set i ((sps.getD i []).set p (-1)):=by
   have e:(sps.set i ((sps.getD i []).set p (-1))).getD j []=sps.getD j []:=getD_set_ne hji _ _
   rw[←e];exact zaO (by simpa using hj) _
  have:=zbu this hm
  omega
 ·
  intro q hq hqp hm
  have h2:(sps.getD i []).set p (-1)∈sps.set i ((sps.getD i []).set p (-1)):=by
   have e:(sps.set i ((sps.getD i []).set p (-1))).getD i []=(sps.getD i []).set p (-1):=zak hi _ _
   have k:=zaO (l:=sps.set i ((sps.getD i []).set p (-1))) (i:=i) (by simpa using hi) []
   rw[e] at k;exact k
  have h3:(n:Int)∈(sps.getD i []).set p (-1):=by
   have e:((sps.getD i []).set p (-1)).getD q (-1)=(sps.getD i []).getD q (-1):=getD_set_ne hqp _ _
   rw[←hm,←e];exact zaO (by rw[List.length_set];omega) _
  have:=zbu h2 h3
  omega
theorem HOk.free(h:HOk rs zs sps){k:Nat}(hk:k<zs.length)(h0:zs.getD k 0=0):∀pg∈sps,(k:Int) ∉ pg:=by
 intro pg hpg hm
 have h1:=zbu hpg hm
 have h2:=h.ref k hk
 omega
theorem zca{rs rs':List (List Int)}{pg:List Int}{k:Nat}(hk:(k:Int) ∉ pg)(h:∀n,n≠k→rs'.getD n []=rs.getD n []):memP rs' pg=memP rs pg:=
 zgq (fun x hx h0=>h _ (fun e=>hk (by have:(k:Int)=x:=(by omega);rw[this];exact hx)))
theorem zbQ{rs:List (List Int)}{k:Nat}{row:List Int}:∀n,n≠k→(rs.set k row).getD n []=rs.getD n []:=fun n h=>getD_set_ne h _ _
theorem HOk.take (h : HOk rs zs sps) (hi : i < sps.length) (hp : p < 16) (he : (sps.getD i []).getD p (-1) = -1) {k : Nat} (hk : k < zs.length) (h0 : zs.getD k 0 = 0) :
  HOk (rs.set k (List.replicate 16 0)) (zs.set k 1) (sps.set i ((sps.getD i []).set p k))∧memP (rs.set k (List.replicate 16 0)) ((sps.getD i []).set p k)=memP rs (sps.getD i [])∧∀pg∈sps,memP (rs.set k (List.replicate 16 0)) pg=memP rs pg:=by
 obtain⟨hl,_⟩:=h.entry hi hp
 have hfree:=h.free hk h0
 have hpg:=h.pages (p:=p) hi (k:Int) (Or.inr ⟨by omega,by omega⟩)
 refine⟨⟨h.ok.put hk (okU (by simp) 1 (by omega) (by omega)),(h.bd.setRow k (zhC 16) (by simp)).setRef k 1 (by unfold I64;omega),hpg.1,fun pg k1 x hx=>by rw[List.length_set];exact hpg.2 pg k1 x hx,fun n hn=>?_⟩,?_,fun pg hpg=>zca (hfree pg hpg) zbQ⟩
 ·
  rw[List.length_set] at hn
  have hc:=zck (y:=(k:Int)) hi (p:=p) (by omega) n
  rw[zdj (by omega) 0 (-1),he,if_neg (by omega)] at hc
  have hr:=h.ref n hn
  by_cases hnk:n=k
  ·
   subst hnk
   rw[zak hn]
   rw[if_pos rfl] at hc
   omega
  ·
   rw[getD_set_ne hnk,hr]
   rw[if_neg (by omega)] at hc
   omega
 ·
  unfold memP
  apply List.map_congr_left
  intro m hm
  have hm:m<256:=List.mem_range.1 hm
  unfold pgW
  by_cases hmp:m/16=p
  ·rw[hmp,zak (by omega),he,if_neg (by omega),if_pos (by omega),Int.toNat_natCast,zak (by have:=h.ok.1;omega),zbG]
  ·
   rw[getD_set_ne hmp]
   by_cases hneg:(sps.getD i []).getD (m/16) (-1)<0
   ·rw[if_pos hneg,if_pos hneg]
   ·
    rw[if_neg hneg,if_neg hneg,getD_set_ne]
    intro e
    have:((k:Nat):Int)=(sps.getD i []).getD (m/16) (-1):=by omega
    exact hfree _ (zaO hi []) (by rw[this];exact zaO (by omega) _)
theorem zej{rs rs':List (List Int)}{pg pg':List Int}{p j:Nat}{v:Int}(hp:p<16)(hj:j<16)(h1:pgW rs' pg' (16*p+j)=v)(h2:∀m,m<256→m≠16*p+j→pgW rs' pg' m=pgW rs pg m):memP rs' pg'=(memP rs pg).set (16*p+j) v:=by
 apply List.ext_getElem (by simp[memP])
 intro m hm1 hm2
 have hm:m<256:=by rw[zdI] at hm1;exact hm1
 rw[List.getElem_set]
 simp only[memP,List.getElem_map,List.getElem_range]
 split
 ·rename_i e;rw[←e];exact h1
 ·rename_i e;exact h2 m hm (fun q=>e q.symm)
theorem HOk.write (h : HOk rs zs sps) (hi : i < sps.length) (hp : p < 16) {n : Nat} (he : (sps.getD i []).getD p (-1) = n) (hn : n < zs.length) (h1 : zs.getD n 0 = 1) {j : Nat} (hj : j < 16) {v : Int} (hv : I64 v) :
  HOk (rs.set n ((rs.getD n []).set j v)) zs sps∧memP (rs.set n ((rs.getD n []).set j v)) (sps.getD i [])=(memP rs (sps.getD i [])).set (16*p+j) v∧∀q,q<sps.length→q≠i→memP (rs.set n ((rs.getD n []).set j v)) (sps.getD q [])=memP rs (sps.getD q []):=by
 obtain⟨hl,_⟩:=h.entry hi hp
 have hal:=h.alone hi hp hn he h1
 have hok:=h.ok.2.2 n hn
 have hrow:(rs.getD n []).length=16:=hok.2.2.2 (by omega)
 have hbd:=h.bd.rowAt n
 have hnr:n<rs.length:=by have:=h.ok.1;omega
 refine⟨⟨h.ok.putRow hn (okU (by rw[List.length_set];exact hrow) _ (by omega) (by omega)),h.bd.setRow n (zhB hbd.1 j hv) (by rw[List.length_set];exact hbd.2),h.len,h.rng,h.ref⟩,?_,fun q hq hqi=>zca (hal.1 q hq hqi) zbQ⟩
 refine zej hp hj ?_ (fun m hm hne=>?_)
 ·
  unfold pgW
  rw[show (16*p+j)/16=p by omega,show (16*p+j)%16=j by omega,he,if_neg (by omega),Int.toNat_natCast,zak hnr,zak (by omega)]
 ·
  unfold pgW
  by_cases hmp:m/16=p
  ·rw[hmp,he,if_neg (by omega),if_neg (by omega),Int.toNat_natCast,zak hnr,getD_set_ne (by omega)]
  ·
   by_cases hneg:(sps.getD i []).getD (m/16) (-1)<0
   ·rw[if_pos hneg,if_pos hneg]
   ·
    rw[if_neg hneg,if_neg hneg,getD_set_ne]
    intro e
    exact hal.2 (m/16) (by omega) hmp (by omega)
theorem HOk.copy (h : HOk rs zs sps) (hi : i < sps.length) (hp : p < 16) {n : Nat} (he : (sps.getD i []).getD p (-1) = n) (hn : n < zs.length) {z : Int} (hz : zs.getD n 0 = z) (h1 : 1 < z) {k : Nat} (hk : k < zs.length) (h0 : zs.getD k 0 = 0) {j : Nat} (hj : j < 16) {v : Int} (hv : I64 v) :
  HOk (rs.set k ((rs.getD n []).set j v)) ((zs.set n (z-1)).set k 1) (sps.set i ((sps.getD i []).set p k))∧memP (rs.set k ((rs.getD n []).set j v)) ((sps.getD i []).set p k)=(memP rs (sps.getD i [])).set (16*p+j) v∧∀pg∈sps,memP (rs.set k ((rs.getD n []).set j v)) pg=memP rs pg:=by
 obtain⟨hl,_⟩:=h.entry hi hp
 have hfree:=h.free hk h0
 have hpg:=h.pages (p:=p) hi (k:Int) (Or.inr ⟨by omega,by omega⟩)
 have hok:=h.ok.2.2 n hn
 have hrow:(rs.getD n []).length=16:=hok.2.2.2 (by omega)
 have hbd:=h.bd.rowAt n
 have hnk:n≠k:=fun e=>by subst e;omega
 have hkr:k<rs.length:=by have:=h.ok.1;omega
 have hrl:((rs.getD n []).set j v).length=16:=by rw[List.length_set];exact hrow
 have hz2:z≤200:=by rw[←hz];exact hok.2.1
 refine⟨⟨?_,?_,hpg.1,fun pg k1 x hx=>by rw[List.length_set,List.length_set];exact hpg.2 pg k1 x hx,fun m hm=>?_⟩,?_,fun pg hpg=>zca (hfree pg hpg) zbQ⟩
 ·exact(h.ok.putRef hn (okU hrow (z-1) (by omega) (by omega))).put (k:=k) (by simpa using hk) (okU hrl 1 (by omega) (by omega))
 ·exact((h.bd.setRow k (zhB hbd.1 j hv) (by rw[List.length_set];exact hbd.2)).setRef n (z-1) (by unfold I64;omega)).setRef k 1 (by unfold I64;omega)
 ·
  rw[List.length_set,List.length_set] at hm
  have hc:=zck (y:=(k:Int)) hi (p:=p) (by omega) m
  rw[zdj (by omega) 0 (-1),he] at hc
  have hr:=h.ref m hm
  by_cases hmk:m=k
  ·
   subst hmk
   rw[zak (by simpa using hm)]
   rw[if_pos rfl,if_neg (by omega)] at hc
   omega
  ·
   rw[getD_set_ne hmk]
   rw[if_neg (show ¬(k:Int)=m by omega)] at hc
   by_cases hmn:m=n
   ·
    subst hmn
    rw[zak hm]
    rw[if_pos rfl] at hc
    omega
   ·
    rw[getD_set_ne hmn,hr]
    rw[if_neg (by omega)] at hc
    omega
 ·
  refine zej hp hj ?_ (fun m hm hne=>?_)
  ·
   unfold pgW
   rw[show (16*p+j)/16=p by omega,show (16*p+j)%16=j by omega,zak (by omega),if_neg (by omega),Int.toNat_natCast,zak hkr,zak (by omega)]
  ·
   unfold pgW
   by_cases hmp:m/16=p
   ·rw[hmp,zak (by omega),he,if_neg (by omega),if_neg (by omega),Int.toNat_natCast,Int.toNat_natCast,zak hkr,getD_set_ne (by omega)]
   ·
    rw[getD_set_ne hmp]
    by_cases hneg:(sps.getD i []).getD (m/16) (-1)<0
    ·rw[if_pos hneg,if_pos hneg]
    ·
     rw[if_neg hneg,if_neg hneg,getD_set_ne]
     intro e
     have:((k:Nat):Int)=(sps.getD i []).getD (m/16) (-1):=by omega
     exact hfree _ (zaO hi []) (by rw[this];exact zaO (by omega) _)
theorem HOk.full(h:HOk rs zs sps)(hi:i<sps.length)(hp:p<16)(hn:(sps.getD i []).getD p (-1) = -1∨∃n:Nat,(sps.getD i []).getD p (-1)=n∧n<zs.length∧1<zs.getD n 0)(hf:∀j,j<zs.length→zs.getD j 0≠0):zs.length<16*sps.length:=by
 obtain⟨hl,hrg⟩:=h.entry hi hp
 have hs:(sps.set i ((sps.getD i []).set p (zs.length:Int))).length=sps.length:=by simp
 rw[←hs]
 refine zkw (M:=zs.length+1) (fun pg k=>?_) (fun m hm=>?_)
 ·
  rcases zdJ k with k|rfl
  ·exact h.len pg k
  ·rw[List.length_set];exact hl
 ·
  have hc:=zck (y:=(zs.length:Int)) hi (p:=p) (by omega) m
  rw[zdj (by omega) 0 (-1)] at hc
  by_cases hmz:m=zs.length
  ·
   rw[if_pos (show (zs.length:Int)=m by omega)] at hc
   rw[if_neg (by omega)] at hc
   omega
  ·
   have hr:=h.ref m (by omega)
   have h0:=hf m (by omega)
   have hnn:=(h.ok.2.2 m (by omega)).1
   rw[if_neg (show ¬(zs.length:Int)=m by omega)] at hc
   rcases hn with e|⟨n,e,hn,h1⟩
   ·
    rw[e,if_neg (by omega)] at hc
    omega
   ·
    rw[e] at hc
    by_cases hmn:m=n
    ·
     subst hmn
     rw[if_pos rfl] at hc
     omega
    ·
     rw[if_neg (by omega)] at hc
     omega
theorem HOk.share (h : HOk rs zs sps) (hi : i < sps.length) (hp : p < 16) (he : (sps.getD i []).getD p (-1) = -1) {n : Nat} (hn : n < zs.length) {z : Int} (hz : zs.getD n 0 = z) (h1 : 1 ≤ z) (h2 : z < 200) :
  HOk rs (zs.set n (z+1)) (sps.set i ((sps.getD i []).set p n)):=by
 obtain⟨hl,_⟩:=h.entry hi hp
 have hpg:=h.pages (p:=p) hi (n:Int) (Or.inr ⟨by omega,by omega⟩)
 have hok:=h.ok.2.2 n hn
 have hrow:(rs.getD n []).length=16:=hok.2.2.2 (by omega)
 refine⟨h.ok.putRef hn (okU hrow _ (by omega) (by omega)),h.bd.setRef n _ (by unfold I64;omega),hpg.1,fun pg k1 x hx=>by rw[List.length_set];exact hpg.2 pg k1 x hx,fun m hm=>?_⟩
 rw[List.length_set] at hm
 have hc:=zck (y:=(n:Int)) hi (p:=p) (by omega) m
 rw[zdj (by omega) 0 (-1),he,if_neg (by omega)] at hc
 have hr:=h.ref m hm
 by_cases hmn:m=n
 ·
  subst hmn
  rw[zak hm]
  rw[if_pos rfl] at hc
  omega
 ·
  rw[getD_set_ne hmn,hr]
  rw[if_neg (by omega)] at hc
  omega
theorem HOk.drop (h : HOk rs zs sps) (hi : i < sps.length) (hp : p < 16) {n : Nat} (he : (sps.getD i []).getD p (-1) = n) (hn : n < zs.length) {z : Int} (hz : zs.getD n 0 = z) :
  (z=1→HOk (rs.set n []) (zs.set n 0) (sps.set i ((sps.getD i []).set p (-1)))∧(∀q,q<sps.length→q≠i→memP (rs.set n []) (sps.getD q [])=memP rs (sps.getD q [])))∧(z≠1→HOk rs (zs.set n (z-1)) (sps.set i ((sps.getD i []).set p (-1)))):=by
 obtain⟨hl,_⟩:=h.entry hi hp
 have hpg:=h.pages (p:=p) hi (-1) (Or.inl rfl)
 have hok:=h.ok.2.2 n hn
 have hr0:=h.ref n hn
 have hpos:1≤cntP sps n:=zbu (zaO hi []) (by rw[←he];exact zaO (by omega) _)
 have hrow:(rs.getD n []).length=16:=hok.2.2.2 (by omega)
 have hz2:z≤200:=by rw[←hz];exact hok.2.1
 have key:∀m,m<zs.length→(m=n→cntP (sps.set i ((sps.getD i []).set p (-1))) m+1=cntP sps m)∧(m≠n→cntP (sps.set i ((sps.getD i []).set p (-1))) m=cntP sps m):=by
  intro m hm
  have hc:=zck (y:=-1) hi (p:=p) (by omega) m
  rw[zdj (by omega) 0 (-1),he,if_neg (show ¬(-1:Int)=m by omega)] at hc
  constructor
  ·intro e;rw[if_pos (by omega)] at hc;omega
  ·intro e;rw[if_neg (by omega)] at hc;omega
 constructor
 ·
  intro h1
  have hal:=h.alone hi hp hn he (by omega)
  refine⟨⟨h.ok.put hn okF,(h.bd.setNil n).setRef n 0 (by unfold I64;omega),hpg.1,fun pg k1 x hx=>by rw[List.length_set];exact hpg.2 pg k1 x hx,fun m hm=>?_⟩,fun q hq hqi=>zca (hal.1 q hq hqi) zbQ⟩
  rw[List.length_set] at hm
  have hr:=h.ref m hm
  by_cases hmn:m=n
  ·
   subst hmn
   have:=(key m hm).1 rfl
   rw[zak hm];omega
  ·
   have:=(key m hm).2 hmn
   rw[getD_set_ne hmn,hr];omega
 ·
  intro h1
  refine⟨h.ok.putRef hn (okU hrow _ (by omega) (by omega)),h.bd.setRef n _ (by unfold I64;omega),hpg.1,fun pg k1 x hx=>by rw[List.length_set];exact hpg.2 pg k1 x hx,fun m hm=>?_⟩
  rw[List.length_set] at hm
  have hr:=h.ref m hm
  by_cases hmn:m=n
  ·
   subst hmn
   have:=(key m hm).1 rfl
   rw[zak hm];omega
  ·
   have:=(key m hm).2 hmn
   rw[getD_set_ne hmn,hr];omega
end
end Go.Proofs.YtflonfcemlfbdaaDoor
namespace Go.Proofs.YtflonfcemlfbdaaDoor
open Go Go.RowKit Go.ChangeShapes Go.WideShapes Go.Deep
set_option maxHeartbeats 8000000
set_option maxRecDepth 100000
set_option linter.unusedVariables false
attribute [local go_sem ↓] Go.wp_at_zero Go.wp_at_succ
def spL(hb:Nat)(pg:List Int)(fl:Int):List Value:=.pointer (some ⟨hb,0,none⟩)::(pg.map (Value.int .i64)++[.int .i64 fl])
def FrB(vd vr:Value)(vs:List Value)(g:Nat):Prop:=vd.ownBlock=some g∨vr.ownBlock=some g∨∃v∈vs,v.ownBlock=some g
structure HostS(hb:Nat)(rs:List (List Int))(zs:List Int)(ad ar:Option Addr)(cd cr:Nat)(vs:List Value)(w:World):Prop where
 box:w.heap[hb]?=some (.cells #[.slice ad rs.length cd,.slice ar zs.length cr] 64 (0,0))
 own:FrOwn 0 w (.slice ad rs.length cd) (.slice ar zs.length cr) rs zs vs
def SpcS(sb hb:Nat)(pg:List Int)(fl:Int)(w:World):Prop:=w.heap[sb]?=some (.cells (spL hb pg fl).toArray 84 (0,0))
theorem zap{sb hb:Nat}{pg:List Int}{fl:Int}{w:World}(h:SpcS sb hb pg fl w)(hl:pg.length=16){p:Nat}(hp:p<16):w.cell? ⟨sb,1+p,none⟩=some (.int .i64 (pg.getD p (-1))):=by
 rw[zaa h (1+p),Nat.add_comm]
 rw[List.getElem?_toArray]
 unfold spL
 rw[List.getElem?_cons_succ,List.getElem?_append_left (by rw[List.length_map];omega),List.getElem?_map,List.getElem?_eq_getElem (by omega),zau (by omega)]
 rfl
theorem zaW{sb hb:Nat}{pg:List Int}{fl:Int}{w:World}(h:SpcS sb hb pg fl w):w.cell? ⟨sb,0,none⟩=some (.pointer (some ⟨hb,0,none⟩)):=by
 rw[zaa h 0];rfl
theorem zbp{sb hb:Nat}{pg:List Int}{fl:Int}{w:World}(h:SpcS sb hb pg fl w)(hl:pg.length=16):w.cell? ⟨sb,17,none⟩=some (.int .i64 fl):=by
 rw[zaa h 17,List.getElem?_toArray]
 unfold spL
 rw[List.getElem?_cons_succ,List.getElem?_append_right (by rw[List.length_map];omega),List.length_map,hl]
 rfl
theorem zaG{sb hb:Nat}{pg:List Int}{fl:Int}{w:World}(h:SpcS sb hb pg fl w):sb<w.heap.size:=(Array.getElem?_eq_some_iff.1 h).1
theorem ze3{sb hb:Nat}{pg:List Int}{fl:Int}{w:World}(h:SpcS sb hb pg fl w)(hl:pg.length=16){p:Nat}(hp:p<16)(n:Int):SpcS sb hb (pg.set p n) fl (w.setCell ⟨sb,1+p,none⟩ (.int .i64 n)):=by
 unfold SpcS
 rw[zaf h]
 congr 2
 rw[Nat.add_comm,List.setIfInBounds_toArray]
 congr 1
 unfold spL
 rw[List.set_cons_succ,List.set_append_left _ _ (by rw[List.length_map];omega),List.map_set]
theorem ziS{sb hb:Nat}{pg:List Int}{fl:Int}{w:World}(h:SpcS sb hb pg fl w)(hl:pg.length=16)(n:Int):SpcS sb hb pg n (w.setCell ⟨sb,17,none⟩ (.int .i64 n)):=by
 unfold SpcS
 rw[zaf h]
 congr 2
 rw[List.setIfInBounds_toArray]
 congr 1
 unfold spL
 rw[List.set_cons_succ,List.set_append_right _ _ (by rw[List.length_map];omega),List.length_map,hl]
 rfl
theorem FrOwn.frlt{b:Nat}{w:World}{vd vr:Value}{rs:List (List Int)}{zs:List Int}{vs:List Value}(h:FrOwn b w vd vr rs zs vs):∀g,FrB vd vr vs g→b≤g∧g<w.heap.size:=by
 rintro g (hg|hg|⟨v,hv,hg⟩)
 ·exact h.d.lt g hg
 ·exact h.r.lt g hg
 ·
  obtain⟨i,hi,rfl⟩:=List.getElem_of_mem hv
  have:=(h.rows i (by rw[←h.len];exact hi)).1
  rw[zau hi] at this
  exact this.lt g hg
theorem FrOwn.keep{b:Nat}{w w':World}{vd vr:Value}{rs:List (List Int)}{zs:List Int}{vs:List Value}(h:FrOwn b w vd vr rs zs vs)(hb:∀g,FrB vd vr vs g→w'.heap[g]?=w.heap[g]?):FrOwn b w' vd vr rs zs vs:=by
 have key:∀{e:TypeId} {v:Value} {n:Nat} {xs:List Value},w.ownsRow b e 1 v n xs→(∀g,v.ownBlock=some g→w'.heap[g]?=w.heap[g]?)→w'.ownsRow b e 1 v n xs:=by
  intro e v n xs h hv
  rcases h with⟨h1,h2|⟨g,cap,cur,rfl,hg,hh,r⟩⟩
  ·exact⟨h1,Or.inl h2⟩
  ·exact⟨h1,Or.inr ⟨g,cap,cur,rfl,hg,(hv g rfl).trans hh,r⟩⟩
 refine⟨h.len,key h.d (fun g hg=>hb g (Or.inl hg)),key h.r (fun g hg=>hb g (Or.inr (Or.inl hg))),fun j hj=>⟨key (h.rows j hj).1 (fun g hg=>hb g (Or.inr (Or.inr ⟨_,?_,hg⟩))),(h.rows j hj).2⟩⟩
 have hj':j<vs.length:=by rw[h.len];exact hj
 rw[zau hj']
 exact List.getElem_mem _
structure SpS(sb hb N:Nat)(oth om:List (List Int))(w:World)(F:Nat→Prop)(mem:List Int)(x:Bool)(rs:List (List Int))(zs:List Int)(ad ar:Option Addr)(cd cr:Nat)(vs:List Value)(pg:List Int):Prop where
 host:HostS hb rs zs ad ar cd cr vs w
 sp:SpcS sb hb pg (if x=true then 7 else 0) w
 ok:HOk rs zs (pg::oth)
 n:zs.length=N
 mem:mem=memP rs pg
 omm:om=oth.map (memP rs)
 blk:F=fun g=>g=sb∨g=hb∨FrB (.slice ad rs.length cd) (.slice ar zs.length cr) vs g
 full:x=true→N<16*(oth.length+1)
def SpSt(sb hb N:Nat)(oth om:List (List Int))(w:World)(F:Nat→Prop)(mem:List Int)(x:Bool):Prop:=∃rs zs ad ar cd cr vs pg,SpS sb hb N oth om w F mem x rs zs ad ar cd cr vs pg
section
variable {sb hb N:Nat} {oth om:List (List Int)} {w:World} {F:Nat→Prop} {mem:List Int} {x:Bool} {rs:List (List Int)} {zs:List Int} {ad ar:Option Addr} {cd cr:Nat} {vs:List Value} {pg:List Int}
theorem SpS.len(h:SpS sb hb N oth om w F mem x rs zs ad ar cd cr vs pg):pg.length=16:=h.ok.len pg (List.mem_cons_self ..)
theorem SpS.page(h:SpS sb hb N oth om w F mem x rs zs ad ar cd cr vs pg){p:Nat}(hp:p<16):pg.getD p (-1) = -1∨∃n:Nat,pg.getD p (-1)=n∧n<zs.length∧n<rs.length∧(rs.getD n []).length=16∧1≤zs.getD n 0∧zs.getD n 0≤200:=by
 have hl:=h.len
 have hm:pg.getD p (-1)∈pg:=zaO (by omega) _
 rcases h.ok.rng pg (List.mem_cons_self ..) _ hm with e|⟨e1,e2⟩
 ·exact Or.inl e
 ·
  refine Or.inr ⟨(pg.getD p (-1)).toNat,by omega,by omega,by have:=h.ok.ok.1;omega,?_⟩
  have hn:(((pg.getD p (-1)).toNat:Nat):Int)∈pg:=by rw[Int.toNat_of_nonneg e1];exact hm
  have h1:=zbu (sps:=pg::oth) (List.mem_cons_self ..) hn
  have h2:=h.ok.ref _ (show (pg.getD p (-1)).toNat<zs.length by omega)
  have h3:=h.ok.ok.2.2 _ (show (pg.getD p (-1)).toNat<zs.length by omega)
  exact⟨h3.2.2.2 (by omega),by omega,h3.2.1⟩
theorem zdk(h:SpSt sb hb N oth om w F mem x){at_:Int}(h0:0≤at_)(h1:at_<256):Calls Tryd.prog 39 #[.pointer (some ⟨sb,0,none⟩),.int .i64 at_] w fun e w'=>e=.returned (.tuple #[.int .i64 (mem.getD at_.toNat 0),.bool true])∧∃n,w'=w.drewN n:=by
 obtain⟨rs,zs,ad,ar,cd,cr,vs,pg,hs⟩:=h
 obtain⟨k,rfl⟩:=Int.eq_ofNat_of_zero_le h0
 have hk:k<256:=by omega
 have HM:=Lib.hid (show mem.getD (k:Int).toNat 0=pgW rs pg k from by rw[hs.mem,Int.toNat_natCast,zjW _ _ hk])
 have hp:k/16<16:=by omega
 have c1:=zap hs.sp hs.len hp
 have c0:=zaW hs.sp
 have lsb:=zaG hs.sp
 have hd:(k:Int).tdiv 16=((k/16:Nat):Int):=by rw[Int.tdiv_eq_ediv_of_nonneg (by omega)];rfl
 have hm:(k:Int).tmod 16=((k%16:Nat):Int):=by rw[Int.tmod_eq_emod_of_nonneg (by omega)];rfl
 have w1:IntKind.i64.wrap ((k/16:Nat):Int)=((k/16:Nat):Int):=IntWalk.i64_in _ (by omega)
 have w2:IntKind.i64.wrap ((k%16:Nat):Int)=((k%16:Nat):Int):=IntWalk.i64_in _ (by omega)
 have h2:¬(k:Int)<0:=by omega
 have h3:¬256≤(k:Int):=by omega
 generalize mem.getD (k:Int).toNat 0=zz at *
 rcases hs.page hp with e|⟨n,e,hn,hnr,hrow,-,-⟩
 ·
  have HZ:=Lib.hid (show pgW rs pg k=0 from by unfold pgW;rw[e,if_pos (by omega)])
  rw[e] at c1
  clear hs h0
  generalize k/16=p at *
  generalize k%16=j at *
  go_enter Tryd.func39,Tryd.ntmps39
  go_wp2
  go_ret2
  exact⟨by rw[HM.out,HZ.out];rfl,0,rfl⟩
 ·
  have HZ:=Lib.hid (show pgW rs pg k=(rs.getD n []).getD (k%16) 0 from by unfold pgW;rw[e,if_neg (by omega),Int.toNat_natCast])
  rw[e] at c1
  have d0:w.cell? ⟨hb,0,none⟩=some (.slice ad rs.length cd):=zaa hs.host.box 0
  have lhb:hb<w.heap.size:=(Array.getElem?_eq_some_iff.1 hs.host.box).1
  obtain⟨gd,cur,rfl,-,hgd,hcd⟩:=zaF hs.host.own.d (by omega)
  have lgd:gd<w.heap.size:=(Array.getElem?_eq_some_iff.1 hgd).1
  have hnv:n<vs.length:=by rw[hs.host.own.len];exact hnr
  have hrw:=(hs.host.own.rows n hnr).1
  rw[hrow] at hrw
  obtain⟨an,cn,hvn⟩:=zaY hrw
  rw[hvn] at hrw
  obtain⟨gn,curn,rfl,-,hgn,hcn⟩:=zaF hrw (by omega)
  have lgn:gn<w.heap.size:=(Array.getElem?_eq_some_iff.1 hgn).1
  have d1:w.cell? ⟨gd,n,none⟩=some (.slice (some ⟨gn,0,none⟩) 16 cn):=by
   rw[hs.host.own.d.cellAt n (by omega),List.getElem?_eq_getElem hnv,←hvn,zau hnv]
  have hj:k%16<16:=by omega
  have d2:w.cell? ⟨gn,k%16,none⟩=some (.int .i64 ((rs.getD n []).getD (k%16) 0)):=by
   rw[hrw.cellAt _ hj,List.getElem?_map,List.getElem?_eq_getElem (by omega),zau (l:=rs.getD n []) (by omega)];rfl
  have hnl:(n:Int)<(rs.length:Int):=by omega
  have hn0:¬(n:Int)<0:=by omega
  have hn1:(0:Int)≤(n:Int):=by omega
  have hj1:((k%16:Nat):Int)<16:=by omega
  have hj0:(0:Int)≤((k%16:Nat):Int):=by omega
  have lpp:((k/16:Nat):Int)<16:=by omega
  clear hs h0 hgd hgn hrw hvn hrow hnv hnr e
  generalize (rs.getD n []).getD (k%16) 0=z2 at *
  generalize k/16=p at *
  generalize k%16=j at *
  generalize rs.length=rl at *
  go_enter Tryd.func39,Tryd.ntmps39
  go_wp2
  go_ret2
  exact⟨by rw[HM.out,HZ.out];rfl,0,rfl⟩
end
def navH:List Nat→Code→Code
 | [],c=>c
 | 0::p,.seq a _=>navH p a
 | 1::p,.seq _ b=>navH p b
 | 0::p,.block _ c=>navH p c
 | 0::p,.loop c=>navH p c
 | 0::p,.scope c=>navH p c
 | 0::p,.cond _ a _=>navH p a
 | 1::p,.cond _ _ b=>navH p b
 | _,_=>.skip
noncomputable def zdl(p:List Nat):Code:=navH p (Tryd.f34.body.getD .skip)
theorem zek {sb hb p nd nr nd2 nr2 : Nat} {ad ar ad2 ar2 : Option Addr} {cd cr cd2 cr2 : Nat} {n fl : Int} {pg : List Int} {wz w1 w2 w3 w4 : World} (HB : wz.heap[hb]? = some (.cells #[.slice ad nd cd, .slice ar nr cr] 64 (0, 0))) (HS : SpcS sb hb pg fl wz) (hl : pg.length = 16) (hp : p < 16)
  (e1:w1=wz.setCell ⟨hb,0,none⟩ (.slice ad2 nd2 cd2)) (e2:w2=w1.setCell ⟨hb,1,none⟩ (.slice ar2 nr2 cr2)) (e3:w3=w2.setCell ⟨sb,1+p,none⟩ (.int .i64 n)) (e4:w4=w3.drew):Hid (w4.heap[hb]?=some (.cells #[.slice ad2 nd2 cd2,.slice ar2 nr2 cr2] 64 (0,0)))∧Hid (SpcS sb hb (pg.set p n) fl w4)∧Hid (OutF (fun g=>g=sb∨g=hb) wz w4):=by
 have hne:sb≠hb:=fun e=>by unfold SpcS at HS;rw[e,HB] at HS;injection HS with HS;injection HS with _ h2;exact absurd h2 (by decide)
 have b1:w1.heap[hb]?=some (.cells #[.slice ad2 nd2 cd2,.slice ar nr cr] 64 (0,0)):=by rw[e1];exact zaf HB _
 have b2:w2.heap[hb]?=some (.cells #[.slice ad2 nd2 cd2,.slice ar2 nr2 cr2] 64 (0,0)):=by rw[e2];exact zaf b1 _
 have s1:SpcS sb hb pg fl w1:=by rw[e1];exact zah HS hne _
 have s2:SpcS sb hb pg fl w2:=by rw[e2];exact zah s1 hne _
 have b3:w3.heap[hb]?=some (.cells #[.slice ad2 nd2 cd2,.slice ar2 nr2 cr2] 64 (0,0)):=by rw[e3];exact zah b2 hne.symm _
 have s3:SpcS sb hb (pg.set p n) fl w3:=by rw[e3];exact ze3 s2 hl hp n
 have o3:OutF (fun g=>g=sb∨g=hb) wz w3:=by rw[e3,e2,e1];exact(((OutF.refl _ wz).setCell (Or.inl (Or.inr rfl)) _).setCell (Or.inl (Or.inr rfl)) _).setCell (Or.inl (Or.inl rfl)) _
 rw[e4]
 exact⟨Lib.hid b3,Lib.hid s3,Lib.hid (o3.drewN 1)⟩
theorem zla{Q0:Ending→World→Prop}{sb hb fb p nd nr nd2 nr2:Nat}{ad ar ad2 ar2:Option Addr}{cd cr cd2 cr2:Nat}{n fl:Int}{pg:List Int}{wz:World}{K:Act→World→Prop}{x1 x2 x3 x4 x5 x6 x10 x11 x12 x13 x14 x15 x16 x17 x18 x19 x20 x21 x22 x23 x24 x25 x26 x27 x28 x29 x30 x31 x32 x33 x34 x35 x36 x37 x38 x39 x40 x41 x42 x43 x44 x45 x46 x47 x48 x49 x50 x51 x52 x53 x54 x55 x56 x57 x58 x59 x60 x61 x62 x63 x64 x65 x66 x67 x68 x69 x70 x71 x72 x73 x74 x75 x76 x77 x78 x79 x80 x81 x82 x83 x84 x85 x86 x87 x88 x89 x90 x91 x92 x93 x94 x95 x96 x97 x98 x99:Value}(HB:Hid (wz.heap[hb]?=some (.cells #[.slice ad nd cd,.slice ar nr cr] 64 (0,0))))(HS:Hid (SpcS sb hb pg fl wz))(HF:Hid (wz.heap[fb]?=some (.cells #[.slice ad2 nd2 cd2,.slice ar2 nr2 cr2] 60 (0,0))))(hl:pg.length=16)(hp:p<16)(hK:∀(y14 y15 y16 y17 y18 y19 y20 y21 y22 y23 y24 y25 y26 y27 y28 y29 y30 y31 y32 y33 y34 y35 y36 y37 y38 y39 y40 y41 y42 y43 y44 y45 y46 y47 y48 y49 y50 y51 y52 y53 y54 y55 y56 y57 y58 y59 y60 y61 y62 y63 y64 y65 y66 y67 y68 y69 y70 y71 y72 y73 y74 y75 y76 y77 y78 y79 y80 y81 y82 y83 y84 y85 y86 y87 y88 y89 y90 y91 y92 y93 y94 y95 y96 y97 y98 y99:Value)  (wx:World),(Hid (wx.heap[hb]?=some (.cells #[.slice ad2 nd2 cd2,.slice ar2 nr2 cr2] 64 (0,0)))∧Hid (SpcS sb hb (pg.set p n) fl wx)∧Hid (OutF (fun g=>g=sb∨g=hb) wz wx))→K ⟨List.toArray (.pointer (some ⟨sb,0,none⟩)::x1::x2::x3::x4::x5::x6 :: .int .i64 (p:Int) :: .pointer (some ⟨fb,0,none⟩) :: .int .i64 n::x10::x11::x12::x13::y14::y15::y16::y17::y18::y19::y20::y21::y22::y23::y24::y25::y26::y27::y28::y29::y30::y31::y32::y33::y34::y35::y36::y37::y38::y39::y40::y41::y42::y43::y44::y45::y46::y47::y48::y49::y50::y51::y52::y53::y54::y55::y56::y57::y58::y59::y60::y61::y62::y63::y64::y65::y66::y67::y68::y69::y70::y71::y72::y73::y74::y75::y76::y77::y78::y79::y80::y81::y82::y83::y84::y85::y86::y87::y88::y89::y90::y91::y92::y93::y94::y95::y96::y97::y98::y99::[]),[]⟩ wx):(zdl [1,1,1,0,1,0,1,1]).wp Tryd.prog (Exit.then K (bodyPost Tryd.prog Tryd.f34 Q0)) ⟨List.toArray (.pointer (some ⟨sb,0,none⟩)::x1::x2::x3::x4::x5::x6 :: .int .i64 (p:Int) :: .pointer (some ⟨fb,0,none⟩) :: .int .i64 n::x10::x11::x12::x13::x14::x15::x16::x17::x18::x19::x20::x21::x22::x23::x24::x25::x26::x27::x28::x29::x30::x31::x32::x33::x34::x35::x36::x37::x38::x39::x40::x41::x42::x43::x44::x45::x46::x47::x48::x49::x50::x51::x52::x53::x54::x55::x56::x57::x58::x59::x60::x61::x62::x63::x64::x65::x66::x67::x68::x69::x70::x71::x72::x73::x74::x75::x76::x77::x78::x79::x80::x81::x82::x83::x84::x85::x86::x87::x88::x89::x90::x91::x92::x93::x94::x95::x96::x97::x98::x99::[]),[]⟩ wz:=by
 have HK:=Lib.hid hK
 clear hK
 conv=>arg 2;whnf
 go_cut [] from 14 (fun  wx=>Hid (wx.heap[hb]?=some (.cells #[.slice ad2 nd2 cd2,.slice ar2 nr2 cr2] 64 (0,0)))∧Hid (SpcS sb hb (pg.set p n) fl wx)∧Hid (OutF (fun g=>g=sb∨g=hb) wz wx))
 case rest=>
  exact HK.out _ _ _ _ _ _ _ _ _ _ _ _ _ _ _ _ _ _ _ _ _ _ _ _ _ _ _ _ _ _ _ _ _ _ _ _ _ _ _ _ _ _ _ _ _ _ _ _ _ _ _ _ _ _ _ _ _ _ _ _ _ _ _ _ _ _ _ _ _ _ _ _ _ _ _ _ _ _ _ _ _ _ _ _ _ _ _ hcut
 case first=>
  clear HK
  have c0:=zaW HS.out
  have c1:=zap HS.out hl hp
  have l1:=zaG HS.out
  have b0:wz.cell? ⟨hb,0,none⟩=some (.slice ad nd cd):=zaa HB.out 0
  have b1:wz.cell? ⟨hb,1,none⟩=some (.slice ar nr cr):=zaa HB.out 1
  have g0:=zab HB.out 0
  have g1:=zab HB.out 1
  have k1:=zab HS.out (1+p)
  have f0:wz.cell? ⟨fb,0,none⟩=some (.slice ad2 nd2 cd2):=zaa HF.out 0
  have f1:wz.cell? ⟨fb,1,none⟩=some (.slice ar2 nr2 cr2):=zaa HF.out 1
  have lh:hb<wz.heap.size:=(Array.getElem?_eq_some_iff.1 HB.out).1
  have lf:fb<wz.heap.size:=(Array.getElem?_eq_some_iff.1 HF.out).1
  have hne:¬sb=hb:=fun e=>by have h:=HS.out;unfold SpcS at h;rw[e,HB.out] at h;injection h with h;injection h with _ h2;exact absurd h2 (by decide)
  have hne2:¬fb=hb:=fun e=>by have h:=HF.out;rw[e,HB.out] at h;injection h with h;injection h with _ h2;exact absurd h2 (by decide)
  have hne3:¬fb=sb:=fun e=>by have h:=HS.out;unfold SpcS at h;rw[←e,HF.out] at h;injection h with h;injection h with _ h2;exact absurd h2 (by decide)
  have hpi:(p:Int)<16:=by omega
  have hp0:(0:Int)≤(p:Int):=by omega
  go_region_with fail
  all_goals (go_wp2_with fail;go_meet)
  all_goals (exact zek HB.out HS.out hl hp rfl rfl rfl rfl)
theorem zjm{Q0:Ending→World→Prop}{sb hb fb p nd nr nd2 nr2:Nat}{ad ar ad2 ar2:Option Addr}{cd cr cd2 cr2:Nat}{n fl:Int}{pg:List Int}{wz:World}{K:Act→World→Prop}{x1 x2 x3 x4 x5 x6 x8 x9 x10 x13 x14 x15 x16 x17 x18 x19 x20 x21 x22 x23 x24 x25 x26 x27 x28 x29 x30 x31 x32 x33 x34 x35 x36 x37 x38 x39 x40 x41 x42 x43 x44 x45 x46 x47 x48 x49 x50 x51 x52 x53 x54 x55 x56 x57 x58 x59 x60 x61 x62 x63 x64 x65 x66 x67 x68 x69 x70 x71 x72 x73 x74 x75 x76 x77 x78 x79 x80 x81 x82 x83 x84 x85 x86 x87 x88 x89 x90 x91 x92 x93 x94 x95 x96 x97 x98 x99:Value}(HB:Hid (wz.heap[hb]?=some (.cells #[.slice ad nd cd,.slice ar nr cr] 64 (0,0))))(HS:Hid (SpcS sb hb pg fl wz))(HF:Hid (wz.heap[fb]?=some (.cells #[.slice ad2 nd2 cd2,.slice ar2 nr2 cr2] 60 (0,0))))(hl:pg.length=16)(hp:p<16)(hK:∀(y14 y15 y16 y17 y18 y19 y20 y21 y22 y23 y24 y25 y26 y27 y28 y29 y30 y31 y32 y33 y34 y35 y36 y37 y38 y39 y40 y41 y42 y43 y44 y45 y46 y47 y48 y49 y50 y51 y52 y53 y54 y55 y56 y57 y58 y59 y60 y61 y62 y63 y64 y65 y66 y67 y68 y69 y70 y71 y72 y73 y74 y75 y76 y77 y78 y79 y80 y81 y82 y83 y84 y85 y86 y87 y88 y89 y90 y91 y92 y93 y94 y95 y96 y97 y98 y99:Value)  (wx:World),(Hid (wx.heap[hb]?=some (.cells #[.slice ad2 nd2 cd2,.slice ar2 nr2 cr2] 64 (0,0)))∧Hid (SpcS sb hb (pg.set p n) fl wx)∧Hid (OutF (fun g=>g=sb∨g=hb) wz wx))→K ⟨List.toArray (.pointer (some ⟨sb,0,none⟩)::x1::x2::x3::x4::x5::x6 :: .int .i64 (p:Int)::x8::x9::x10 :: .pointer (some ⟨fb,0,none⟩) :: .int .i64 n::x13::y14::y15::y16::y17::y18::y19::y20::y21::y22::y23::y24::y25::y26::y27::y28::y29::y30::y31::y32::y33::y34::y35::y36::y37::y38::y39::y40::y41::y42::y43::y44::y45::y46::y47::y48::y49::y50::y51::y52::y53::y54::y55::y56::y57::y58::y59::y60::y61::y62::y63::y64::y65::y66::y67::y68::y69::y70::y71::y72::y73::y74::y75::y76::y77::y78::y79::y80::y81::y82::y83::y84::y85::y86::y87::y88::y89::y90::y91::y92::y93::y94::y95::y96::y97::y98::y99::[]),[]⟩ wx):(zdl [1,1,1,1,1,1,0]).wp Tryd.prog (Exit.then K (bodyPost Tryd.prog Tryd.f34 Q0)) ⟨List.toArray (.pointer (some ⟨sb,0,none⟩)::x1::x2::x3::x4::x5::x6 :: .int .i64 (p:Int)::x8::x9::x10 :: .pointer (some ⟨fb,0,none⟩) :: .int .i64 n::x13::x14::x15::x16::x17::x18::x19::x20::x21::x22::x23::x24::x25::x26::x27::x28::x29::x30::x31::x32::x33::x34::x35::x36::x37::x38::x39::x40::x41::x42::x43::x44::x45::x46::x47::x48::x49::x50::x51::x52::x53::x54::x55::x56::x57::x58::x59::x60::x61::x62::x63::x64::x65::x66::x67::x68::x69::x70::x71::x72::x73::x74::x75::x76::x77::x78::x79::x80::x81::x82::x83::x84::x85::x86::x87::x88::x89::x90::x91::x92::x93::x94::x95::x96::x97::x98::x99::[]),[]⟩ wz:=by
 have HK:=Lib.hid hK
 clear hK
 conv=>arg 2;whnf
 go_cut [] from 14 (fun  wx=>Hid (wx.heap[hb]?=some (.cells #[.slice ad2 nd2 cd2,.slice ar2 nr2 cr2] 64 (0,0)))∧Hid (SpcS sb hb (pg.set p n) fl wx)∧Hid (OutF (fun g=>g=sb∨g=hb) wz wx))
 case rest=>
  exact HK.out _ _ _ _ _ _ _ _ _ _ _ _ _ _ _ _ _ _ _ _ _ _ _ _ _ _ _ _ _ _ _ _ _ _ _ _ _ _ _ _ _ _ _ _ _ _ _ _ _ _ _ _ _ _ _ _ _ _ _ _ _ _ _ _ _ _ _ _ _ _ _ _ _ _ _ _ _ _ _ _ _ _ _ _ _ _ _ hcut
 case first=>
  clear HK
  have c0:=zaW HS.out
  have c1:=zap HS.out hl hp
  have l1:=zaG HS.out
  have b0:wz.cell? ⟨hb,0,none⟩=some (.slice ad nd cd):=zaa HB.out 0
  have b1:wz.cell? ⟨hb,1,none⟩=some (.slice ar nr cr):=zaa HB.out 1
  have g0:=zab HB.out 0
  have g1:=zab HB.out 1
  have k1:=zab HS.out (1+p)
  have f0:wz.cell? ⟨fb,0,none⟩=some (.slice ad2 nd2 cd2):=zaa HF.out 0
  have f1:wz.cell? ⟨fb,1,none⟩=some (.slice ar2 nr2 cr2):=zaa HF.out 1
  have lh:hb<wz.heap.size:=(Array.getElem?_eq_some_iff.1 HB.out).1
  have lf:fb<wz.heap.size:=(Array.getElem?_eq_some_iff.1 HF.out).1
  have hne:¬sb=hb:=fun e=>by have h:=HS.out;unfold SpcS at h;rw[e,HB.out] at h;injection h with h;injection h with _ h2;exact absurd h2 (by decide)
  have hne2:¬fb=hb:=fun e=>by have h:=HF.out;rw[e,HB.out] at h;injection h with h;injection h with _ h2;exact absurd h2 (by decide)
  have hne3:¬fb=sb:=fun e=>by have h:=HS.out;unfold SpcS at h;rw[←e,HF.out] at h;injection h with h;injection h with _ h2;exact absurd h2 (by decide)
  have hpi:(p:Int)<16:=by omega
  have hp0:(0:Int)≤(p:Int):=by omega
  go_region_with fail
  all_goals (go_wp2_with fail;go_meet)
  all_goals (exact zek HB.out HS.out hl hp rfl rfl rfl rfl)
theorem zbv{base:Nat}{w w':World}{vd vr:Value}{rs:List (List Int)}{zs:List Int}{vs:List Value}(h:FrOwn base w vd vr rs zs vs)(hb:Below w.heap.size w w'):FrOwn base w' vd vr rs zs vs:=
 h.keep (fun g hg=>hb.block g (h.frlt g hg).2)
end Go.Proofs.YtflonfcemlfbdaaDoor
