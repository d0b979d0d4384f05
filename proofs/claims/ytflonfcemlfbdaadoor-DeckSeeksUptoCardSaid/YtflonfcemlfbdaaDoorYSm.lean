/- Several texts joined, each with its own heading in the notes: Sums of counts; in plain Lean. What was recorded is what a replay does, in plain Lean: the recording's states, one by one; its events; the guest of the events at each count. No condition beyond those of each row. -/
import Derived.Test.YtflonfcemlfbdaaDoorYMem
import Derived.Test.YtflonfcemlfbdaaDoorYPr
namespace Go.Proofs.YtflonfcemlfbdaaDoor
set_option linter.unusedVariables false
def sumN(f:Nat→Nat):Nat→Nat
 | 0=>0
 | m+1=>sumN f m+f m
theorem zhI{f:Nat→Nat}:∀{M:Nat},(∀m,m<M→1≤f m)→M≤sumN f M
 | 0,_=>Nat.zero_le _
 | M+1,h=>by
  have h1:=zhI (f:=f) (M:=M) (fun m hm=>h m (by omega))
  have h2:=h M (by omega)
  unfold sumN;omega
theorem zdH(f g:Nat→Nat):∀M,sumN (fun n=>f n+g n) M=sumN f M+sumN g M
 | 0=>rfl
 | M+1=>by simp only[sumN,zdH f g M];omega
theorem zcZ{f:Nat→Nat}(h:∀n,f n=0):∀M,sumN f M=0
 | 0=>rfl
 | M+1=>by unfold sumN;rw[zcZ h M,h M]
theorem zfM(x:Int):∀M:Nat,sumN (fun n=>if x=(n:Int) then 1 else 0) M=if 0≤x∧x<M then 1 else 0
 | 0=>by rw[if_neg (by omega)];rfl
 | M+1=>by
  simp only[sumN,zfM x M]
  by_cases h:x=(M:Int)
  ·rw[if_pos h,if_neg (by omega),if_pos (by omega)]
  ·
   rw[if_neg h]
   by_cases h2:0≤x∧x<M
   ·rw[if_pos h2,if_pos (by omega)]
   ·rw[if_neg h2,if_neg (by omega)]
theorem zeh:∀(l:List Int) (M:Nat),sumN (fun n=>l.count (n:Int)) M≤l.length
 | [],M=>by
  rw[zcZ (fun n=>List.count_nil)];exact Nat.zero_le _
 | x::l,M=>by
  have h1:=zeh l M
  have e:(fun n:Nat=>(x::l).count (n:Int))=fun n:Nat=>l.count (n:Int)+(if x=(n:Int) then 1 else 0):=by
   funext n;simp only[List.count_cons,beq_iff_eq]
  have h3:=zfM x M
  rw[e,zdH,h3,List.length_cons]
  split<;>omega
section
variable (is vs:List Int) (bs:List (List Int)) (ds:List Int)
def recI(s:RSs):Nat→RSs
 | 0=>s
 | k+1=>recS is vs bs ds (recI s k)
def newR(s:RSs):List Ev:=zbU is bs s++(if zc6 is bs s then [⟨s.m.count,3,[valR is vs bs s]⟩] else [])
end
section
variable {is vs:List Int} {bs:List (List Int)} {ds:List Int}
theorem zbP(s:RSs):(recS is vs bs ds s).all=s.all++newR is vs bs s:=by
 show s.all++zbU is bs s++_=_
 unfold newR
 rw[List.append_assoc]
theorem zhJ(s:RSs):∀x∈newR is vs bs s,x.at_=s.m.count:=by
 intro x hx
 unfold newR zbU at hx
 rcases List.mem_append.1 hx with hx|hx
 ·
  rcases List.mem_append.1 hx with hx|hx
  ·
   split at hx
   ·rw[List.mem_singleton.1 hx]
   ·cases hx
  ·
   split at hx
   ·rw[List.mem_singleton.1 hx]
   ·cases hx
 ·
  split at hx
  ·rw[List.mem_singleton.1 hx]
  ·cases hx
theorem zhK(s:RSs):(newR is vs bs s).Pairwise fun a b=>4*a.at_+a.kind<4*b.at_+b.kind:=by
 unfold newR zbU
 split<;>split<;>split<;>simp
theorem zgo(s:RSs):∀x∈newR is vs bs s,x.kind=1→x.data=[]:=by
 intro x hx hk
 unfold newR zbU at hx
 rcases List.mem_append.1 hx with hx|hx
 ·
  rcases List.mem_append.1 hx with hx|hx
  ·
   split at hx
   ·rw[List.mem_singleton.1 hx]
   ·cases hx
  ·
   split at hx
   ·rw[List.mem_singleton.1 hx] at hk;exact absurd (show (2:Int)=1 from hk) (by decide)
   ·cases hx
 ·
  split at hx
  ·rw[List.mem_singleton.1 hx] at hk;exact absurd (show (3:Int)=1 from hk) (by decide)
  ·cases hx
theorem zjV(s:RSs):(newR is vs bs s).foldl (zaB s.m.count) (false,[],0)=(irqR is s.m.count,blkR bs s,valR is vs bs s):=by
 unfold newR zbU
 have hb:s.due≠s.m.count→blkR bs s=[]:=fun h=>by unfold blkR;rw[if_neg h]
 have hv:zc6 is bs s=false→valR is vs bs s=0:=fun h=>by unfold valR;rw[h];rfl
 by_cases h1:irqR is s.m.count=true
 ·
  by_cases h2:s.due=s.m.count
  ·
   cases h3:zc6 is bs s with
   | true=>rw[if_pos h1,if_pos h2,h1];simp[zaB]
   | false=>rw[if_pos h1,if_pos h2,h1,hv h3];simp[zaB]
  ·
   cases h3:zc6 is bs s with
   | true=>rw[if_pos h1,if_neg h2,h1,hb h2];simp[zaB]
   | false=>rw[if_pos h1,if_neg h2,h1,hb h2,hv h3];simp[zaB]
 ·
  have h1':irqR is s.m.count=false:=by cases e:irqR is s.m.count with|false=>rfl|true=>exact absurd e h1
  by_cases h2:s.due=s.m.count
  ·
   cases h3:zc6 is bs s with
   | true=>rw[if_neg h1,if_pos h2,h1'];simp[zaB]
   | false=>rw[if_neg h1,if_pos h2,h1',hv h3];simp[zaB]
  ·
   cases h3:zc6 is bs s with
   | true=>rw[if_neg h1,if_neg h2,h1',hb h2];simp[zaB]
   | false=>rw[if_neg h1,if_neg h2,h1',hb h2,hv h3];simp
structure RecG(s:RSs)(k:Nat):Prop where
 ok:RecOk s
 cnt:s.m.count=k
 evl:EvL s.all
 lt:∀x∈s.all,x.at_<k
 emp:∀x∈s.all,x.kind=1→x.data=[]
theorem RecG.step(hw:WdOk is vs bs ds){s:RSs}{k:Nat}(h:RecG s k)(hf:s.m.fin=0)(hk:k<3000)(hl:(recS is vs bs ds s).all.length≤1000):RecG (recS is vs bs ds s) (k+1):=by
 have hc:=h.cnt
 have hok:=h.ok.step hw hf (by omega) hl
 have hct:(recS is vs bs ds s).m.count=s.m.count+1:=zdo s hf
 have hat:=zhJ (is:=is) (vs:=vs) (bs:=bs) s
 refine⟨hok,by rw[hct,hc];rfl,⟨hok.good,?_⟩,?_,?_⟩
 ·
  rw[zbP]
  refine List.pairwise_append.2 ⟨h.evl.rise,zhK s,fun x hx y hy=>?_⟩
  have h1:=h.lt x hx
  have h2:=hat y hy
  have h3:=(h.evl.good x hx).k3
  have h4:=(hok.good y (by rw[zbP];exact List.mem_append_right _ hy)).k1
  omega
 ·
  rw[zbP]
  intro x hx
  rcases List.mem_append.1 hx with hx|hx
  ·have:=h.lt x hx;push_cast;omega
  ·have:=hat x hx;push_cast;omega
 ·
  rw[zbP]
  intro x hx
  rcases List.mem_append.1 hx with hx|hx
  ·exact h.emp x hx
  ·exact zgo s x hx
structure RecT(is vs:List Int)(bs:List (List Int))(ds:List Int)(s0:RSs)(N:Nat):Prop where
 wd:WdOk is vs bs ds
 go:∀i,i<N→(recI is vs bs ds s0 i).m.fin=0
 few:∀i,i≤N→(recI is vs bs ds s0 i).all.length≤1000
 le:N≤3000
 g0:RecG s0 0
theorem RecT.at{s0:RSs}{N:Nat}(h:RecT is vs bs ds s0 N):∀k,k≤N→RecG (recI is vs bs ds s0 k) k
 | 0,_=>h.g0
 | k+1,hk=>(RecT.at h k (by omega)).step h.wd (h.go k (by omega)) (by have:=h.le;omega) (h.few (k+1) hk)
theorem RecT.pre{s0:RSs}{N:Nat}(h:RecT is vs bs ds s0 N)(k:Nat):∀d,k+d≤N→∃rest,(recI is vs bs ds s0 (k+d)).all=(recI is vs bs ds s0 k).all++rest∧∀x∈rest,(k:Int)≤x.at_
 | 0,_=>⟨[],by rw[List.append_nil];rfl,fun x hx=>(by cases hx)⟩
 | d+1,hd=>by
  obtain⟨r,h1,h2⟩:=RecT.pre h k d (by omega)
  have hg:=h.at (k+d) (by omega)
  refine⟨r++newR is vs bs (recI is vs bs ds s0 (k+d)),?_,fun x hx=>?_⟩
  ·
   show (recS is vs bs ds (recI is vs bs ds s0 (k+d))).all=_
   rw[zbP,h1,List.append_assoc]
  ·
   rcases List.mem_append.1 hx with hx|hx
   ·exact h2 x hx
   ·
    have h3:=zhJ _ x hx
    have h4:=hg.cnt
    omega
theorem zgp{k:Int}{l:List Ev}(h:∀x∈l,k+1≤x.at_)(a:Bool×List Int×Int):l.foldl (zaB k) a=a:=zcV (fun x hx=>by have:=h x hx;omega) a
theorem RecT.in{s0:RSs}{N:Nat}(h:RecT is vs bs ds s0 N){k:Nat}(hk:k<N):inA (recI is vs bs ds s0 N).all k=(irqR is (recI is vs bs ds s0 k).m.count,blkR bs (recI is vs bs ds s0 k),valR is vs bs (recI is vs bs ds s0 k)):=by
 have hg:=h.at k (by omega)
 obtain⟨r,h1,h2⟩:=h.pre (k+1) (N-(k+1)) (by omega)
 have e:k+1+(N-(k+1))=N:=by omega
 rw[e] at h1
 have h3:(recI is vs bs ds s0 (k+1)).all=(recI is vs bs ds s0 k).all++newR is vs bs (recI is vs bs ds s0 k):=zbP _
 rw[h1,h3,List.append_assoc,zfH hg.lt,List.foldl_append]
 have h4:=zjV (is:=is) (vs:=vs) (bs:=bs) (recI is vs bs ds s0 k)
 rw[hg.cnt] at h4 ⊢
 rw[h4]
 exact zgp (fun x hx=>by have:=h2 x hx;push_cast at this;exact this) _
theorem RecT.run{s0:RSs}{N:Nat}(h:RecT is vs bs ds s0 N):∀k,k≤N→runM (recI is vs bs ds s0 N).all s0.m k=(recI is vs bs ds s0 k).m
 | 0,_=>rfl
 | k+1,hk=>by
  have ih:=RecT.run h k (by omega)
  have hi:=h.in (k:=k) (by omega)
  show (onM (runM (recI is vs bs ds s0 N).all s0.m k) (recI is vs bs ds s0 N).all k).1=(recS is vs bs ds (recI is vs bs ds s0 k)).m
  unfold onM
  rw[ih,hi]
  exact(zh8 _).symm
end
end Go.Proofs.YtflonfcemlfbdaaDoor
