/- Several texts joined, each with its own heading in the notes: Sums of counts; in plain Lean. What was recorded is what a replay does, in plain Lean: the recording's states, one by one; its events; the guest of the events at each count. No condition beyond those of each row. -/
import Derived.Test.YtkahciebbnhobaaGreatDoorYMem
import Derived.Test.YtkahciebbnhobaaGreatDoorYPr
namespace Go.Proofs.YtkahciebbnhobaaGreatDoor
set_option linter.unusedVariables false
def sumN (f:Nat→Nat):Nat→Nat
 | 0=>0
 | m+1=>sumN f m+f m
theorem sumN_ge {f:Nat→Nat}:∀ {M:Nat},(∀ m,m < M→1≤f m)→M≤sumN f M
 | 0,_=>Nat.zero_le _
 | M+1,h=>by
  have h1:=sumN_ge (f:=f) (M:=M) (fun m hm=>h m (by omega))
  have h2:=h M (by omega)
  unfold sumN;omega
theorem sumN_add (f g:Nat→Nat):∀ M,sumN (fun n=>f n+g n) M=sumN f M+sumN g M
 | 0=>rfl
 | M+1=>by simp only [sumN,sumN_add f g M];omega
theorem sumN_zero {f:Nat→Nat} (h:∀ n,f n=0):∀ M,sumN f M=0
 | 0=>rfl
 | M+1=>by unfold sumN;rw [sumN_zero h M,h M]
theorem sumN_one (x:Int):∀ M:Nat,sumN (fun n=>if x=(n:Int) then 1 else 0) M=if 0≤x∧x < M then 1 else 0
 | 0=>by rw [if_neg (by omega)];rfl
 | M+1=>by
  simp only [sumN,sumN_one x M]
  by_cases h:x=(M:Int)
  · rw [if_pos h,if_neg (by omega),if_pos (by omega)]
  ·
   rw [if_neg h]
   by_cases h2:0≤x∧x < M
   · rw [if_pos h2,if_pos (by omega)]
   · rw [if_neg h2,if_neg (by omega)]
theorem sum_count:∀ (l:List Int) (M:Nat),sumN (fun n=>l.count (n:Int)) M≤l.length
 | [],M=>by
  rw [sumN_zero (fun n=>List.count_nil)];exact Nat.zero_le _
 | x :: l,M=>by
  have h1:=sum_count l M
  have e:(fun n:Nat=>(x :: l).count (n:Int))=fun n:Nat=>l.count (n:Int)+(if x=(n:Int) then 1 else 0):=by
   funext n;simp only [List.count_cons,beq_iff_eq]
  have h3:=sumN_one x M
  rw [e,sumN_add,h3,List.length_cons]
  split <;> omega
section
variable (is vs:List Int) (bs:List (List Int)) (ds:List Int)
def recI (s:RSs):Nat→RSs
 | 0=>s
 | k+1=>recS is vs bs ds (recI s k)
def newR (s:RSs):List Ev:=aheadR is bs s ++ (if asksR is bs s then [⟨s.m.count,3,[valR is vs bs s]⟩] else [])
end
section
variable {is vs:List Int} {bs:List (List Int)} {ds:List Int}
theorem recI_head (s:RSs):∀ k,recI is vs bs ds (recS is vs bs ds s) k=recI is vs bs ds s (k+1)
 | 0=>rfl
 | k+1=>by show recS is vs bs ds (recI is vs bs ds (recS is vs bs ds s) k)=_;rw [recI_head s k];rfl
theorem recS_all (s:RSs):(recS is vs bs ds s).all=s.all ++ newR is vs bs s:=by
 show s.all ++ aheadR is bs s ++ _=_
 unfold newR
 rw [List.append_assoc]
theorem newR_at (s:RSs):∀ x∈newR is vs bs s,x.at_=s.m.count:=by
 intro x hx
 unfold newR aheadR at hx
 rcases List.mem_append.1 hx with hx | hx
 ·
  rcases List.mem_append.1 hx with hx | hx
  ·
   split at hx
   · rw [List.mem_singleton.1 hx]
   · cases hx
  ·
   split at hx
   · rw [List.mem_singleton.1 hx]
   · cases hx
 ·
  split at hx
  · rw [List.mem_singleton.1 hx]
  · cases hx
theorem newR_rise (s:RSs):(newR is vs bs s).Pairwise fun a b=>4 * a.at_+a.kind < 4 * b.at_+b.kind:=by
 unfold newR aheadR
 split <;> split <;> split <;> simp
theorem newR_empty (s:RSs):∀ x∈newR is vs bs s,x.kind=1→x.data=[]:=by
 intro x hx hk
 unfold newR aheadR at hx
 rcases List.mem_append.1 hx with hx | hx
 ·
  rcases List.mem_append.1 hx with hx | hx
  ·
   split at hx
   · rw [List.mem_singleton.1 hx]
   · cases hx
  ·
   split at hx
   · rw [List.mem_singleton.1 hx] at hk;exact absurd (show (2:Int)=1 from hk) (by decide)
   · cases hx
 ·
  split at hx
  · rw [List.mem_singleton.1 hx] at hk;exact absurd (show (3:Int)=1 from hk) (by decide)
  · cases hx
theorem newR_in (s:RSs):(newR is vs bs s).foldl (inStep s.m.count) (false,[],0)=(irqR is s.m.count,blkR bs s,valR is vs bs s):=by
 unfold newR aheadR
 have hb:s.due≠s.m.count→blkR bs s=[]:=fun h=>by unfold blkR;rw [if_neg h]
 have hv:asksR is bs s=false→valR is vs bs s=0:=fun h=>by unfold valR;rw [h];rfl
 by_cases h1:irqR is s.m.count=true
 ·
  by_cases h2:s.due=s.m.count
  ·
   cases h3:asksR is bs s with
   | true=>rw [if_pos h1,if_pos h2,h1];simp [inStep]
   | false=>rw [if_pos h1,if_pos h2,h1,hv h3];simp [inStep]
  ·
   cases h3:asksR is bs s with
   | true=>rw [if_pos h1,if_neg h2,h1,hb h2];simp [inStep]
   | false=>rw [if_pos h1,if_neg h2,h1,hb h2,hv h3];simp [inStep]
 ·
  have h1':irqR is s.m.count=false:=by cases e:irqR is s.m.count with | false=>rfl | true=>exact absurd e h1
  by_cases h2:s.due=s.m.count
  ·
   cases h3:asksR is bs s with
   | true=>rw [if_neg h1,if_pos h2,h1'];simp [inStep]
   | false=>rw [if_neg h1,if_pos h2,h1',hv h3];simp [inStep]
  ·
   cases h3:asksR is bs s with
   | true=>rw [if_neg h1,if_neg h2,h1',hb h2];simp [inStep]
   | false=>rw [if_neg h1,if_neg h2,h1',hb h2,hv h3];simp
structure RecG (s:RSs) (k:Nat):Prop where
 ok:RecOk s
 cnt:s.m.count=k
 evl:EvL s.all
 lt:∀ x∈s.all,x.at_ < k
 emp:∀ x∈s.all,x.kind=1→x.data=[]
theorem RecG.step (hw:WdOk is vs bs ds) {s:RSs} {k:Nat} (h:RecG s k) (hf:s.m.fin=0) (hk:k < 3000) (hl:(recS is vs bs ds s).all.length≤1000):RecG (recS is vs bs ds s) (k+1):=by
 have hc:=h.cnt
 have hok:=h.ok.step hw hf (by omega) hl
 have hct:(recS is vs bs ds s).m.count=s.m.count+1:=ranR_count s hf
 have hat:=newR_at (is:=is) (vs:=vs) (bs:=bs) s
 refine⟨hok,by rw [hct,hc];rfl,⟨hok.good,?_⟩,?_,?_⟩
 ·
  rw [recS_all]
  refine List.pairwise_append.2 ⟨h.evl.rise,newR_rise s,fun x hx y hy=>?_⟩
  have h1:=h.lt x hx
  have h2:=hat y hy
  have h3:=(h.evl.good x hx).k3
  have h4:=(hok.good y (by rw [recS_all];exact List.mem_append_right _ hy)).k1
  omega
 ·
  rw [recS_all]
  intro x hx
  rcases List.mem_append.1 hx with hx | hx
  · have:=h.lt x hx;push_cast;omega
  · have:=hat x hx;push_cast;omega
 ·
  rw [recS_all]
  intro x hx
  rcases List.mem_append.1 hx with hx | hx
  · exact h.emp x hx
  · exact newR_empty s x hx
structure RecT (is vs:List Int) (bs:List (List Int)) (ds:List Int) (s0:RSs) (N:Nat):Prop where
 wd:WdOk is vs bs ds
 go:∀ i,i < N→(recI is vs bs ds s0 i).m.fin=0
 few:∀ i,i≤N→(recI is vs bs ds s0 i).all.length≤1000
 le:N≤3000
 g0:RecG s0 0
theorem RecT.at {s0:RSs} {N:Nat} (h:RecT is vs bs ds s0 N):∀ k,k≤N→RecG (recI is vs bs ds s0 k) k
 | 0,_=>h.g0
 | k+1,hk=>(RecT.at h k (by omega)).step h.wd (h.go k (by omega)) (by have:=h.le;omega) (h.few (k+1) hk)
theorem RecT.pre {s0:RSs} {N:Nat} (h:RecT is vs bs ds s0 N) (k:Nat):∀ d,k+d≤N→∃ rest,(recI is vs bs ds s0 (k+d)).all=(recI is vs bs ds s0 k).all ++ rest∧∀ x∈rest,(k:Int)≤x.at_
 | 0,_=>⟨[],by rw [List.append_nil];rfl,fun x hx=>(by cases hx)⟩
 | d+1,hd=>by
  obtain⟨r,h1,h2⟩:=RecT.pre h k d (by omega)
  have hg:=h.at (k+d) (by omega)
  refine⟨r ++ newR is vs bs (recI is vs bs ds s0 (k+d)),?_,fun x hx=>?_⟩
  ·
   show (recS is vs bs ds (recI is vs bs ds s0 (k+d))).all=_
   rw [recS_all,h1,List.append_assoc]
  ·
   rcases List.mem_append.1 hx with hx | hx
   · exact h2 x hx
   ·
    have h3:=newR_at _ x hx
    have h4:=hg.cnt
    omega
theorem fold_above {k:Int} {l:List Ev} (h:∀ x∈l,k+1≤x.at_) (a:Bool × List Int × Int):l.foldl (inStep k) a=a:=fold_none (fun x hx=>by have:=h x hx;omega) a
theorem RecT.in {s0:RSs} {N:Nat} (h:RecT is vs bs ds s0 N) {k:Nat} (hk:k < N):inA (recI is vs bs ds s0 N).all k=(irqR is (recI is vs bs ds s0 k).m.count,blkR bs (recI is vs bs ds s0 k),valR is vs bs (recI is vs bs ds s0 k)):=by
 have hg:=h.at k (by omega)
 obtain⟨r,h1,h2⟩:=h.pre (k+1) (N - (k+1)) (by omega)
 have e:k+1+(N - (k+1))=N:=by omega
 rw [e] at h1
 have h3:(recI is vs bs ds s0 (k+1)).all=(recI is vs bs ds s0 k).all ++ newR is vs bs (recI is vs bs ds s0 k):=recS_all _
 rw [h1,h3,List.append_assoc,inA_drop hg.lt,List.foldl_append]
 have h4:=newR_in (is:=is) (vs:=vs) (bs:=bs) (recI is vs bs ds s0 k)
 rw [hg.cnt] at h4 ⊢
 rw [h4]
 exact fold_above (fun x hx=>by have:=h2 x hx;push_cast at this;exact this) _
theorem RecT.run {s0:RSs} {N:Nat} (h:RecT is vs bs ds s0 N):∀ k,k≤N→runM (recI is vs bs ds s0 N).all s0.m k=(recI is vs bs ds s0 k).m
 | 0,_=>rfl
 | k+1,hk=>by
  have ih:=RecT.run h k (by omega)
  have hi:=h.in (k:=k) (by omega)
  show (onM (runM (recI is vs bs ds s0 N).all s0.m k) (recI is vs bs ds s0 N).all k).1=(recS is vs bs ds (recI is vs bs ds s0 k)).m
  unfold onM
  rw [ih,hi]
  exact (ranR_step _).symm
theorem asks_wants (s:RSs) (ha:asksR is bs s=true):wantsR is vs bs s=false:=by
 unfold asksR asksM at ha
 rw [decide_eq_true_iff] at ha
 obtain⟨h1,h2,h3,h4⟩:=ha
 unfold wantsR
 have hn:(enterM (metM is bs s)).want=(metM is bs s).want:=by unfold enterM;split <;> rfl
 have he:(ranR is vs bs s).want=(metM is bs s).want:=by
  unfold ranR execM
  rw [if_neg (fun k=>k h1),if_neg (fun k=>k h2),h3]
  rw [← hn]
  have ed:∀ (m:Mach) (a b n v:Int),doM m 10 a b n v=if n=0∨n=1 then ((m.setReg a v).goTo (m.pc+1),0,-1) else if n=2 then ((m.setReg a m.ready).goTo (m.pc+1),0,-1) else (m,3,-1):=by intro m a b n v;rfl
  rw [ed,if_pos h4]
  rfl
 rw [he,decide_eq_false_iff_not]
 omega
theorem recI_few (s:RSs) (hs:s.all=[]∧s.due = -1):∀ (k:Nat),(∀ i,i < k→(recI is vs bs ds s i).m.fin=0)→s.m.count=0→(∀ i,i≤k→(recI is vs bs ds s i).m.count=i)→(recI is vs bs ds s k).all.length+(if (recI is vs bs ds s k).due = -1 then 0 else 1)≤k+sumN (fun j=>is.count (j:Int)) k
 | 0,_,_,_=>by
  show s.all.length+_≤_
  rw [hs.1]
  show 0+(if s.due = -1 then 0 else 1)≤_
  rw [if_pos hs.2];exact Nat.zero_le _
 | k+1,hf,h0,hc=>by
  have ih:=recI_few s hs k (fun i hi=>hf i (by omega)) h0 (fun i hi=>hc i (by omega))
  have hck:=hc k (by omega)
  show (recS is vs bs ds (recI is vs bs ds s k)).all.length+(if (recS is vs bs ds (recI is vs bs ds s k)).due = -1 then 0 else 1)≤k+1+(sumN (fun j=>is.count (j:Int)) k+is.count (k:Int))
  generalize recI is vs bs ds s k=z at *
  rw [recS_all,List.length_append]
  have hirq:(if irqR is z.m.count=true then 1 else 0)≤is.count (k:Int):=by
   split
   ·
    rename_i h
    unfold irqR at h
    rw [hck] at h
    exact List.count_pos_iff.2 (by simpa using h)
   · exact Nat.zero_le _
  have hnl:(newR is vs bs z).length=(if irqR is z.m.count=true then 1 else 0)+(if z.due=z.m.count then 1 else 0)+(if asksR is bs z=true then 1 else 0):=by
   unfold newR aheadR
   rw [List.length_append,List.length_append]
   split <;> split <;> split <;> rfl
  have hd:(recS is vs bs ds z).due=if wantsR is vs bs z then z.m.count+1+ds.getD z.nb 0 else if z.due=z.m.count then -1 else z.due:=rfl
  rw [hnl,hd]
  have haw:=asks_wants (is:=is) (vs:=vs) (bs:=bs) z
  have hcz:z.m.count=k:=hck
  by_cases ha:asksR is bs z=true
  ·
   rw [if_pos ha,haw ha]
   simp only [Bool.false_eq_true,if_false]
   by_cases hdd:z.due=z.m.count
   ·
    rw [if_pos hdd,if_pos hdd,if_pos rfl]
    rw [if_neg (by omega)] at ih
    omega
   ·
    rw [if_neg hdd,if_neg hdd]
    omega
  ·
   rw [if_neg ha]
   have q1:∀ D:Int,(if D = -1 then 0 else 1)≤1:=by intro D;split <;> omega
   by_cases hdd:z.due=z.m.count
   ·
    rw [if_pos hdd,if_pos hdd]
    rw [if_neg (by omega)] at ih
    have:=q1 (if wantsR is vs bs z=true then z.m.count+1+ds.getD z.nb 0 else -1)
    omega
   ·
    by_cases hwn:wantsR is vs bs z=true
    ·
     rw [if_pos hwn,if_neg hdd]
     have:=q1 (z.m.count+1+ds.getD z.nb 0)
     omega
    · rw [if_neg hwn,if_neg hdd,if_neg hdd];omega
theorem evok_of {l:List Ev} (h:EvL l) (he:∀ x∈l,x.kind=1→x.data=[]):EvOk l:=by
 intro j hj
 have hx:=h.good l[j] (List.getElem_mem hj)
 have hlen:(l[j].data.length:Int)=evW l[j].kind:=by
  unfold evW
  have:=hx.k1;have:=hx.k3
  by_cases h2:l[j].kind=2
  · rw [if_pos h2,hx.b16 h2];rfl
  ·
   by_cases h3:l[j].kind=3
   · rw [if_neg h2,if_pos h3,hx.v1 h3];rfl
   · rw [if_neg h2,if_neg h3,he _ (List.getElem_mem hj) (by omega)];rfl
 have hk:=hx.k1;have hk3:=hx.k3;have ha0:=hx.a0;have ha1:=hx.a1
 have hod:=of_words hx.wd
 unfold fAt
 rw [List.getElem?_eq_getElem hj]
 simp only
 rw [evFp (by omega) (by rw [hod];rintro (q | q | q);omega;omega;cases q) hlen]
 cases j with
 | zero=>rfl
 | succ j =>
  have hr:=(List.pairwise_iff_getElem.1 h.rise) j (j+1) (by omega) hj (by omega)
  have hy:=h.good l[j] (List.getElem_mem _)
  rw [if_neg (by omega),Nat.add_sub_cancel,List.getElem?_eq_getElem (by omega)]
  simp only
  have:=hy.k1;have:=hy.k3
  rw [if_neg (by omega)]
end
end Go.Proofs.YtkahciebbnhobaaGreatDoor
