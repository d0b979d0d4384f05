/- Several texts joined, each with its own heading in the notes: Bytes that were written are read as they were; a beginning of them is not read; in plain Lean. A recording of the keep's things is always made: few events, small words. No condition beyond those of each row. -/
import Derived.Test.YtkahciebbnhobaaGreatDoorYDe
import Derived.Test.YtkahciebbnhobaaGreatDoorYSm
import Derived.Test.YtkahciebbnhobaaGreatDoorYWa
import Derived.Test.YtkahciebbnhobaaGreatDoorYQd
namespace Go.Proofs.YtkahciebbnhobaaGreatDoor
set_option linter.unusedVariables false
def GoodE:Int→List Ev→Prop
 | _,[]=>True
 | a,x :: l=>(0≤a∧a≤x.at_∧x.at_ < 3000∧1≤x.kind∧x.kind≤3∧(x.data.length:Int)=evW x.kind∧∀ z∈x.data,Word z)∧GoodE x.at_ l
theorem good_drop {l:List Ev} (h:EvOk l):∀ n k,k+n=l.length→GoodE (lastAt 0 (l.take k)) (l.drop k):=by
 intro n
 induction n with
 | zero=>intro k hk;rw [List.drop_eq_nil_of_le (by omega)];exact trivial
 | succ n ih =>
  intro k hk
  have hkl:k < l.length:=by omega
  obtain⟨h1,h2,h3,h4,h5,h6,h7,h8⟩:=ev_at h hkl
  rw [List.drop_eq_getElem_cons hkl]
  refine⟨⟨h7,h8,h4,h1,h2,h6,any_word h5⟩,?_⟩
  have:=ih (k+1) (by omega)
  rw [lastAt_take (by omega)] at this
  exact this
theorem good_of {l:List Ev} (h:EvOk l):GoodE 0 l:=by
 have:=good_drop h l.length 0 (by omega)
 simpa [lastAt] using this
theorem evP_write {a:Int} {x:Ev} (h:0≤a∧a≤x.at_∧x.at_ < 3000∧1≤x.kind∧x.kind≤3∧(x.data.length:Int)=evW x.kind∧∀ z∈x.data,Word z) (r:List UInt8):evP a (evE a x ++ r)=(0,x,r):=by
 obtain⟨at_,kind,data⟩:=x
 obtain⟨h0,h1,h2,h3,h4,h5,h6⟩:=h
 simp only at h1 h2 h3 h4 h5 h6
 have hn:(4 * (at_ - a)+kind).toNat < 128 ^ 7:=by
  have:(128:Nat) ^ 7=562949953421312:=by decide
  rw [this];omega
 have hw:=numP_write hn (dataE ⟨at_,kind,data⟩ ++ r)
 unfold evE
 simp only
 rw [List.append_assoc]
 have hat:a+(((4 * (at_ - a)+kind).toNat / 4:Nat):Int)=at_:=by omega
 rcases (show kind=1∨kind=2∨kind=3 by omega) with rfl | rfl | rfl
 ·
  have hd:data=[]:=List.eq_nil_of_length_eq_zero (by rw [show evW 1=0 from rfl] at h5;omega)
  subst hd
  rw [evP_1 hw (by omega),hat]
  rfl
 ·
  rw [show evW 2=16 from rfl] at h5
  have hb:=blkP_runs data.length data rfl 16 [] 0 r (by simp;omega) (by omega) (Or.inl rfl) (by unfold Word;omega) h6
  rw [evP_2 hw (by omega) (show blkP 16 [] 0 (dataE ⟨at_,2,data⟩ ++ r)=(0,data,r) from hb),hat]
 ·
  rw [show evW 3=1 from rfl] at h5
  obtain⟨z,rfl⟩:=len1 (show data.length=1 by omega)
  have hz:=h6 z (by simp)
  unfold Word at hz
  have hb:=numP_write (zig_lt (z:=z) (by omega)) r
  rw [evP_3 hw (by omega) (show numP 0 0 (dataE ⟨at_,3,[z]⟩ ++ r)=(0,zig z,r) from hb),hat,zag_zig]
theorem evsP_write:∀ (l:List Ev) (a:Int) (r:List UInt8),GoodE a l→evsP l.length a (evsE a l ++ r)=(0,l,r):=by
 intro l
 induction l with
 | nil=>intro a r _;rfl
 | cons x l ih =>
  intro a r h
  obtain⟨h1,h2⟩:=h
  have hx:=evP_write h1 (evsE x.at_ l ++ r)
  rw [evsE,List.append_assoc,List.length_cons,evsP_go hx,ih _ _ h2]
theorem pay_read {l:List Ev} (h:EvOk l) (hl:l.length≤1000) (r:List UInt8):numP 0 0 (payE l ++ r)=(0,l.length,evsE 0 l ++ r)∧evsP l.length 0 (evsE 0 l ++ r)=(0,l,r):=by
 unfold payE
 rw [List.append_assoc]
 exact⟨numP_write (small_lt (by omega)) _,evsP_write l 0 r (good_of h)⟩
theorem dec_enc {l:List Ev} (h:EvRes l 0) (h1:5≤(encE l).length) (h2:(encE l).length≤60000):DecR (encE l) 0 l:=by
 obtain⟨hok,hl⟩:=h.ok
 have hlen:(encE l).length=(payE l).length+4:=by unfold encE;rw [List.length_append];rfl
 have ht:(encE l).take ((encE l).length - 4)=payE l:=by rw [hlen,Nat.add_sub_cancel];unfold encE;exact List.take_left' rfl
 have hd:(encE l).drop ((encE l).length - 4)=sumB (payE l):=by rw [hlen,Nat.add_sub_cancel];unfold encE;exact List.drop_left' rfl
 obtain⟨k1,k2⟩:=pay_read hok hl []
 rw [List.append_nil,List.append_nil] at k1
 rw [List.append_nil] at k2
 exact Or.inr (Or.inr (Or.inr ⟨h1,h2,by rw [ht,hd],by rw [ht];exact⟨0,l.length,_,k1,Or.inr (Or.inr ⟨hl,rfl,0,l,[],k2,Or.inr (Or.inr ⟨rfl,rfl,h,rfl⟩)⟩)⟩⟩))
end Go.Proofs.YtkahciebbnhobaaGreatDoor
namespace Go.Proofs.YtkahciebbnhobaaGreatDoor
open Go Go.RowKit Go.ChangeShapes Go.WideShapes Go.Deep
set_option linter.unusedVariables false
theorem recL_end2 {is vs:List Int} {bs:List (List Int)} {ds:List Int} {n:Int}:∀ (f:Nat) (s:RSs),(∀ k,k≤f→(∀ i,i < k→(recI is vs bs ds s i).m.count < n∧(recI is vs bs ds s i).m.fin=0)→(recI is vs bs ds s k).all.length≤1000)→∃ j,j≤f∧recL is vs bs ds n f s=(recI is vs bs ds s j,false)∧(∀ i,i < j→(recI is vs bs ds s i).m.count < n∧(recI is vs bs ds s i).m.fin=0)∧(j=f∨¬ ((recI is vs bs ds s j).m.count < n∧(recI is vs bs ds s j).m.fin=0))
 | 0,s,_=>⟨0,Nat.le_refl _,rfl,fun i h=>absurd h (Nat.not_lt_zero _),Or.inl rfl⟩
 | f+1,s,h=>by
  by_cases hc:s.m.count < n∧s.m.fin=0
  ·
   have hs:∀ k,(∀ i,i < k→(recI is vs bs ds (recS is vs bs ds s) i).m.count < n∧(recI is vs bs ds (recS is vs bs ds s) i).m.fin=0)→∀ i,i < k+1→(recI is vs bs ds s i).m.count < n∧(recI is vs bs ds s i).m.fin=0:=by
    intro k hk i hi
    cases i with
    | zero=>exact hc
    | succ i=>have:=hk i (by omega);rw [recI_head] at this;exact this
   obtain⟨j,h1,h2,h3,h4⟩:=recL_end2 f (recS is vs bs ds s) (fun k hk hg=>by rw [recI_head];exact h (k+1) (by omega) (hs k hg))
   refine⟨j+1,by omega,?_,hs j h3,?_⟩
   ·
    have h5 := h 1 (by omega) (fun i hi => by obtain rfl : i = 0 := by omega
                                              exact hc)
    rw [recL,if_pos hc,if_neg (by show ¬ 1000 < (recI is vs bs ds s 1).all.length;omega),h2,recI_head]
   ·
    rw [recI_head] at h4
    rcases h4 with h4 | h4
    · exact Or.inl (by omega)
    · exact Or.inr h4
  · exact⟨0,Nat.zero_le _,by rw [recL,if_neg hc];rfl,fun i h=>absurd h (Nat.not_lt_zero _),Or.inr hc⟩
def SmW (l:List Ev):Prop:=∀ x∈l,∀ z∈x.data,-50≤z∧z < 50
theorem getD_or {α:Type} (l:List α) (i:Nat) (d:α):l.getD i d∈l∨l.getD i d=d:=by
 rw [List.getD_eq_getElem?_getD]
 cases e:l[i]? with
 | none=>exact Or.inr rfl
 | some a=>exact Or.inl (List.mem_of_getElem? e)
theorem newR_small {is vs:List Int} {bs:List (List Int)} {ds:List Int} (h:W20 is vs bs ds) (s:RSs):SmW (newR is vs bs s):=by
 have hb:∀ z∈blkR bs s,-50≤z∧z < 50:=by
  intro z hz
  unfold blkR at hz
  split at hz
  ·
   rcases getD_or bs (s.nb - 1) zero16 with q | q
   · have:=(h.wb _ q).2 z hz;omega
   · rw [q] at hz;unfold zero16 at hz;rw [List.eq_of_mem_replicate hz];omega
  · cases hz
 have hv:-50≤valR is vs bs s∧valR is vs bs s < 50:=by
  unfold valR
  split
  ·
   rcases getD_or vs s.nv 0 with q | q
   · exact h.wv _ q
   · rw [q];omega
  · omega
 intro x hx z hz
 unfold newR aheadR at hx
 rcases List.mem_append.1 hx with hx | hx
 ·
  rcases List.mem_append.1 hx with hx | hx
  ·
   split at hx
   · rw [List.mem_singleton.1 hx] at hz;cases hz
   · cases hx
  ·
   split at hx
   · rw [List.mem_singleton.1 hx] at hz;exact hb z hz
   · cases hx
 ·
  split at hx
  · rw [List.mem_singleton.1 hx] at hz;rw [List.mem_singleton.1 hz];exact hv
  · cases hx
theorem recI_small {is vs:List Int} {bs:List (List Int)} {ds:List Int} (h:W20 is vs bs ds) (s:RSs) (h0:SmW s.all):∀ k,SmW (recI is vs bs ds s k).all
 | 0=>h0
 | k+1=>by
  have ih:=recI_small h s h0 k
  show SmW (recS is vs bs ds (recI is vs bs ds s k)).all
  rw [recS_all]
  intro x hx
  rcases List.mem_append.1 hx with hx | hx
  · exact ih x hx
  · exact newR_small h _ x hx
theorem runsE_sm:∀ (l:List Int) (last:Int) (run:Nat),-50≤last∧last < 50→(∀ z∈l,-50≤z∧z < 50)→run+l.length≤100→(runsE last run l).length≤3 * l.length:=by
 intro l
 induction l with
 | nil=>intro last run _ _ _;simp [runsE]
 | cons x l ih =>
  intro last run hw hz hr
  have hx:=hz x (by simp)
  have hl:∀ z∈l,-50≤z∧z < 50:=fun z h=>hz z (List.mem_cons_of_mem _ h)
  have a1:(sevens (run+1)).length≤1:=sevens_le 0 _ (by simp at hr;omega)
  have a2:(sevens (zig (x - last))).length≤2:=sevens_le 1 _ (by unfold zig;split <;> omega)
  cases l with
  | nil=>simp only [runsE,List.length_append,List.length_cons,List.length_nil];omega
  | cons y l =>
   by_cases h:x=y
   ·
    rw [runsE,if_pos h]
    have:=ih last (run+1) hw hl (by simp at hr ⊢;omega)
    simp only [List.length_cons] at this ⊢
    omega
   ·
    rw [runsE,if_neg h]
    have:=ih x 0 hx hl (by simp at hr ⊢;omega)
    simp only [List.length_append,List.length_cons] at this ⊢
    omega
theorem dataE_sm {x:Ev} (hg:EvG x) (hs:∀ z∈x.data,-50≤z∧z < 50):(dataE x).length≤48:=by
 unfold dataE
 split
 ·
  rename_i hk
  have:=hg.b16 hk
  have:=runsE_sm x.data 0 0 (by omega) hs (by omega)
  omega
 ·
  split
  ·
   rename_i hk
   have hz:-50≤x.data.getD 0 0∧x.data.getD 0 0 < 50:=by
    rcases getD_or x.data 0 0 with q | q
    · exact hs _ q
    · rw [q];omega
   have:=sevens_le 1 (zig (x.data.getD 0 0)) (by unfold zig;split <;> omega)
   omega
  · simp
theorem evsE_sm {l:List Ev} (h:EvOk l) (hg:∀ x∈l,EvG x) (hs:SmW l):∀ k,k≤l.length→(evsE 0 (l.take k)).length≤50 * k:=by
 intro k
 induction k with
 | zero=>intro _;simp [evsE]
 | succ k ih =>
  intro hk
  have hlt:k < l.length:=by omega
  rw [evsE_step hlt,List.length_append]
  have:=ih (by omega)
  obtain⟨h1,h2,h3,h4,h5,h6,h7,h8⟩:=ev_at h hlt
  have a1:=dataE_sm (hg _ (List.getElem_mem hlt)) (hs _ (List.getElem_mem hlt))
  have a2:(sevens (4 * (l[k].at_ - lastAt 0 (l.take k))+l[k].kind).toNat).length≤2:=sevens_le 1 _ (by omega)
  unfold evE
  rw [List.length_append]
  omega
theorem encE_sm {l:List Ev} (h:EvOk l) (hg:∀ x∈l,EvG x) (hs:SmW l) (hl:l.length≤1000):5≤(encE l).length∧(encE l).length≤50 * l.length+6:=by
 have h1:=evsE_sm h hg hs l.length (Nat.le_refl _)
 rw [List.take_length] at h1
 have h2:(sevens l.length).length≤2:=sevens_le 1 _ (by omega)
 have h3:1≤(sevens l.length).length:=by
  by_cases q:l.length < 128
  · rw [sevens_small q];exact Nat.le_refl _
  · rw [sevens_more (by omega),List.length_cons];omega
 have hlen:(encE l).length=(payE l).length+4:=by unfold encE;rw [List.length_append];rfl
 rw [hlen]
 unfold payE
 rw [List.length_append]
 omega
theorem world20_ok {is vs:List Int} {bs:List (List Int)} {ds:List Int} (h:W20 is vs bs ds):worldC is vs bs ds=0:=by
 have hl:=h.li;have hv:=h.lv;have hb:=h.lb;have hd:=h.ld
 have h1:vs.any oddB=false:=by
  rw [List.any_eq_false]
  intro z hz
  have:=h.wv z hz
  unfold oddB
  simp;omega
 have h2:is.any farB=false:=by
  rw [List.any_eq_false]
  intro z hz
  have:=h.wi z hz
  unfold farB
  simp;omega
 have h3:ds.any farB=false:=by
  rw [List.any_eq_false]
  intro z hz
  have:=h.wd z hz
  unfold farB
  simp;omega
 have h4:∀ bs:List (List Int),(∀ b∈bs,b.length=16∧∀ z∈b,0≤z∧z < 9)→blocksC bs=0:=by
  intro bs
  induction bs with
  | nil=>intro _;rfl
  | cons b r ih =>
   intro hb
   have h0:=hb b (by simp)
   have h5:b.any oddB=false:=by
    rw [List.any_eq_false]
    intro z hz
    have:=h0.2 z hz
    unfold oddB
    simp;omega
   rw [blocksC,if_neg (by omega),if_neg (by rw [h5];decide)]
   exact ih (fun x hx=>hb x (List.mem_cons_of_mem _ hx))
 unfold worldC
 rw [if_neg (by omega),if_neg (by rw [h1,h2,h3];decide)]
 exact h4 bs h.wb
structure KRec (img is vs:List Int) (bs:List (List Int)) (ds:List Int) (n:Int) (l:List UInt8) (N:Nat) (m:Mach):Prop where
 tape:RecT is vs bs ds (recS0 img) N
 le:(N:Int)≤n
 end_:(N:Int)=n∨(recI is vs bs ds (recS0 img) N).m.fin≠0
 mach:m=(recI is vs bs ds (recS0 img) N).m
 enc:l=encE (recI is vs bs ds (recS0 img) N).all
 res:EvRes (recI is vs bs ds (recS0 img) N).all 0
 dec:DecR l 0 (recI is vs bs ds (recS0 img) N).all
 l60:l.length≤60000
theorem keep_rec {img is vs:List Int} {bs:List (List Int)} {ds:List Int} {n c:Int} {l:List UInt8} {cnt:Int} {i2:List Int} {m:Mach} (hr:RecR img is vs bs ds n c l cnt i2 m) (hi:newC img=0) (hw:W20 is vs bs ds) (h0:0≤n) (h1:n≤500):c=0∧i2=img∧∃ N:Nat,cnt=N∧KRec img is vs bs ds n l N m:=by
 have hwc:=world20_ok hw
 have hwd:=worldC_ok hwc
 have hok:=recok_start (imgM_ok hi).1
 have hcz:(recS0 img).m.count=0:=rfl
 have hc:∀ k,(∀ i,i < k→(recI is vs bs ds (recS0 img) i).m.fin=0)→∀ i,i≤k→(recI is vs bs ds (recS0 img) i).m.count=i:=by
  intro k hk i
  induction i with
  | zero=>intro _;exact hcz
  | succ i ih =>
   intro hik
   have:=ih (by omega)
   have h5:(recI is vs bs ds (recS0 img) (i+1)).m.count=(recI is vs bs ds (recS0 img) i).m.count+1:=ranR_count _ (hk i (by omega))
   rw [h5,this];rfl
 have hfew:∀ k,k≤500→(∀ i,i < k→(recI is vs bs ds (recS0 img) i).m.fin=0)→(recI is vs bs ds (recS0 img) k).all.length≤520:=by
  intro k hk hg
  have a1:=recI_few (is:=is) (vs:=vs) (bs:=bs) (ds:=ds) (recS0 img) ⟨rfl,rfl⟩ k hg hcz (hc k hg)
  have a2:=sum_count is k
  have a3:=hw.li
  omega
 obtain⟨j,hj,hL,hgo,hend⟩:=recL_end2 (is:=is) (vs:=vs) (bs:=bs) (ds:=ds) (n:=n) n.toNat (recS0 img) (fun k hk hg=>by have:=hfew k (by omega) (fun i hi=>(hg i hi).2);omega)
 have hgo2:∀ i,i < j→(recI is vs bs ds (recS0 img) i).m.fin=0:=fun i hi=>(hgo i hi).2
 have hT:RecT is vs bs ds (recS0 img) j:=⟨hwd,hgo2,fun i hi=>by have:=hfew i (by omega) (fun k hk=>hgo2 k (by omega));omega,by omega,⟨hok,hcz,EvL.nil,fun x hx=>(by cases hx),fun x hx=>(by cases hx)⟩⟩
 have hG:=hT.at j (Nat.le_refl _)
 have hEO:=evok_of hG.evl hG.emp
 have hlen:=hfew j (by omega) hgo2
 have hER:EvRes (recI is vs bs ds (recS0 img) j).all 0:=Or.inr (Or.inr ⟨by omega,hEO,rfl⟩)
 have hsm:=recI_small hw (recS0 img) (fun x hx=>(by cases hx)) j
 have hE:=encE_sm hEO hG.evl.good hsm (by omega)
 have hcj:=hc j hgo2 j (Nat.le_refl _)
 rcases hr with ⟨q,_⟩ | ⟨_,q,_⟩ | ⟨_,_,q,_⟩ | ⟨_,_,_,_,q⟩
 · exact absurd hi q
 · exact absurd hwc q
 · omega
 ·
  rcases q with ⟨q,_⟩ | ⟨_,d,hd,q⟩
  · rw [hL] at q;cases q
  ·
   rw [hL] at hd q
   have hd0:=hd.det hER
   rcases q with ⟨q,_⟩ | ⟨_,rfl,e1,e2,e3,e4⟩
   · exact absurd hd0 q
   ·
    have e1:l=encE (recI is vs bs ds (recS0 img) j).all:=e1
    have e2:cnt=(recI is vs bs ds (recS0 img) j).m.count:=e2
    have e4:m=(recI is vs bs ds (recS0 img) j).m:=e4
    refine⟨rfl,e3,j,by rw [e2];exact hcj,hT,by omega,?_,e4,e1,hER,by rw [e1];exact dec_enc hER hE.1 (by omega),by rw [e1];omega⟩
    rcases hend with q | q
    · exact Or.inl (by omega)
    ·
     by_cases q2:(recI is vs bs ds (recS0 img) j).m.fin=0
     · exact Or.inl (by have:¬ (recI is vs bs ds (recS0 img) j).m.count < n:=fun q3=>q ⟨q3,q2⟩;rw [hcj] at this;omega)
     · exact Or.inr q2
end Go.Proofs.YtkahciebbnhobaaGreatDoor
