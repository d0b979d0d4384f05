/- Several texts joined, each with its own heading in the notes: The contract of sameFrames at frames that read alike. Contracts of frames. Contracts of run. No condition beyond those of each row. -/
import Derived.Test.YtkahciebbnhobaaGreatDoorYMem
import Derived.Test.YtkahciebbnhobaaGreatDoorYCm
import Derived.Test.YtkahciebbnhobaaGreatDoorYEv
namespace Go.Proofs.YtkahciebbnhobaaGreatDoor
open Go Go.RowKit Go.ChangeShapes Go.WideShapes Go.Deep
set_option maxHeartbeats 8000000
set_option maxRecDepth 100000
set_option linter.unusedVariables false
theorem FramesR.to {B B':Nat} {w w':World} {v:Value} {rs:List (List Int)} {zs:List Int} (hB:B≤B') (hw:Same B w w') (h:FramesR B w v rs zs):FramesR B' w' v rs zs:=by
 obtain⟨vd,vr,hv,h1,h2⟩:=h
 exact⟨vd,vr,hv,h1.to hB hw,h2.to hB hw⟩
theorem FramesR.shape {B:Nat} {w:World} {v:Value} {rs:List (List Int)} {zs:List Int} (h:FramesR B w v rs zs):∃ a c a' c',v=.agg #[.slice a rs.length c,.slice a' zs.length c']:=by
 obtain⟨vd,vr,rfl,⟨a,c,rfl,_⟩,⟨a',c',rfl,_⟩⟩:=h
 exact⟨a,c,a',c',rfl⟩
def OkAt (z:Int) (n:Nat):Prop:=0≤z∧z≤200∧(z=0→n=0)∧(z≠0→n=16)
def FOk (rs:List (List Int)) (zs:List Int):Prop:=rs.length=zs.length∧zs.length≤200∧∀ k,k < zs.length→OkAt (zs.getD k 0) (rs.getD k []).length
def CheckPost (rs:List (List Int)) (zs:List Int) (w:World) (e:Ending) (w':World):Prop:=((FOk rs zs∧e=.returned (.int .i64 0))∨(¬ FOk rs zs∧e=.returned (.int .i64 8)))∧Below w.heap.size w w'
theorem bad_at {z:Int} {n:Nat} (h:OkAt z n) (h':¬ decide (0 < z)=((n:Int) == 16)):False:=by
 obtain⟨h1,h2,h3,h4⟩:=h
 apply h'
 rw [Bool.eq_iff_iff,decide_eq_true_iff,beq_iff_eq]
 omega
theorem good_at {z:Int} {n:Nat} (h1:0≤z) (h2:z≤200) (h3:decide (0 < z)=((n:Int) == 16)) (h4:¬ z=0∨¬ 0 < n):OkAt z n:=by
 rw [Bool.eq_iff_iff,decide_eq_true_iff,beq_iff_eq] at h3
 exact⟨h1,h2,by omega,by omega⟩
theorem grow {rs:List (List Int)} {zs:List Int} {k:Nat} (h:∀ j,j < k→OkAt (zs.getD j 0) (rs.getD j []).length) (h1:OkAt (zs.getD k 0) (rs.getD k []).length):∀ j,j < k+1→OkAt (zs.getD j 0) (rs.getD j []).length:=by
 intro j hj
 rcases Nat.lt_succ_iff_lt_or_eq.1 hj with hj | rfl
 · exact h j hj
 · exact h1
theorem getD_of {α:Type} {l:List α} {k:Nat} (h:k < l.length) (d:α):l.getD k d=l[k]:=by simp [List.getD,h]
theorem fcheck_any (v:Value) (rs:List (List Int)) (zs:List Int) (w:World) (hf:FramesR w.heap.size w v rs zs) :
 Calls Tryz.prog 105 #[v] w (CheckPost rs zs w):=by
 obtain⟨vd,vr,rfl,⟨ad,cd,rfl,hld,_,hcd⟩,⟨ar,cr,rfl,hlr,_,hcr⟩⟩:=hf
 have Hcd:=Lib.hid hcd
 have Hcr:=Lib.hid hcr
 clear hcd hcr
 by_cases h1:rs.length=zs.length
 ·
  by_cases h2:zs.length≤200
  ·
   have h1a:((rs.length:Int) != (zs.length:Int))=false:=by simp [h1]
   have h1b:¬ (200:Int) < (zs.length:Int):=by omega
   have H1:=Lib.hid h1
   clear h1
   go_enter Tryz.func105,Tryz.ntmps105
   go_wp2
   go_loop [21] (fun i =>∃k:Nat,k≤zs.length∧i=.int .i64 k∧Hid (∀ j,j < k→OkAt (zs.getD j 0) (rs.getD j []).length)) (fun i=>zs.length - (intOf i).toNat)
   case atStart=>exact⟨0,Nat.zero_le _,rfl,Lib.hid fun j hj=>absurd hj (Nat.not_lt_zero _)⟩
   case round =>
    obtain⟨k,hk,rfl,hgood⟩:=hrel
    by_cases hlt:k < zs.length
    ·
     have hltr:k < rs.length:=by rw [H1.out];exact hlt
     obtain⟨br,offr,vz,har,hbr,hcellr,hvz,hz⟩:=Hcr.out k hlt
     obtain⟨bd,offd,vrow,had,hbd,hcelld,arow,crow,hvrow,hlrow,_,hrow⟩:=Hcd.out k hltr
     subst har had hvz hvrow
     have hzz:=getD_of hlt 0
     have hnn:=getD_of hltr []
     generalize zs[k]=z at *
     generalize rs[k]=row at *
     have Hzz:=Lib.hid hzz
     have Hnn:=Lib.hid hnn
     have Hz:=Lib.hid hz
     clear hz hrow hzz hnn Hcd Hcr
     generalize hn:row.length=n at *
     have Hn:=Lib.hid hn
     clear hn
     go_wp2
     all_goals first
      | (go_ret;refine⟨Or.inr ⟨fun h=>?_,rfl⟩,below_alloc _ _⟩;have q:=h.2.2 k hlt;rw [Hzz.out,Hnn.out,Hn.out] at q;first | (obtain⟨q1,q2,q3,q4⟩:=q;omega) | exact bad_at q (by assumption))
      | (go_round
         case rel=>exact⟨k+1,by omega,by go_num,Lib.hid (grow hgood.out (by rw [Hzz.out,Hnn.out,Hn.out];exact good_at (by omega) (by omega) (by assumption) (by first | exact Or.inr (by assumption) | exact Or.inl (by assumption))))⟩
         case measure=>simp [intOf];omega)
    ·
     go_wp2
     go_ret
     refine⟨Or.inl ⟨⟨H1.out,h2,fun j hj=>hgood.out j (by omega)⟩,rfl⟩,below_alloc _ _⟩
  ·
   have h2':(200:Int) < (zs.length:Int):=by omega
   go_enter Tryz.func105,Tryz.ntmps105
   have h1a:((rs.length:Int) != (zs.length:Int))=false:=by simp [h1]
   clear h1
   go_wp2
   go_ret
   exact⟨Or.inr ⟨fun h=>h2 h.2.1,rfl⟩,below_alloc _ _⟩
 ·
  have h1a:((rs.length:Int) != (zs.length:Int))=true:=by rw [bne_iff_ne];omega
  go_enter Tryz.func105,Tryz.ntmps105
  go_wp2
  go_ret
  exact⟨Or.inr ⟨fun h=>h1 h.1,rfl⟩,below_alloc _ _⟩
def farB (z:Int):Bool:=!(decide (0≤z) && decide (z≤3000))
theorem far_true {z:Int} (h:z < 0∨3000 < z):farB z=true:=by
 unfold farB
 rw [Bool.not_eq_true',Bool.and_eq_false_iff,decide_eq_false_iff_not,decide_eq_false_iff_not]
 omega
theorem far_false {z:Int} (h:0≤z∧z≤3000):farB z=false:=by simp [farB,h]
def blocksC:List (List Int)→Int
 | []=>0
 | b :: r=>if b.length≠16 then 1 else if b.any oddB=true then 2 else blocksC r
def worldC (is vs:List Int) (bs:List (List Int)) (ds:List Int):Int:=
 if 1000 < is.length∨1000 < vs.length∨1000 < bs.length∨1000 < ds.length then 1 else
 if vs.any oddB=true∨is.any farB=true∨ds.any farB=true then 2 else blocksC bs
theorem blocks_size {bs:List (List Int)} {k:Nat} (hk:k < bs.length) (h:(bs.getD k []).length≠16):blocksC (bs.drop k)=1:=by
 rw [getD_of hk] at h
 rw [List.drop_eq_getElem_cons hk,blocksC,if_pos h]
theorem blocks_odd {bs:List (List Int)} {k:Nat} (hk:k < bs.length) (h:(bs.getD k []).length=16) (h2:(bs.getD k []).any oddB=true):blocksC (bs.drop k)=2:=by
 rw [getD_of hk] at h h2
 rw [List.drop_eq_getElem_cons hk,blocksC,if_neg (by simpa using h),if_pos h2]
theorem blocks_on {bs:List (List Int)} {k:Nat} (hk:k < bs.length) (h:(bs.getD k []).length=16) (h2:(bs.getD k []).any oddB=false):blocksC (bs.drop k)=blocksC (bs.drop (k+1)):=by
 rw [getD_of hk] at h h2
 rw [List.drop_eq_getElem_cons hk,blocksC,if_neg (by simpa using h),if_neg (by rw [h2];decide)]
theorem blocks_end {bs:List (List Int)}:blocksC (bs.drop bs.length)=0:=by rw [List.drop_length];rfl
theorem rword_or (z:Int) (w:World):Calls Tryz.prog 49 #[.int .i64 z] w fun e w'=>e=.returned (.bool (!oddB z))∧w=w':=by
 by_cases h1:-1099511627776≤z
 ·
  by_cases h2:z≤1099511627776
  ·
   rw [odd_false ⟨h1,h2⟩]
   go_enter Tryz.func49,Tryz.ntmps49
   go_wp2
   go_ret
   simp_all
  ·
   rw [odd_true (by omega)]
   go_enter Tryz.func49,Tryz.ntmps49
   go_wp2
   go_ret
   simp_all
 ·
  rw [odd_true (by omega)]
  go_enter Tryz.func49,Tryz.ntmps49
  go_wp2
  go_ret
  simp_all
theorem rodd_is:PredIs 48 oddB:=by
 intro z W h1 h2
 have HW:=Lib.hid (rword_or z)
 go_enter Tryz.func48,Tryz.ntmps48
 go_wp2_with (go_at_call 49;refine (HW.out _).mono ?_;rintro e w' ⟨rfl,rfl⟩)
 go_ret
 exact⟨ret_bool (by simp),rfl⟩
theorem rfar_is:PredIs 50 farB:=by
 intro z W _ _
 by_cases h1:0≤z
 ·
  by_cases h2:z≤3000
  ·
   rw [far_false ⟨h1,h2⟩]
   go_enter Tryz.func50,Tryz.ntmps50
   go_wp2
   go_ret
   simp_all
  ·
   rw [far_true (by omega)]
   go_enter Tryz.func50,Tryz.ntmps50
   go_wp2
   go_ret
   simp_all
 ·
  rw [far_true (by omega)]
  go_enter Tryz.func50,Tryz.ntmps50
  go_wp2
  go_ret
  simp_all
def ContP (p:Int→Bool) (zs:List Int) (w:World) (e:Ending) (w':World):Prop:=(e=.returned (.bool true)∧Hid (zs.any p=true)∧∃ n,w'=w.drewN n)∨(e=.returned (.bool false)∧Hid (zs.any p=false)∧∃ n,w'=w.drewN n)
theorem cont_p {F:FuncId} {args:Array Value} {zs:List Int} {w:World} {p:Int→Bool} (h:Calls Tryz.prog F args w fun e w'=>e=.returned (.bool (zs.any p))∧∃ n,w'=w.drewN n):Calls Tryz.prog F args w (ContP p zs w):=by
 rcases Bool.eq_false_or_eq_true (zs.any p) with hq | hq
 · exact h.mono fun e w' ⟨he,hn⟩=>Or.inl ⟨by rw [he,hq],Lib.hid hq,hn⟩
 · exact h.mono fun e w' ⟨he,hn⟩=>Or.inr ⟨by rw [he,hq],Lib.hid hq,hn⟩
theorem rodd_contains (v:Value) (zs:List Int) (w:World) (hf:Ints w.heap.size w v zs):Calls Tryz.prog 45 #[v,.func (.func 48) #[] #[]] w (ContP oddB zs w):=
 cont_p (containsF_any _ oddB (enters_of Tryz.func48 (by kernel_rfl) rfl) rodd_is v zs w hf)
theorem rfar_contains (v:Value) (zs:List Int) (w:World) (hf:Ints w.heap.size w v zs):Calls Tryz.prog 45 #[v,.func (.func 50) #[] #[]] w (ContP farB zs w):=
 cont_p (containsF_any _ farB (enters_of Tryz.func50 (by kernel_rfl) rfl) rfar_is v zs w hf)
theorem worldC_size {is vs:List Int} {bs:List (List Int)} {ds:List Int} (h:1000 < is.length∨1000 < vs.length∨1000 < bs.length∨1000 < ds.length):(1:Int)=worldC is vs bs ds:=by unfold worldC;rw [if_pos h]
theorem worldC_odd {is vs:List Int} {bs:List (List Int)} {ds:List Int} (h:¬ (1000 < is.length∨1000 < vs.length∨1000 < bs.length∨1000 < ds.length)) (h2:vs.any oddB=true∨is.any farB=true∨ds.any farB=true):(2:Int)=worldC is vs bs ds:=by unfold worldC;rw [if_neg h,if_pos h2]
theorem worldC_go {is vs:List Int} {bs:List (List Int)} {ds:List Int} (h:¬ (1000 < is.length∨1000 < vs.length∨1000 < bs.length∨1000 < ds.length)) (h2:¬ (vs.any oddB=true∨is.any farB=true∨ds.any farB=true)):blocksC bs=worldC is vs bs ds:=by unfold worldC;rw [if_neg h,if_neg h2]
def WorldPost (is vs:List Int) (bs:List (List Int)) (ds:List Int) (w:World) (e:Ending) (w':World):Prop:=e=.returned (.int .i64 (worldC is vs bs ds))∧Below w.heap.size w w'
theorem wcheck_any (a0 a1 a2 a3:Option Addr) (c0 c1 c2 c3:Nat) (is vs:List Int) (bs:List (List Int)) (ds:List Int) (w:World)
 (h0:Ints w.heap.size w (.slice a0 is.length c0) is) (h1:Ints w.heap.size w (.slice a1 vs.length c1) vs) (h2:RowsR w.heap.size w (.slice a2 bs.length c2) bs) (h3:Ints w.heap.size w (.slice a3 ds.length c3) ds) :
 Calls Tryz.prog 24 #[.agg #[.slice a0 is.length c0,.slice a1 vs.length c1,.slice a2 bs.length c2,.slice a3 ds.length c3]] w (WorldPost is vs bs ds w):=by
 obtain⟨b2,d2,hb2,hlb,_,hcb⟩:=id h2
 simp only [Value.slice.injEq,true_and] at hb2
 obtain⟨rfl,rfl⟩:=hb2
 have H0:=Lib.hid h0
 have H1:=Lib.hid h1
 have H3:=Lib.hid h3
 have HB:=Lib.hid hcb
 clear h0 h1 h2 h3 hcb
 by_cases hsz:1000 < is.length∨1000 < vs.length∨1000 < bs.length∨1000 < ds.length
 ·
  have HS:=Lib.hid (worldC_size hsz)
  have hsz':1000 < is.length∨(¬ 1000 < is.length∧1000 < vs.length)∨(¬ 1000 < is.length∧¬ 1000 < vs.length∧1000 < bs.length)∨(¬ 1000 < is.length∧¬ 1000 < vs.length∧¬ 1000 < bs.length∧1000 < ds.length):=by omega
  clear hsz
  rcases hsz' with l1 | ⟨l1,l2⟩ | ⟨l1,l2,l3⟩ | ⟨l1,l2,l3,l4⟩
  all_goals go_enter Tryz.func24,Tryz.ntmps24
  all_goals go_wp2
  all_goals go_ret
  all_goals exact⟨ret_int HS.out,below_alloc _ _⟩
 ·
  have HS:=Lib.hid hsz
  have l1:is.length≤1000:=by omega
  have l2:vs.length≤1000:=by omega
  have l3:bs.length≤1000:=by omega
  have l4:ds.length≤1000:=by omega
  clear hsz
  go_enter Tryz.func24,Tryz.ntmps24
  go_wp2_with (first
   | (go_at_call_of 45 (Value.slice a1 vs.length c1);refine (rodd_contains _ vs _ ?_).mono ?_;(exact H1.out.to (by simp) (same_alloc _ _));rintro e w' (⟨rfl,ho1,n1,rfl⟩ | ⟨rfl,ho1,n1,rfl⟩))
   | (go_at_call_of 45 (Value.slice a0 is.length c0);refine (rfar_contains _ is _ ?_).mono ?_;(exact H0.out.to (by simp) (same_below (below_drewN (below_alloc _ _) _)));rintro e w' (⟨rfl,ho2,n2,rfl⟩ | ⟨rfl,ho2,n2,rfl⟩))
   | (go_at_call_of 45 (Value.slice a3 ds.length c3);refine (rfar_contains _ ds _ ?_).mono ?_;(exact H3.out.to (by simp) (same_below (below_drewN (below_alloc _ _) _)));rintro e w' (⟨rfl,ho3,n3,rfl⟩ | ⟨rfl,ho3,n3,rfl⟩)))
  all_goals first
   | (go_ret;first | exact⟨ret_int (worldC_odd HS.out (Or.inl ho1.out)),below_drewN (below_alloc _ _) _⟩ | exact⟨ret_int (worldC_odd HS.out (Or.inr (Or.inl ho2.out))),below_drewN (below_alloc _ _) _⟩ | exact⟨ret_int (worldC_odd HS.out (Or.inr (Or.inr ho3.out))),below_drewN (below_alloc _ _) _⟩)
   | skip
  have HG:=Lib.hid (worldC_go (bs:=bs) HS.out (by rw [ho1.out,ho2.out,ho3.out];decide))
  clear ho1 ho2 ho3
  go_loopw [48] (fun i wr =>∃k q:Nat,k≤bs.length∧i=.int .i64 k∧wr=(w.alloc (.cells #[.slice a0 is.length c0,.slice a1 vs.length c1,.slice a2 bs.length c2,.slice a3 ds.length c3] 27)).drewN q∧Hid (blocksC (bs.drop k)=worldC is vs bs ds)) (fun i _=>bs.length - (intOf i).toNat)
  case atStart=>exact⟨0,_,Nat.zero_le _,rfl,rfl,HG⟩
  case round =>
   obtain⟨k,q,hk,rfl,rfl,A⟩:=hrel
   by_cases hlt:k < bs.length
   ·
    obtain⟨b,off,vi,ha,hb,hcell,hvi⟩:=HB.out k hlt
    subst ha
    obtain⟨ai,ci,hvs,_⟩:=id hvi
    subst hvs
    rw [← getD_of hlt []] at hcell hvi
    have HSZ:=Lib.hid (fun h=>(blocks_size hlt h).symm.trans A.out)
    have HOD:=Lib.hid (fun h h2=>(blocks_odd hlt h h2).symm.trans A.out)
    have HON:=Lib.hid (fun h h2=>(blocks_on hlt h h2).symm.trans A.out)
    have HV:=Lib.hid hvi
    generalize bs.getD k []=row at *
    clear hvi
    by_cases h16:row.length=16
    ·
     have hb16:((row.length:Int) != 16)=false:=by rw [bne_eq_false_iff_eq];omega
     have H16:=Lib.hid h16
     clear h16
     go_wp2_with (go_at_call 45;refine (rodd_contains _ row _ ?_).mono ?_;(exact HV.out.to (by simp) (same_below (below_drewN (below_alloc _ _) _)));rintro e w' (⟨rfl,ho4,n4,rfl⟩ | ⟨rfl,ho4,n4,rfl⟩))
     ·
      go_ret
      exact⟨ret_int (HOD.out H16.out ho4.out),below_drewN (below_alloc _ _) _⟩
     ·
      go_roundw
      case rel=>exact⟨k+1,_,by omega,by go_num,rfl,Lib.hid (HON.out H16.out ho4.out)⟩
      case measure=>simp [intOf];omega
    ·
     have hb16:((row.length:Int) != 16)=true:=by rw [bne_iff_ne];omega
     have HQ:=Lib.hid (HSZ.out h16)
     clear h16
     go_wp2
     go_ret
     exact⟨ret_int HQ.out,below_drewN (below_alloc _ _) _⟩
   ·
    obtain rfl:k=bs.length:=by omega
    have HE:=Lib.hid ((blocks_end (bs:=bs)).symm.trans A.out)
    go_wp2
    go_ret
    exact⟨ret_int HE.out,below_drewN (below_alloc _ _) _⟩
end Go.Proofs.YtkahciebbnhobaaGreatDoor
