/- Several texts joined, each with its own heading in the notes: The contract of sameFrames at frames that read alike. Contracts of frames. Contracts of run. No condition beyond those of each row. -/
import Derived.Test.YtflonfcemlfbdaaDoorYMem
import Derived.Test.YtflonfcemlfbdaaDoorYCm
import Derived.Test.YtflonfcemlfbdaaDoorYEv
namespace Go.Proofs.YtflonfcemlfbdaaDoor
open Go Go.RowKit Go.ChangeShapes Go.WideShapes Go.Deep
set_option maxHeartbeats 2000000
set_option maxRecDepth 100000
set_option linter.unusedVariables false
theorem FramesR.to{B B':Nat}{w w':World}{v:Value}{rs:List (List Int)}{zs:List Int}(hB:B≤B')(hw:Same B w w')(h:FramesR B w v rs zs):FramesR B' w' v rs zs:=by
 obtain⟨vd,vr,hv,h1,h2⟩:=h
 exact⟨vd,vr,hv,h1.to hB hw,h2.to hB hw⟩
theorem FramesR.shape{B:Nat}{w:World}{v:Value}{rs:List (List Int)}{zs:List Int}(h:FramesR B w v rs zs):∃a c a' c',v=.agg #[.slice a rs.length c,.slice a' zs.length c']:=by
 obtain⟨vd,vr,rfl,⟨a,c,rfl,_⟩,⟨a',c',rfl,_⟩⟩:=h
 exact⟨a,c,a',c',rfl⟩
def OkAt(z:Int)(n:Nat):Prop:=0≤z∧z≤200∧(z=0→n=0)∧(z≠0→n=16)
def FOk(rs:List (List Int))(zs:List Int):Prop:=rs.length=zs.length∧zs.length≤200∧∀k,k<zs.length→OkAt (zs.getD k 0) (rs.getD k []).length
def zhw(rs:List (List Int))(zs:List Int)(w:World)(e:Ending)(w':World):Prop:=((FOk rs zs∧e=.returned (.int .i64 0))∨(¬FOk rs zs∧e=.returned (.int .i64 8)))∧Below w.heap.size w w'
theorem zkv{z:Int}{n:Nat}(h:OkAt z n)(h':¬decide (0<z)=((n:Int) == 16)):False:=by
 obtain⟨h1,h2,h3,h4⟩:=h
 apply h'
 rw[Bool.eq_iff_iff,decide_eq_true_iff,beq_iff_eq]
 omega
theorem zjT{z:Int}{n:Nat}(h1:0≤z)(h2:z≤200)(h3:decide (0<z)=((n:Int) == 16))(h4:¬z=0∨¬0<n):OkAt z n:=by
 rw[Bool.eq_iff_iff,decide_eq_true_iff,beq_iff_eq] at h3
 exact⟨h1,h2,by omega,by omega⟩
theorem grow{rs:List (List Int)}{zs:List Int}{k:Nat}(h:∀j,j<k→OkAt (zs.getD j 0) (rs.getD j []).length)(h1:OkAt (zs.getD k 0) (rs.getD k []).length):∀j,j<k+1→OkAt (zs.getD j 0) (rs.getD j []).length:=by
 intro j hj
 rcases Nat.lt_succ_iff_lt_or_eq.1 hj with hj|rfl
 ·exact h j hj
 ·exact h1
theorem zau{α:Type}{l:List α}{k:Nat}(h:k<l.length)(d:α):l.getD k d=l[k]:=by simp[List.getD,h]
theorem zbO(v:Value)(rs:List (List Int))(zs:List Int)(w:World)(hf:FramesR w.heap.size w v rs zs):
 Calls Tryd.prog 74 #[v] w (zhw rs zs w):=by
 obtain⟨vd,vr,rfl,⟨ad,cd,rfl,hld,_,hcd⟩,⟨ar,cr,rfl,hlr,_,hcr⟩⟩:=hf
 have Hcd:=Lib.hid hcd
 have Hcr:=Lib.hid hcr
 clear hcd hcr
 by_cases h1:rs.length=zs.length
 ·
  by_cases h2:zs.length≤200
  ·
   have h1a:((rs.length:Int) != (zs.length:Int))=false:=by simp[h1]
   have h1b:¬(200:Int)<(zs.length:Int):=by omega
   have H1:=Lib.hid h1
   clear h1
   go_enter Tryd.func74,Tryd.ntmps74
   go_wp2
   go_loop [21] (fun i =>∃k:Nat,k≤zs.length∧i=.int .i64 k∧Hid (∀j,j<k→OkAt (zs.getD j 0) (rs.getD j []).length)) (fun i=>zs.length-(intOf i).toNat)
   case atStart=>exact⟨0,Nat.zero_le _,rfl,Lib.hid fun j hj=>absurd hj (Nat.not_lt_zero _)⟩
   case round=>
    obtain⟨k,hk,rfl,hgood⟩:=hrel
    by_cases hlt:k<zs.length
    ·
     have hltr:k<rs.length:=by rw[H1.out];exact hlt
     obtain⟨br,offr,vz,har,hbr,hcellr,hvz,hz⟩:=Hcr.out k hlt
     obtain⟨bd,offd,vrow,had,hbd,hcelld,arow,crow,hvrow,hlrow,_,hrow⟩:=Hcd.out k hltr
     subst har had hvz hvrow
     have hzz:=zau hlt 0
     have hnn:=zau hltr []
     generalize zs[k]=z at *
     generalize rs[k]=row at *
     have Hzz:=Lib.hid hzz
     have Hnn:=Lib.hid hnn
     have Hz:=Lib.hid hz
     clear hz hrow hzz hnn Hcd Hcr
     generalize hn:row.length=n at *
     have Hn:=Lib.hid hn
     clear hn
     go_wp2
     all_goals first
      | (go_ret;refine⟨Or.inr ⟨fun h=>?_,rfl⟩,zai _ _⟩;have q:=h.2.2 k hlt;rw[Hzz.out,Hnn.out,Hn.out] at q;first|(obtain⟨q1,q2,q3,q4⟩:=q;omega)|exact zkv q (by assumption))
      | (go_round
         case rel=>exact⟨k+1,by omega,by go_num,Lib.hid (grow hgood.out (by rw[Hzz.out,Hnn.out,Hn.out];exact zjT (by omega) (by omega) (by assumption) (by first|exact Or.inr (by assumption)|exact Or.inl (by assumption))))⟩
         case measure=>simp[intOf];omega)
    ·
     go_wp2
     go_ret
     refine⟨Or.inl ⟨⟨H1.out,h2,fun j hj=>hgood.out j (by omega)⟩,rfl⟩,zai _ _⟩
  ·
   have h2':(200:Int)<(zs.length:Int):=by omega
   go_enter Tryd.func74,Tryd.ntmps74
   have h1a:((rs.length:Int) != (zs.length:Int))=false:=by simp[h1]
   clear h1
   go_wp2
   go_ret
   exact⟨Or.inr ⟨fun h=>h2 h.2.1,rfl⟩,zai _ _⟩
 ·
  have h1a:((rs.length:Int) != (zs.length:Int))=true:=by rw[bne_iff_ne];omega
  go_enter Tryd.func74,Tryd.ntmps74
  go_wp2
  go_ret
  exact⟨Or.inr ⟨fun h=>h1 h.1,rfl⟩,zai _ _⟩
def farB(z:Int):Bool:=!(decide (0≤z) && decide (z≤3000))
def zhx:List (List Int)→Int
 | []=>0
 | b::r=>if b.length≠16 then 1 else if b.any oddB=true then 2 else zhx r
def zfK(is vs:List Int)(bs:List (List Int))(ds:List Int):Int:=
 if 1000<is.length∨1000<vs.length∨1000<bs.length∨1000<ds.length then 1 else
 if vs.any oddB=true∨is.any farB=true∨ds.any farB=true then 2 else zhx bs
end Go.Proofs.YtflonfcemlfbdaaDoor
