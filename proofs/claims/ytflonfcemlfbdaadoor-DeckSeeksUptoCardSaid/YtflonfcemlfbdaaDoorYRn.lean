/- Several texts joined, each with its own heading in the notes: The contracts of evlog's reader: wrong, number, signed. Events read from bytes, whole, in plain Lean. The contract of evlog's event. No condition beyond those of each row. -/
import Derived.Test.YtflonfcemlfbdaaDoorYNu
import Derived.BigQuiet
namespace Go.Proofs.YtflonfcemlfbdaaDoor
open Go Go.RowKit Go.ChangeShapes Go.WideShapes Go.Deep
set_option maxHeartbeats 8000000
set_option maxRecDepth 100000
set_option linter.unusedVariables false
theorem zaK(w:World)(g i:Nat)(v:Value):w.grownBy (w.setCell ⟨g,i,none⟩ v) (some g):=
 ⟨rfl,rfl,rfl,by simp,fun k _ hne=>Below.heap_setCell w _ v k (fun e=>hne (by rw[e]))⟩
theorem zaJ{w w1 w2:World}{r:Option Nat}(h:w.grownBy w1 r)(h2:w1.grownBy w2 r):w.grownBy w2 r:=
 ⟨h2.os.trans h.os,h2.tape.trans h.tape,h2.output.trans h.output,Nat.le_trans h.size h2.size,fun k hk hne=>(h2.block k (Nat.lt_of_lt_of_le hk h.size) hne).trans (h.block k hk hne)⟩
theorem zbV{w w1:World}{r:Option Nat}(h:w.grownBy w1 r)(n:Nat):w.grownBy (w1.drewN n) r:=⟨h.os,h.tape,h.output,h.size,h.block⟩
structure Rd(w0:World)(g:Nat)(bs:List UInt8)(e:Int)(w:World):Prop where
 box:∃a c,w.heap[g]?=some (.cells #[.slice a bs.length c,.int .i64 e] 106 (0,0))∧BytesR w0.heap.size w0 (.slice a bs.length c) bs
 ge:w0.heap.size≤g
 b:Below w0.heap.size w0 w
theorem Rd.drewN{w0 w:World}{g:Nat}{bs:List UInt8}{e:Int}(h:Rd w0 g bs e w)(n:Nat):Rd w0 g bs e (w.drewN n):=⟨h.box,h.ge,below_drewN h.b n⟩
theorem Rd.lt{w0 w:World}{g:Nat}{bs:List UInt8}{e:Int}(h:Rd w0 g bs e w):g<w.heap.size:=by obtain⟨a,c,hx,_⟩:=h.box;exact(Array.getElem?_eq_some_iff.1 hx).1
theorem Rd.other{w0 w w':World}{g:Nat}{r:Option Nat}{bs:List UInt8}{e:Int}(h:Rd w0 g bs e w)(hg:w.grownBy w' r)(hne:some g≠r)(hr:∀k,r=some k→w0.heap.size≤k):Rd w0 g bs e w':=by
 obtain⟨a,c,hx,hb⟩:=h.box
 exact⟨⟨a,c,zam hg hx hne,hb⟩,h.ge,h.b.grown hg h.b.size (fun k hk=>hr k hk)⟩
theorem zf3{B:Nat}{w:World}{b off cap:Nat}{x:UInt8}{bs:List UInt8}(h:BytesR B w (.slice (some ⟨b,off,none⟩) (bs.length+1) cap) (x::bs)):BytesR B w (.slice (some ⟨b,off+1,none⟩) bs.length (cap-1)) bs:=by
 obtain⟨a,c,hv,hl,hl2,hc⟩:=h
 injection hv with h1 h2 h3
 subst h1 h3
 simp only[List.length_cons] at hl hl2
 refine⟨_,_,rfl,by omega,by omega,fun i hi=>?_⟩
 obtain⟨b',o',vi,ha,hb,hcell,hvi⟩:=hc (i+1) (by simp;omega)
 injection ha with ha
 injection ha with e1 e2
 subst e1 e2
 exact⟨_,_,vi,rfl,hb,by rw[Nat.add_assoc,Nat.add_comm 1 i];exact hcell,by simpa using hvi⟩
theorem zf4{B:Nat}{w:World}{a:Option Addr}{cap n:Nat}{x:UInt8}{bs:List UInt8}(h:BytesR B w (.slice a n cap) (x::bs)):∃b off,a=some ⟨b,off,none⟩∧b<B∧w.cell? ⟨b,off,none⟩=some (.int .u8 (x.toNat:Int))∧bs.length+1≤cap:=by
 obtain⟨a',c,hv,hl,hl2,hc⟩:=h
 injection hv with h1 h2 h3
 subst h1 h3
 obtain⟨b',o',vi,ha,hb,hcell,hvi⟩:=hc 0 (by simp)
 unfold zc5 at hvi
 exact⟨b',o',ha,hb,by rw[hvi] at hcell;simpa using hcell,by simpa using hl2⟩
theorem zgY{i n z:Nat}(hi:i<7)(hn:n<128 ^ i):bits .or .i64 (n:Int) (wrap64 ((z:Int)%128*2 ^ (7*i)))=((n+z%128*128 ^ i:Nat):Int):=by
 rw[zgS]
 rcases (show i=0∨i=1∨i=2∨i=3∨i=4∨i=5∨i=6 by omega) with rfl|rfl|rfl|rfl|rfl|rfl|rfl<;>simp only[Nat.reduceMul,Int.reducePow,Nat.reducePow] at hn ⊢
 ·rw[zba (by omega),zaC 0 (by decide) _ _ (by omega) (by unfold I64;omega) (by omega) (by omega)];omega
 ·rw[zba (by omega),zaC 7 (by decide) _ _ (by omega) (by unfold I64;omega) (by omega) (by omega)];omega
 ·rw[zba (by omega),zaC 14 (by decide) _ _ (by omega) (by unfold I64;omega) (by omega) (by omega)];omega
 ·rw[zba (by omega),zaC 21 (by decide) _ _ (by omega) (by unfold I64;omega) (by omega) (by omega)];omega
 ·rw[zba (by omega),zaC 28 (by decide) _ _ (by omega) (by unfold I64;omega) (by omega) (by omega)];omega
 ·rw[zba (by omega),zaC 35 (by decide) _ _ (by omega) (by unfold I64;omega) (by omega) (by omega)];omega
 ·rw[zba (by omega),zaC 42 (by decide) _ _ (by omega) (by unfold I64;omega) (by omega) (by omega)];omega
theorem zfu{i n r:Nat}(hn:n<128 ^ i)(hr:r<128):n+r*128 ^ i<128 ^ (i+1):=by
 rw[Nat.pow_succ]
 have:=Nat.mul_le_mul_right (128 ^ i) (show r≤127 by omega)
 omega
theorem zeN{B:Nat}{w:World}{b off:Nat}{x:UInt8}{bs:List UInt8}(h:BytesR B w (.slice (some ⟨b,off,none⟩) (bs.length+1) 1) (x::bs)):bs=[]:=by
 obtain⟨a,c,hv,hl,hl2,hc⟩:=h
 injection hv with h1 h2 h3
 simp only[List.length_cons] at hl hl2
 exact List.eq_nil_of_length_eq_zero (by omega)
theorem zgZ(B:Nat)(w:World)(a:Option Addr)(c:Nat):BytesR B w (.slice a 0 c) []:=⟨a,c,rfl,by simp,by simp,fun i h=>absurd h (Nat.not_lt_zero _)⟩
theorem zcJ(w0:World)(g:Nat)(bs:List UInt8)(x:Int)(w:World)(h:Rd w0 g bs 0 w):Calls Tryd.prog 52 #[.pointer (some ⟨g,0,none⟩),.int .i64 x] w fun e w'=>e=.returned (.int .i64 0)∧Rd w0 g bs x w'∧w.grownBy w' (some g):=by
 obtain⟨⟨a,c,hx,hb⟩,hge,hbl⟩:=h
 have q1:w.cell? ⟨g,1,none⟩=some (.int .i64 0):=zaa hx 1
 have f1:=zab hx 1
 have lg:g<w.heap.size:=(Array.getElem?_eq_some_iff.1 hx).1
 have HX:=Lib.hid (show (w.setCell ⟨g,1,none⟩ (.int .i64 x)).heap[g]?=some (.cells #[.slice a bs.length c,.int .i64 x] 106 (0,0)) from zaf hx _)
 have HB:=Lib.hid hb
 have HBL:=Lib.hid (hbl.setCell (p:=⟨g,1,none⟩) hge (.int .i64 x))
 clear hx hb hbl
 go_enter Tryd.func52,Tryd.ntmps52
 go_wp2
 go_ret
 exact⟨rfl,⟨⟨a,c,HX.out,HB.out⟩,hge,HBL.out⟩,zaK _ _ _ _⟩
theorem zdb(w0:World)(g:Nat)(bs:List UInt8)(x:Int)(w:World)(h:Rd w0 g bs x w)(h0:x≠0):Calls Tryd.prog 50 #[.pointer (some ⟨g,0,none⟩)] w fun e w'=>e=.returned (.int .i64 0)∧Rd w0 g bs x w'∧w.grownBy w' (some g):=by
 have HD:=Lib.hid h
 obtain⟨⟨a,c,hx,hb⟩,hge,hbl⟩:=h
 have q1:w.cell? ⟨g,1,none⟩=some (.int .i64 x):=zaa hx 1
 have lg:g<w.heap.size:=(Array.getElem?_eq_some_iff.1 hx).1
 have hx0:(x == 0)=false:=by rw[beq_eq_false_iff_ne];exact h0
 clear hx hb hbl
 go_enter Tryd.func50,Tryd.ntmps50
 go_wp2_with fail
 go_loopg [3,4] 1 (fun gh s3 s4 wr=>gh=1∧wr=w)
 case atStart=>exact⟨rfl,rfl⟩
 case round=>
  obtain⟨rfl,rfl⟩:=hrel
  go_wp2
  go_ret
  exact⟨rfl,HD.out,World.grownBy.refl _ _⟩
theorem zeO(w0:World)(g:Nat)(bs:List UInt8)(w:World)(h:Rd w0 g bs 0 w):Calls Tryd.prog 50 #[.pointer (some ⟨g,0,none⟩)] w fun e w'=>e=.returned (.int .i64 ((numP 0 0 bs).2.1:Int))∧Rd w0 g (numP 0 0 bs).2.2 (numP 0 0 bs).1 w'∧w.grownBy w' (some g):=by
 have HD:=Lib.hid h
 clear h
 go_enter Tryd.func50,Tryd.ntmps50
 go_wp2_with fail
 go_loopg [3,4] (bs.length+1) (fun gh s3 s4 wr =>∃(i n:Nat) (cs:List UInt8),gh=cs.length+1∧i≤7∧n<128 ^ i∧s3=.int .i64 n∧s4=.int .i64 i∧Hid (numP 0 0 bs=numP i n cs)∧Hid (Rd w0 g cs 0 wr)∧Hid (w.grownBy wr (some g)))
 case atStart=>exact⟨0,0,bs,rfl,by omega,by decide,rfl,rfl,Lib.hid rfl,HD,Lib.hid (World.grownBy.refl _ _)⟩
 case round=>
  obtain⟨i,n,cs,rfl,hi,hn,rfl,rfl,E,R,G⟩:=hrel
  obtain⟨a,c,hx,hb⟩:=R.out.box
  have lg:=R.out.lt
  have hge:=R.out.ge
  have q1:wr.cell? ⟨g,1,none⟩=some (.int .i64 0):=zaa hx 1
  have q0:wr.cell? ⟨g,0,none⟩=some (.slice a cs.length c):=zaa hx 0
  have f0:=zab hx 0
  cases cs with
  | nil=>
   have hw:=Lib.hid (zcJ w0 g [] 5 wr R.out)
   have e0:numP 0 0 bs=(5,0,[]):=by rw[E.out];rfl
   have E0:=Lib.hid e0
   clear hx hb e0
   simp only[List.length_nil] at q0
   go_wp2_with fail
   refine hw.out.mono ?_
   rintro e w1 ⟨rfl,hr1,hg1⟩
   go_wp2
   go_ret
   rw[E0.out]
   exact⟨rfl,hr1,zaJ G.out hg1⟩
  | cons x cs=>
   obtain⟨b,off,rfl,hbB,hcell,hcap⟩:=zf4 hb
   have hc:=zbA x
   have r0:wr.cell? ⟨b,off,none⟩=some (.int .u8 (x.toNat:Int)):=(zae R.out.b _ _ hbB).trans hcell
   have hbg:b<wr.heap.size:=by have:=R.out.b.size;omega
   have HBR:=Lib.hid hb
   have HXX:=Lib.hid hx
   simp only[List.length_cons] at q0
   clear hx hb hcell
   go_upto_region 8 with fail
   go_cut [] from 6 to 57 (fun wx=>Hid (Rd w0 g cs 0 wx)∧Hid (w.grownBy wx (some g)))
   case first=>
    by_cases hc1:c=1
    ·
     subst hc1
     obtain rfl:=zeN HBR.out
     have HX:=Lib.hid (zaf (i:=0) HXX.out (.slice (some ⟨b,off,none⟩) 0 0))
     have HR1:=Lib.hid (show Rd w0 g [] 0 (wr.setCell ⟨g,0,none⟩ (.slice (some ⟨b,off,none⟩) 0 0)) from ⟨⟨_,_,HX.out,zgZ _ _ _ _⟩,hge,R.out.b.setCell (p:=⟨g,0,none⟩) hge _⟩)
     have HG1:=Lib.hid (zaJ G.out (zaK wr g 0 (.slice (some ⟨b,off,none⟩) 0 0)))
     simp only[List.length_nil] at q0
     go_wp2_with fail
     all_goals (go_meet;exact⟨HR1,HG1⟩)
    ·
     have hb2:=zf3 HBR.out
     have HX:=Lib.hid (zaf (i:=0) HXX.out (.slice (some ⟨b,off+1,none⟩) cs.length (c-1)))
     have HR1:=Lib.hid (show Rd w0 g cs 0 (wr.setCell ⟨g,0,none⟩ (.slice (some ⟨b,off+1,none⟩) cs.length (c-1))) from ⟨⟨_,_,HX.out,hb2⟩,hge,R.out.b.setCell (p:=⟨g,0,none⟩) hge _⟩)
     have HG1:=Lib.hid (zaJ G.out (zaK wr g 0 (.slice (some ⟨b,off+1,none⟩) cs.length (c-1))))
     clear hb2
     go_wp2_with fail
     all_goals (go_meet;exact⟨HR1,HG1⟩)
   case rest=>
    obtain⟨HR1,HG1⟩:=hcut
    clear q0 q1 f0 r0 HXX HBR
    by_cases h1:(0<i∧x.toNat=0)∨i=7
    ·
     have e0:numP 0 0 bs=(4,0,cs):=by rw[E.out];exact zb0 h1
     have E0:=Lib.hid e0
     have HW:=Lib.hid (zcJ w0 g cs 4 _ HR1.out)
     clear e0
     rcases (show i=7∨(0<i∧i<7∧x.toNat=0) by omega) with rfl|⟨hi0,hi7,hx0⟩
     ·
      go_wp2_with fail
      all_goals (
       refine HW.out.mono ?_
       rintro e w1 ⟨rfl,hr1,hg1⟩
       go_wp2
       go_ret
       rw[E0.out]
       exact⟨rfl,hr1,zaJ HG1.out hg1⟩)
     ·
      rw[hx0]
      go_wp2_with fail
      all_goals (
       refine HW.out.mono ?_
       rintro e w1 ⟨rfl,hr1,hg1⟩
       go_wp2
       go_ret
       rw[E0.out]
       exact⟨rfl,hr1,zaJ HG1.out hg1⟩)
    ·
     have hi7:i<7:=by omega
     have e1:bits .and .i64 (x.toNat:Int) 127=(x.toNat:Int)%128:=i64_and127 _
     have e2:=zgY (z:=x.toNat) hi7 hn
     have hp:=zfu (r:=x.toNat%128) hn (by omega)
     by_cases hx8:x.toNat<128
     ·
      have e0:numP 0 0 bs=(0,n+x.toNat%128*128 ^ i,cs):=by rw[E.out];exact zcz h1 hx8
      have E0:=Lib.hid e0
      clear e0 E
      generalize x.toNat=z at *
      generalize hm:n+z%128*128 ^ i=m at *
      have HP:=Lib.hid hp
      have h0i:¬(0<i)∨(¬z=0∧0<i):=by omega
      clear hp hm hn
      rcases h0i with h0i|⟨h0i,hi0⟩
      ·
       have hi7b:((i:Int) == 7)=false:=by rw[beq_eq_false_iff_ne];omega
       clear h1
       go_wp2
       go_ret
       rw[E0.out]
       exact⟨rfl,HR1.out,HG1.out⟩
      ·
       have hz0:((z:Int) == 0)=false:=by rw[beq_eq_false_iff_ne];omega
       have hi7b:((i:Int) == 7)=false:=by rw[beq_eq_false_iff_ne];omega
       clear h1
       go_wp2
       go_ret
       rw[E0.out]
       exact⟨rfl,HR1.out,HG1.out⟩
     ·
      have e0:numP 0 0 bs=numP (i+1) (n+x.toNat%128*128 ^ i) cs:=by rw[E.out];exact zb1 h1 hx8
      have E0:=Lib.hid e0
      clear e0 E
      generalize x.toNat=z at *
      generalize hm:n+z%128*128 ^ i=m at *
      have HP:=Lib.hid hp
      clear hp hm hn
      have h0z:¬z=0:=by omega
      have hz0:((z:Int) == 0)=false:=by rw[beq_eq_false_iff_ne];omega
      have hi7b:((i:Int) == 7)=false:=by rw[beq_eq_false_iff_ne];omega
      clear h1
      go_wp2
      all_goals (
       go_roundg (cs.length+1)
       case measure=>simp
       case rel=>exact⟨i+1,m,cs,rfl,by omega,HP.out,rfl,by go_num,E0,HR1,HG1⟩)
theorem zcK(w0:World)(g:Nat)(bs:List UInt8)(w:World)(h:Rd w0 g bs 0 w){e:Int}{v:Nat}{r:List UInt8}(hn:numP 0 0 bs=(e,v,r)):Calls Tryd.prog 50 #[.pointer (some ⟨g,0,none⟩)] w fun en w'=>en=.returned (.int .i64 (v:Int))∧Rd w0 g r e w'∧w.grownBy w' (some g):=by
 have:=zeO w0 g bs w h
 rw[hn] at this
 exact this
theorem zdZ(w0:World)(g:Nat)(bs:List UInt8)(w:World)(h:Rd w0 g bs 0 w){e:Int}{v:Nat}{r:List UInt8}(hn:numP 0 0 bs=(e,v,r)):Calls Tryd.prog 70 #[.pointer (some ⟨g,0,none⟩)] w fun en w'=>en=.returned (.int .i64 (zag v))∧Rd w0 g r e w'∧w.grownBy w' (some g):=by
 have HN:=Lib.hid (zcK w0 g bs w h hn)
 have hv:v<128 ^ 7:=by
  rcases zcA bs 0 0 with h0|⟨_,h0⟩
  ·rw[hn] at h0;simp only at h0;subst h0;exact zgK hn
  ·rw[hn] at h0;simp only at h0;subst h0;decide
 have hv2:v<562949953421312:=Nat.lt_of_lt_of_le hv (by decide)
 clear h hn hv
 have e1:bits .and .i64 (v:Int) 1=(v:Int)%2:=zil _
 by_cases ho:v%2=1
 ·
  have hz:zag v = -(((v:Int)+1)/2):=by unfold zag;rw[if_pos ho];omega
  have ho2:(v:Int)%2=1:=by omega
  rw[ho2] at e1
  rw[hz]
  clear hz
  go_enter Tryd.func70,Tryd.ntmps70
  go_wp2_with fail
  refine HN.out.mono ?_
  rintro e w1 ⟨rfl,h1,h2⟩
  go_wp2
  have ht:((v:Int)+1).tdiv 2=((v:Int)+1)/2:=Int.tdiv_eq_ediv_of_nonneg (by omega)
  go_ret
  exact⟨zbd (by (try rw[Int.neg_tdiv]);rw[ht,zba (by omega)]),h1,h2⟩
 ·
  have hz:zag v=(v:Int)/2:=by unfold zag;rw[if_neg ho];omega
  have ho2:(v:Int)%2=0:=by omega
  rw[ho2] at e1
  rw[hz]
  clear hz
  go_enter Tryd.func70,Tryd.ntmps70
  go_wp2_with fail
  refine HN.out.mono ?_
  rintro e w1 ⟨rfl,h1,h2⟩
  go_wp2
  go_ret
  exact⟨rfl,h1,h2⟩
theorem zeP(w0:World)(g:Nat)(bs:List UInt8)(x:Int)(w:World)(h:Rd w0 g bs x w)(h0:x≠0):Calls Tryd.prog 70 #[.pointer (some ⟨g,0,none⟩)] w fun en w'=>en=.returned (.int .i64 0)∧Rd w0 g bs x w'∧w.grownBy w' (some g):=by
 have HN:=Lib.hid (zdb w0 g bs x w h h0)
 clear h
 have e1:bits .and .i64 0 1=0:=by decide
 go_enter Tryd.func70,Tryd.ntmps70
 go_wp2_with fail
 refine HN.out.mono ?_
 rintro e w1 ⟨rfl,h1,h2⟩
 go_wp2
 go_ret
 exact⟨rfl,h1,h2⟩
end Go.Proofs.YtflonfcemlfbdaaDoor
namespace Go.Proofs.YtflonfcemlfbdaaDoor
set_option linter.unusedVariables false
def numE(e:Int)(bs:List UInt8):Int×Nat×List UInt8:=if e=0 then numP 0 0 bs else (e,0,bs)
theorem zd0(bs:List UInt8):numE 0 bs=numP 0 0 bs:=rfl
theorem zfv{e:Int}(h:e≠0)(bs:List UInt8):numE e bs=(e,0,bs):=by unfold numE;rw[if_neg h]
theorem zaX{e e':Int}{bs r:List UInt8}{v:Nat}(h:numE e bs=(e',v,r)):v<562949953421312:=by
 by_cases h0:e=0
 ·
  subst h0
  rw[zd0] at h
  have hv:v<128 ^ 7:=by
   rcases zcA bs 0 0 with k|⟨_,k⟩
   ·rw[h] at k;simp only at k;subst k;exact zgK h
   ·rw[h] at k;simp only at k;subst k;decide
  exact Nat.lt_of_lt_of_le hv (by decide)
 ·
  rw[zfv h0] at h
  injection h with h1 h2
  injection h2 with h2 h3
  omega
theorem zbc{e e':Int}{bs r:List UInt8}{v:Nat}(h:numE e bs=(e',v,r))(h0:e≠0):e'=e∧v=0∧r=bs:=by
 rw[zfv h0] at h
 injection h with h1 h2
 injection h2 with h2 h3
 exact⟨h1.symm,h2.symm,h3.symm⟩
theorem zdc{v:Nat}(h:v<562949953421312):-562949953421312≤zag v∧zag v≤562949953421312:=by unfold zag;split<;>omega
def evP(a:Int)(bs:List UInt8):Int×Ev×List UInt8:=
 let p:=numP 0 0 bs
 if p.1≠0 then (p.1,⟨a,0,[]⟩,p.2.2) else
 if p.2.1%4=0 then (3,⟨a,0,[]⟩,p.2.2) else
 if p.2.1%4=1 then (0,⟨a+((p.2.1/4:Nat):Int),1,[]⟩,p.2.2) else
 if p.2.1%4=2 then ((blkP 16 [] 0 p.2.2).1,⟨a+((p.2.1/4:Nat):Int),2,(blkP 16 [] 0 p.2.2).2.1⟩,(blkP 16 [] 0 p.2.2).2.2)
 else ((numP 0 0 p.2.2).1,⟨a+((p.2.1/4:Nat):Int),3,[zag (numP 0 0 p.2.2).2.1]⟩,(numP 0 0 p.2.2).2.2)
theorem zjB{a:Int}{bs r:List UInt8}{e:Int}{n:Nat}(h:numP 0 0 bs=(e,n,r))(h0:e≠0):evP a bs=(e,⟨a,0,[]⟩,r):=by
 unfold evP;simp only[h];rw[if_pos h0]
theorem zjC{a:Int}{bs r:List UInt8}{n:Nat}(h:numP 0 0 bs=(0,n,r))(hk:n%4=0):evP a bs=(3,⟨a,0,[]⟩,r):=by
 unfold evP;simp only[h];rw[if_neg (by simp),if_pos hk]
theorem zjD{a:Int}{bs r:List UInt8}{n:Nat}(h:numP 0 0 bs=(0,n,r))(hk:n%4=1):evP a bs=(0,⟨a+((n/4:Nat):Int),1,[]⟩,r):=by
 unfold evP;simp only[h];rw[if_neg (by simp),if_neg (by omega),if_pos hk]
theorem ziu{a:Int}{bs r r2:List UInt8}{n:Nat}{e:Int}{d:List Int}(h:numP 0 0 bs=(0,n,r))(hk:n%4=2)(hb:blkP 16 [] 0 r=(e,d,r2)):evP a bs=(e,⟨a+((n/4:Nat):Int),2,d⟩,r2):=by
 unfold evP;simp only[h,hb];rw[if_neg (by simp),if_neg (by omega),if_neg (by omega),if_pos hk]
theorem ziv{a:Int}{bs r r2:List UInt8}{n z:Nat}{e:Int}(h:numP 0 0 bs=(0,n,r))(hk:n%4=3)(hb:numP 0 0 r=(e,z,r2)):evP a bs=(e,⟨a+((n/4:Nat):Int),3,[zag z]⟩,r2):=by
 unfold evP;simp only[h,hb];rw[if_neg (by simp),if_neg (by omega),if_neg (by omega),if_neg (by omega)]
structure BlkIn(r1:List UInt8)(f:Nat)(acc:List Int)(last:Int)(e:Int)(bs:List UInt8):Prop where
 eq:if e=0 then blkP 16 [] 0 r1=blkP f acc last bs else (blkP 16 [] 0 r1).1=e∧(blkP 16 [] 0 r1).2.2=bs
 len:acc.length≤16
 fuel:e=0→16≤f+acc.length
 f16:f≤16
 lo:-((16-(f:Int))*562949953421312)≤last
 hi:last≤(16-(f:Int))*562949953421312
 i64:∀z∈acc,I64 z
theorem BlkIn.start(r1:List UInt8):BlkIn r1 16 [] 0 0 r1:=⟨by rw[if_pos rfl],by simp,by simp,by omega,by simp,by simp,by simp⟩
def zbx(acc:List Int)(k:Nat)(v last:Int):Prop:=k<1∨16-acc.length<k∨(0<acc.length∧v=last)
def RunE(acc:List Int)(k:Nat)(v last e2 e3:Int):Prop:=(e2≠0∧e3=e2)∨(e2=0∧zbx acc k v last∧e3=4)∨(e2=0∧¬zbx acc k v last∧e3=0)
def accE(acc:List Int)(k:Nat)(v e3:Int):List Int:=if e3=0 then acc++List.replicate k v else acc
theorem BlkIn.step{r1 bs ra rb:List UInt8}{f k z:Nat}{acc:List Int}{last e1 e2 e3:Int}(h:BlkIn r1 f acc last 0 bs)(hl:acc.length<16)(h1:numP 0 0 bs=(e1,k,ra))(h2:numE e1 ra=(e2,z,rb))(h3:RunE acc k (last+zag z) last e2 e3):BlkIn r1 (f-1) (accE acc k (last+zag z) e3) (last+zag z) e3 rb∧0<f:=by
 have hf:=h.fuel rfl
 obtain⟨f',rfl⟩:∃f',f=f'+1:=⟨f-1,by omega⟩
 have he:=h.eq
 rw[if_pos rfl] at he
 have hz:=zdc (zaX h2)
 have hlo:=h.lo;have hhi:=h.hi;have h16:=h.f16;have hlen:=h.len
 have hb1:-((16-((f'+1-1:Nat):Int))*562949953421312)≤last+zag z:=by omega
 have hb2:last+zag z≤(16-((f'+1-1:Nat):Int))*562949953421312:=by omega
 have key:e3≠0→(blkP 16 [] 0 r1).1=e3∧(blkP 16 [] 0 r1).2.2=rb→BlkIn r1 (f'+1-1) (accE acc k (last+zag z) e3) (last+zag z) e3 rb∧0<f'+1:=by
  intro h4 h5
  unfold accE
  rw[if_neg h4]
  exact⟨⟨by rw[if_neg h4];exact h5,hlen,fun h=>absurd h h4,by omega,hb1,hb2,h.i64⟩,by omega⟩
 rcases h3 with⟨h3,rfl⟩|⟨rfl,hbad,rfl⟩|⟨rfl,hbad,rfl⟩
 ·
  refine key h3 ?_
  rw[he]
  by_cases h0:e1=0
  ·
   subst h0
   rw[zgM (by omega) h1 h2 h3];exact⟨rfl,rfl⟩
  ·
   obtain⟨rfl,rfl,rfl⟩:=zbc h2 h0
   rw[zgL (by omega) h1 h3];exact⟨rfl,rfl⟩
 ·
  have h0:e1=0:=by
   by_cases h0:e1=0
   ·exact h0
   ·have:=(zbc h2 h0).1;omega
  subst h0
  refine key (by decide) ?_
  rw[he,zgN (by omega) h1 h2 (by unfold zbx at hbad;exact hbad)];exact⟨rfl,rfl⟩
 ·
  have h0:e1=0:=by
   by_cases h0:e1=0
   ·exact h0
   ·have:=(zbc h2 h0).1;omega
  subst h0
  have hbad':=hbad
  unfold zbx at hbad'
  unfold accE
  rw[if_pos rfl]
  refine⟨⟨by rw[if_pos rfl,he,zgO (by omega) h1 h2 hbad'];rfl,by simp;omega,fun _=>by simp;omega,by omega,hb1,hb2,?_⟩,by omega⟩
  intro y hy
  rcases List.mem_append.1 hy with hy|hy
  ·exact h.i64 y hy
  ·rw[List.eq_of_mem_replicate hy];unfold I64;omega
theorem BlkIn.fin{r1 bs:List UInt8}{f:Nat}{acc:List Int}{last:Int}(h:BlkIn r1 f acc last 0 bs)(hl:¬acc.length<16):blkP 16 [] 0 r1=(0,acc,bs):=by
 have he:=h.eq
 rw[if_pos rfl] at he
 rw[he,zdV (by omega)]
theorem BlkIn.err{r1 bs:List UInt8}{f:Nat}{acc:List Int}{last e:Int}(h:BlkIn r1 f acc last e bs)(h0:e≠0):∃d,blkP 16 [] 0 r1=(e,d,bs):=by
 have he:=h.eq
 rw[if_neg h0] at he
 exact⟨_,Prod.ext he.1 (Prod.ext rfl he.2)⟩
def evsP:Nat→Int→List UInt8→Int×List Ev×List UInt8
 | 0,_,bs=>(0,[],bs)
 | m+1,a,bs=>if (evP a bs).1≠0 then ((evP a bs).1,[],(evP a bs).2.2) else ((evsP m (evP a bs).2.1.at_ (evP a bs).2.2).1,(evP a bs).2.1::(evsP m (evP a bs).2.1.at_ (evP a bs).2.2).2.1,(evsP m (evP a bs).2.1.at_ (evP a bs).2.2).2.2)
theorem zjf{m:Nat}{a e:Int}{bs r:List UInt8}{x:Ev}(h:evP a bs=(e,x,r))(h0:e≠0):evsP (m+1) a bs=(e,[],r):=by
 rw[evsP,h,if_pos h0]
theorem zg0{m:Nat}{a:Int}{bs r:List UInt8}{x:Ev}(h:evP a bs=(0,x,r)):evsP (m+1) a bs=((evsP m x.at_ r).1,x::(evsP m x.at_ r).2.1,(evsP m x.at_ r).2.2):=by
 rw[evsP,h,if_neg (by simp)]
end Go.Proofs.YtflonfcemlfbdaaDoor
namespace Go.Proofs.YtflonfcemlfbdaaDoor
open Go Go.RowKit Go.ChangeShapes Go.WideShapes Go.Deep
set_option maxHeartbeats 8000000
set_option maxRecDepth 100000
set_option linter.unusedVariables false
theorem za5(w0:World)(g:Nat)(bs:List UInt8)(w:World){e0:Int}(h:Rd w0 g bs e0 w){e:Int}{v:Nat}{r:List UInt8}(hn:numE e0 bs=(e,v,r)):Calls Tryd.prog 50 #[.pointer (some ⟨g,0,none⟩)] w fun en w'=>en=.returned (.int .i64 (v:Int))∧Rd w0 g r e w'∧w.grownBy w' (some g):=by
 by_cases h0:e0=0
 ·subst h0;exact zcK w0 g bs w h hn
 ·
  obtain⟨rfl,rfl,rfl⟩:=zbc hn h0
  exact zdb w0 g r e w h h0
theorem zcL(w0:World)(g:Nat)(bs:List UInt8)(w:World){e0:Int}(h:Rd w0 g bs e0 w){e:Int}{v:Nat}{r:List UInt8}(hn:numE e0 bs=(e,v,r)):Calls Tryd.prog 70 #[.pointer (some ⟨g,0,none⟩)] w fun en w'=>en=.returned (.int .i64 (zag v))∧Rd w0 g r e w'∧w.grownBy w' (some g):=by
 by_cases h0:e0=0
 ·subst h0;exact zdZ w0 g bs w h hn
 ·
  obtain⟨rfl,rfl,rfl⟩:=zbc hn h0
  exact zeP w0 g r e w h h0
theorem zcg(w0:World)(g:Nat)(bs:List UInt8)(x:Int)(w:World)(h:Rd w0 g bs 0 w):Calls Tryd.prog 52 #[.pointer (some ⟨g,0,none⟩),.int .i64 x] w fun e w'=>e=.returned (.int .i64 0)∧Rd w0 g bs x w'∧w.grownBy w' (some g):=zcJ w0 g bs x w h
theorem Rd.c1{w0 w:World}{g:Nat}{bs:List UInt8}{e:Int}(h:Rd w0 g bs e w):w.cell? ⟨g,1,none⟩=some (.int .i64 e):=by
 obtain⟨a,c,hx,_⟩:=h.box
 exact zaa hx 1
structure ESt(w0 w:World)(g gx:Nat)(x0 x1:Int)(acc:List Int)(bs:List UInt8)(e:Int)(wr:World):Prop where
 rd:Rd w0 g bs e wr
 rb:wr.heap[w.heap.size]?=some (.cells #[.int .i64 0,.int .i64 0,.slice none 0 0] 75 (0,0))
 xb:∃a c,wr.heap[gx]?=some (.cells #[.int .i64 x0,.int .i64 x1,.slice a acc.length c] 75 (0,0))∧wr.ownsRow w.heap.size 3 1 (.slice a acc.length c) acc.length (acc.map (Value.int .i64))
 gb:w.grownBy wr (some g)
 lt:g<w.heap.size
 gx:w.heap.size<gx
theorem ESt.start{w0 w w1:World}{g:Nat}{bs r:List UInt8}{e x0 x1:Int}(h:Rd w0 g bs 0 w)(hr:Rd w0 g r e w1)(hg:(w.alloc (.cells #[.int .i64 0,.int .i64 0,.slice none 0 0] 75)).grownBy w1 (some g)):ESt w0 w g w1.heap.size x0 x1 [] r e (w1.alloc (.cells #[.int .i64 x0,.int .i64 x1,.slice none 0 0] 75)):=by
 have hs:=hg.size
 simp only[World.size_alloc] at hs
 have lt:=h.lt
 refine⟨hr.other (World.grownBy_alloc w1 _ none) (by simp) (by simp),?_,⟨none,0,alloc_at rfl,World.ownsRow_nil _ _ _ _⟩,?_,lt,by omega⟩
 ·
  rw[zaj (by omega),hg.block _ (by simp) (by simp;omega)]
  exact alloc_at rfl
 ·
  refine⟨hg.os,hg.tape,hg.output,by simp;omega,fun k hk hne=>?_⟩
  rw[zaj (by omega),hg.block k (by simp;omega) hne,zaj hk]
theorem ESt.mv{w0 w wr w':World}{g gx:Nat}{x0 x1 e e':Int}{acc:List Int}{bs bs':List UInt8}(h:ESt w0 w g gx x0 x1 acc bs e wr)(hr:Rd w0 g bs' e' w')(hg:wr.grownBy w' (some g)):ESt w0 w g gx x0 x1 acc bs' e' w':=by
 have lt:=h.lt;have lx:=h.gx
 obtain⟨a,c,hx,ho⟩:=h.xb
 refine⟨hr,zam hg h.rb (by simp;omega),⟨a,c,zam hg hx (by simp;omega),ho.kept hg ?_⟩,zaJ h.gb hg,lt,lx⟩
 cases hob:(Value.slice a acc.length c).ownBlock with
 | none=>exact Or.inl rfl
 | some k=>exact Or.inr (by have:=(ho.lt k hob).1;simp;omega)
theorem ESt.drewN{w0 w wr:World}{g gx:Nat}{x0 x1 e:Int}{acc:List Int}{bs:List UInt8}(h:ESt w0 w g gx x0 x1 acc bs e wr)(n:Nat):ESt w0 w g gx x0 x1 acc bs e (wr.drewN n):=⟨h.rd.drewN n,h.rb,h.xb,zbV h.gb n,h.lt,h.gx⟩
theorem ESt.y{w0 w wr:World}{g gx:Nat}{x0 x1 e:Int}{acc:List Int}{bs:List UInt8}(h:ESt w0 w g gx x0 x1 acc bs e wr):wr.cell? ⟨g,1,none⟩=some (.int .i64 e)∧wr.cell? ⟨gx,0,none⟩=some (.int .i64 x0)∧wr.cell? ⟨gx,1,none⟩=some (.int .i64 x1)∧g<wr.heap.size∧gx<wr.heap.size∧w.heap.size<wr.heap.size∧(∀i,wr.frozen? ⟨w.heap.size,i,none⟩=false)∧(∀i,wr.frozen? ⟨gx,i,none⟩=false):=by
 obtain⟨a,c,hx,ho⟩:=h.xb
 exact⟨h.rd.c1,zaa hx 0,zaa hx 1,h.rd.lt,(Array.getElem?_eq_some_iff.1 hx).1,(Array.getElem?_eq_some_iff.1 h.rb).1,fun i=>zab h.rb i,fun i=>zab hx i⟩
theorem ESt.r{w0 w wr:World}{g gx:Nat}{x0 x1 e:Int}{acc:List Int}{bs:List UInt8}(h:ESt w0 w g gx x0 x1 acc bs e wr):wr.cell? ⟨w.heap.size,0,none⟩=some (.int .i64 0)∧wr.cell? ⟨w.heap.size,1,none⟩=some (.int .i64 0)∧wr.cell? ⟨w.heap.size,2,none⟩=some (.slice none 0 0)∧wr.frozen? ⟨w.heap.size,0,none⟩=false∧wr.frozen? ⟨w.heap.size,1,none⟩=false∧wr.frozen? ⟨w.heap.size,2,none⟩=false:=
 ⟨zaa h.rb 0,zaa h.rb 1,zaa h.rb 2,zab h.rb 0,zab h.rb 1,zab h.rb 2⟩
theorem ESt.tab{w0 w wr:World}{g gx:Nat}{x0 x1 e:Int}{acc:List Int}{bs:List UInt8}(h:ESt w0 w g gx x0 x1 acc bs e wr)(ht:Tab w0):Tab wr:=ht.to h.rd.b
theorem ESt.done {w0 w wr : World} {g gx : Nat} {x0 x1 e : Int} {acc : List Int} {bs : List UInt8} (h : ESt w0 w g gx x0 x1 acc bs e wr) {a : Option Addr} {c : Nat} (ho : wr.ownsRow w.heap.size 3 1 (.slice a acc.length c) acc.length (acc.map (Value.int .i64))) {W : World} (hW : W = ((wr.setCell ⟨w.heap.size, 0, none⟩ (.int .i64 x0)).setCell ⟨w.heap.size, 1, none⟩ (.int .i64 x1)).setCell ⟨w.heap.size, 2, none⟩ (.slice a acc.length c)) :
  W.heap[w.heap.size]?=some (.cells #[.int .i64 x0,.int .i64 x1,.slice a acc.length c] 75 (0,0))∧Rd w0 g bs e W∧w.grownBy W (some g)∧W.ownsRow w.heap.size 3 1 (.slice a acc.length c) acc.length (acc.map (Value.int .i64)):=by
 subst hW
 have lt:=h.lt
 have b1:=zaf (i:=0) h.rb (.int .i64 x0)
 have b2:=zaf (i:=1) b1 (.int .i64 x1)
 have b3:=zaf (i:=2) b2 (.slice a acc.length c)
 have hg:wr.grownBy (((wr.setCell ⟨w.heap.size,0,none⟩ (.int .i64 x0)).setCell ⟨w.heap.size,1,none⟩ (.int .i64 x1)).setCell ⟨w.heap.size,2,none⟩ (.slice a acc.length c)) (some w.heap.size):=zaJ (zaJ (zaK _ _ _ _) (zaK _ _ _ _)) (zaK _ _ _ _)
 refine⟨b3,h.rd.other hg (by simp;omega) (fun k hk=>by injection hk with hk;have:=h.rd.ge;omega),⟨hg.os.trans h.gb.os,hg.tape.trans h.gb.tape,hg.output.trans h.gb.output,Nat.le_trans h.gb.size hg.size,fun k hk hne=>(hg.block k (Nat.lt_of_lt_of_le hk h.gb.size) (by simp;omega)).trans (h.gb.block k hk hne)⟩,ho.kept hg ?_⟩
 exact Or.inr (fun e=>zad ho h.rb (by decide) e.symm)
def EvPostR(w0:World)(g:Nat)(a:Int)(bs:List UInt8)(w:World)(en:Ending)(w':World):Prop:=∃(x0 x1:Int) (da:Option Addr) (dn dc:Nat),en=.returned (.agg #[.int .i64 x0,.int .i64 x1,.slice da dn dc])∧Rd w0 g (evP a bs).2.2 (evP a bs).1 w'∧w.grownBy w' (some g) ∧
 ((evP a bs).1=0→x0=(evP a bs).2.1.at_∧x1=(evP a bs).2.1.kind∧w'.ownsRow w.heap.size 3 1 (.slice da dn dc) (evP a bs).2.1.data.length ((evP a bs).2.1.data.map (Value.int .i64))∧(∀z∈(evP a bs).2.1.data,I64 z)∧(evP a bs).2.1.data.length≤16∧a≤(evP a bs).2.1.at_∧(evP a bs).2.1.at_≤a+140737488355328)
theorem EvPostR.mk{w0:World}{g:Nat}{a:Int}{bs r:List UInt8}{w w':World}{e x0 x1:Int}{da:Option Addr}{dn dc:Nat}{x:Ev}(hp:evP a bs=(e,x,r))(hr:Rd w0 g r e w')(hg:w.grownBy w' (some g))(h:e=0→x0=x.at_∧x1=x.kind∧w'.ownsRow w.heap.size 3 1 (.slice da dn dc) x.data.length (x.data.map (Value.int .i64))∧(∀z∈x.data,I64 z)∧x.data.length≤16∧a≤x.at_∧x.at_≤a+140737488355328):EvPostR w0 g a bs w (.returned (.agg #[.int .i64 x0,.int .i64 x1,.slice da dn dc])) w':=by
 unfold EvPostR
 rw[hp]
 exact⟨x0,x1,da,dn,dc,rfl,hr,hg,h⟩
theorem zjE(w0:World)(g:Nat)(a:Int)(bs:List UInt8)(w:World)(h:Rd w0 g bs 0 w)(ht:Tab w0)(ha:0≤a∧a≤1000000000000000000){r:List UInt8}{n:Nat}(hn:numP 0 0 bs=(0,n,r))(hk:n%4=1):Calls Tryd.prog 51 #[.pointer (some ⟨g,0,none⟩),.int .i64 a] w (EvPostR w0 g a bs w):=by
 have hp:=zjD (a:=a) hn hk
 have hlt:=zaX (e:=0) hn
 have HD:=Lib.hid h
 have HN:=Lib.hid (fun (W:World) (hw:Rd w0 g bs 0 W)=>za5 w0 g bs W hw (e0:=0) hn)
 have HT:=Lib.hid ht
 have lg:=h.lt
 have HP:=Lib.hid hp
 have hk':(n:Int)%4=1:=by omega
 have HAT:=Lib.hid (show a+(n:Int)/4=a+((n/4:Nat):Int) by omega)
 clear hk
 clear hp hn h ht
 go_enter Tryd.func51,Tryd.ntmps51
 go_wp2_with fail
 refine(HN.out _ (HD.out.other (World.grownBy_alloc w _ none) (by simp) (by simp))).mono ?_
 rintro en w1 ⟨rfl,hr1,hg1⟩
 have HX:=Lib.hid (ESt.start (x0:=(a+(n:Int)/4)) (x1:=1) HD.out hr1 hg1)
 obtain⟨c1,c2,c3,l1,l2,l3,f1,f2⟩:=HX.out.y
 have r1:=hr1.c1
 have s1:=hr1.lt
 have z2:(w1.alloc (.cells #[.int .i64 (a+(n:Int)/4),.int .i64 1,.slice none 0 0] 75)).cell? ⟨w1.heap.size,2,none⟩=some (.slice none 0 0):=zaa (alloc_at rfl) 2
 obtain⟨t0,t1,t2,t3,t4⟩:=HX.out.tab HT.out
 have hne1:¬g=w1.heap.size:=by omega
 clear hr1 hg1
 go_wp2_with fail
 generalize w1.alloc (.cells #[.int .i64 (a+(n:Int)/4),.int .i64 1,.slice none 0 0] 75)=W2 at *
 generalize hgx:w1.heap.size=gx at *
 clear hgx
 go_loopg [7] 1 (fun gh s7 wr=>gh=1∧Hid (ESt w0 w g gx (a+(n:Int)/4) 1 [] r 0 wr))
 case atStart=>exact⟨rfl,HX⟩
 case round=>
  clear HX c1 c2 c3 l1 l2 l3 f1 f2 r1 s1 z2 t0 t1 t2 t3 t4
  obtain⟨rfl,HX⟩:=hrel
  obtain⟨c1,c2,c3,l1,l2,l3,f1,f2⟩:=HX.out.y
  obtain⟨t0,t1,t2,t3,t4⟩:=HX.out.tab HT.out
  obtain⟨aq,cq,hxq,hoq⟩:=HX.out.xb
  have z2:wr.cell? ⟨gx,2,none⟩=some (.slice aq 0 cq):=zaa hxq 2
  have HOQ:=Lib.hid hoq
  clear hxq hoq
  obtain⟨m0,m1,m2,n0,n1,n2⟩:=HX.out.r
  clear f1 f2
  go_wp2_with fail
  go_quiet (fail)
  go_wp2
  obtain⟨hb,hrd,hgb,how⟩:=(HX.out.drewN _).done HOQ.out rfl
  refine bodyPost_ret (v:=.agg #[.int .i64 (a+(n:Int)/4),.int .i64 1,.slice aq 0 cq]) (results_cell_row Tryd.results51 _ _ w.heap.size 75 _ (0,0) _ rfl hb Tryd.underlying75 rfl (by kernel_rfl)) rfl ?_
  exact EvPostR.mk HP.out hrd hgb fun _=>⟨HAT.out,rfl,how,by simp,by simp,by show a≤a+((n/4:Nat):Int);omega,by show a+((n/4:Nat):Int)≤_;omega⟩
theorem zjF(w0:World)(g:Nat)(a:Int)(bs:List UInt8)(w:World)(h:Rd w0 g bs 0 w)(ht:Tab w0)(ha:0≤a∧a≤1000000000000000000){r:List UInt8}{n:Nat}(hn:numP 0 0 bs=(0,n,r))(hk:n%4=0):Calls Tryd.prog 51 #[.pointer (some ⟨g,0,none⟩),.int .i64 a] w (EvPostR w0 g a bs w):=by
 have hp:=zjC (a:=a) hn hk
 have hlt:=zaX (e:=0) hn
 have HD:=Lib.hid h
 have HN:=Lib.hid (fun (W:World) (hw:Rd w0 g bs 0 W)=>za5 w0 g bs W hw (e0:=0) hn)
 have HT:=Lib.hid ht
 have lg:=h.lt
 have HP:=Lib.hid hp
 have hk':(n:Int)%4=0:=by omega
 clear hk
 clear hp hn h ht
 go_enter Tryd.func51,Tryd.ntmps51
 go_wp2_with fail
 refine(HN.out _ (HD.out.other (World.grownBy_alloc w _ none) (by simp) (by simp))).mono ?_
 rintro en w1 ⟨rfl,hr1,hg1⟩
 have HX:=Lib.hid (ESt.start (x0:=(a+(n:Int)/4)) (x1:=0) HD.out hr1 hg1)
 obtain⟨c1,c2,c3,l1,l2,l3,f1,f2⟩:=HX.out.y
 have r1:=hr1.c1
 have s1:=hr1.lt
 have z2:(w1.alloc (.cells #[.int .i64 (a+(n:Int)/4),.int .i64 0,.slice none 0 0] 75)).cell? ⟨w1.heap.size,2,none⟩=some (.slice none 0 0):=zaa (alloc_at rfl) 2
 obtain⟨t0,t1,t2,t3,t4⟩:=HX.out.tab HT.out
 have hne1:¬g=w1.heap.size:=by omega
 clear hr1 hg1
 go_wp2_with fail
 generalize w1.alloc (.cells #[.int .i64 (a+(n:Int)/4),.int .i64 0,.slice none 0 0] 75)=W2 at *
 generalize hgx:w1.heap.size=gx at *
 clear hgx
 refine(zcg w0 g r 3 W2 HX.out.rd).mono ?_
 rintro e w3 ⟨rfl,hr3,hg3⟩
 have HX:=Lib.hid (HX.out.mv hr3 hg3)
 clear hr3 hg3
 go_wp2_with fail
 go_loopg [7] 1 (fun gh s7 wr=>gh=1∧Hid (ESt w0 w g gx (a+(n:Int)/4) 0 [] r 3 wr))
 case atStart=>exact⟨rfl,HX⟩
 case round=>
  clear HX c1 c2 c3 l1 l2 l3 f1 f2 r1 s1 z2 t0 t1 t2 t3 t4
  obtain⟨rfl,HX⟩:=hrel
  obtain⟨c1,c2,c3,l1,l2,l3,f1,f2⟩:=HX.out.y
  obtain⟨t0,t1,t2,t3,t4⟩:=HX.out.tab HT.out
  obtain⟨aq,cq,hxq,hoq⟩:=HX.out.xb
  have z2:wr.cell? ⟨gx,2,none⟩=some (.slice aq 0 cq):=zaa hxq 2
  have HOQ:=Lib.hid hoq
  clear hxq hoq
  obtain⟨m0,m1,m2,n0,n1,n2⟩:=HX.out.r
  clear f1 f2
  go_wp2_with fail
  go_quiet (fail)
  go_wp2
  obtain⟨hb,hrd,hgb,how⟩:=(HX.out.drewN _).done HOQ.out rfl
  refine bodyPost_ret (v:=.agg #[.int .i64 (a+(n:Int)/4),.int .i64 0,.slice aq 0 cq]) (results_cell_row Tryd.results51 _ _ w.heap.size 75 _ (0,0) _ rfl hb Tryd.underlying75 rfl (by kernel_rfl)) rfl ?_
  exact EvPostR.mk HP.out hrd hgb fun h=>absurd h (by decide)
theorem zjG(w0:World)(g:Nat)(a:Int)(bs:List UInt8)(w:World)(h:Rd w0 g bs 0 w)(ht:Tab w0)(ha:0≤a∧a≤1000000000000000000){r:List UInt8}{n:Nat}{e:Int}(hn:numP 0 0 bs=(e,n,r))(he:e≠0):Calls Tryd.prog 51 #[.pointer (some ⟨g,0,none⟩),.int .i64 a] w (EvPostR w0 g a bs w):=by
 have hp:=zjB (a:=a) hn he
 have hn0:n=0:=by
  rcases zcA bs 0 0 with k|⟨_,k⟩
  ·rw[hn] at k;exact absurd k he
  ·rw[hn] at k;exact k
 subst hn0
 have HD:=Lib.hid h
 have HN:=Lib.hid (fun (W:World) (hw:Rd w0 g bs 0 W)=>za5 w0 g bs W hw (e0:=0) hn)
 have HT:=Lib.hid ht
 have lg:=h.lt
 have HP:=Lib.hid hp
 have he0:(e == 0)=false:=by rw[beq_eq_false_iff_ne];exact he
 have HE0:=Lib.hid he
 clear he
 clear hp hn h ht
 go_enter Tryd.func51,Tryd.ntmps51
 go_wp2_with fail
 refine(HN.out _ (HD.out.other (World.grownBy_alloc w _ none) (by simp) (by simp))).mono ?_
 rintro en w1 ⟨rfl,hr1,hg1⟩
 have HX:=Lib.hid (ESt.start (x0:=a) (x1:=0) HD.out hr1 hg1)
 obtain⟨c1,c2,c3,l1,l2,l3,f1,f2⟩:=HX.out.y
 have r1:=hr1.c1
 have s1:=hr1.lt
 have z2:(w1.alloc (.cells #[.int .i64 a,.int .i64 0,.slice none 0 0] 75)).cell? ⟨w1.heap.size,2,none⟩=some (.slice none 0 0):=zaa (alloc_at rfl) 2
 obtain⟨t0,t1,t2,t3,t4⟩:=HX.out.tab HT.out
 have hne1:¬g=w1.heap.size:=by omega
 clear hr1 hg1
 go_wp2_with fail
 generalize w1.alloc (.cells #[.int .i64 a,.int .i64 0,.slice none 0 0] 75)=W2 at *
 generalize hgx:w1.heap.size=gx at *
 clear hgx
 go_loopg [7] 1 (fun gh s7 wr=>gh=1∧Hid (ESt w0 w g gx a 0 [] r e wr))
 case atStart=>exact⟨rfl,HX⟩
 case round=>
  clear HX c1 c2 c3 l1 l2 l3 f1 f2 r1 s1 z2 t0 t1 t2 t3 t4
  obtain⟨rfl,HX⟩:=hrel
  obtain⟨c1,c2,c3,l1,l2,l3,f1,f2⟩:=HX.out.y
  obtain⟨t0,t1,t2,t3,t4⟩:=HX.out.tab HT.out
  obtain⟨aq,cq,hxq,hoq⟩:=HX.out.xb
  have z2:wr.cell? ⟨gx,2,none⟩=some (.slice aq 0 cq):=zaa hxq 2
  have HOQ:=Lib.hid hoq
  clear hxq hoq
  obtain⟨m0,m1,m2,n0,n1,n2⟩:=HX.out.r
  clear f1 f2
  go_wp2_with fail
  go_quiet (fail)
  go_wp2
  obtain⟨hb,hrd,hgb,how⟩:=(HX.out.drewN _).done HOQ.out rfl
  refine bodyPost_ret (v:=.agg #[.int .i64 a,.int .i64 0,.slice aq 0 cq]) (results_cell_row Tryd.results51 _ _ w.heap.size 75 _ (0,0) _ rfl hb Tryd.underlying75 rfl (by kernel_rfl)) rfl ?_
  exact EvPostR.mk HP.out hrd hgb fun h=>absurd h HE0.out
end Go.Proofs.YtflonfcemlfbdaaDoor
