/- Several texts joined, each with its own heading in the notes: The contracts of the reference's tape: next, zig. What EventsOf of the reference holds while it reads an event. Piece of the walk of the document's EventsOf: kind 0. Piece of the walk of the document's EventsOf: a run's test. Piece of the walk of the document's EventsOf: a run's words. A block's words in the document's EventsOf. Piece of the walk of the document's EventsOf: kind 3. The loop over events in the document's EventsOf. No condition beyond those of each row. -/
import Derived.Test.YtflonfcemlfbdaaDoorYDe
import Derived.Handy
import Derived.StillTailTactics
import Derived.Deep.RegionWith
import Derived.Deep.RegionLaw
import Derived.Deep.CutBlock
import Derived.Deep.CutRange
import Derived.Deep.RegionHeld3
import Derived.Deep.LoopGhost
namespace Go.Proofs.YtflonfcemlfbdaaDoor
open Go Go.RowKit Go.ChangeShapes Go.WideShapes Go.Deep
set_option maxHeartbeats 8000000
set_option maxRecDepth 100000
set_option linter.unusedVariables false
structure Tp(w0:World)(g:Nat)(B bs:List UInt8)(e:Int)(w:World):Prop where
 box:∃a c,∃i:Nat,w.heap[g]?=some (.cells #[.slice a B.length c,.int .i64 i,.int .i64 e] 96 (0,0))∧BytesR w0.heap.size w0 (.slice a B.length c) B∧bs=B.drop i∧i≤B.length
 ge:w0.heap.size≤g
 b:Below w0.heap.size w0 w
theorem Tp.drewN{w0 w:World}{g:Nat}{B bs:List UInt8}{e:Int}(h:Tp w0 g B bs e w)(n:Nat):Tp w0 g B bs e (w.drewN n):=⟨h.box,h.ge,below_drewN h.b n⟩
theorem Tp.lt{w0 w:World}{g:Nat}{B bs:List UInt8}{e:Int}(h:Tp w0 g B bs e w):g<w.heap.size:=by obtain⟨a,c,i,hx,_⟩:=h.box;exact(Array.getElem?_eq_some_iff.1 hx).1
theorem Tp.other{w0 w w':World}{g:Nat}{r:Option Nat}{B bs:List UInt8}{e:Int}(h:Tp w0 g B bs e w)(hg:w.grownBy w' r)(hne:some g≠r)(hr:∀k,r=some k→w0.heap.size≤k):Tp w0 g B bs e w':=by
 obtain⟨a,c,i,hx,hb⟩:=h.box
 exact⟨⟨a,c,i,zam hg hx hne,hb⟩,h.ge,h.b.grown hg h.b.size (fun k hk=>hr k hk)⟩
theorem Tp.err{w0 w:World}{g:Nat}{B bs:List UInt8}{e:Int}(h:Tp w0 g B bs e w)(x:Int):Tp w0 g B bs x (w.setCell ⟨g,2,none⟩ (.int .i64 x)):=by
 obtain⟨a,c,i,hx,hb⟩:=h.box
 exact⟨⟨a,c,i,zaf hx _,hb⟩,h.ge,h.b.setCell (p:=⟨g,2,none⟩) h.ge _⟩
theorem Tp.c2{w0 w:World}{g:Nat}{B bs:List UInt8}{e:Int}(h:Tp w0 g B bs e w):w.cell? ⟨g,2,none⟩=some (.int .i64 e)∧w.frozen? ⟨g,2,none⟩=false:=by
 obtain⟨a,c,i,hx,_⟩:=h.box
 exact⟨zaa hx 2,zab hx 2⟩
theorem zi5(w0:World)(g:Nat)(B bs:List UInt8)(x:Int)(w:World)(h:Tp w0 g B bs x w)(h0:x≠0):Calls Tryd.prog 42 #[.pointer (some ⟨g,0,none⟩)] w fun e w'=>e=.returned (.int .i64 0)∧Tp w0 g B bs x w'∧w.grownBy w' (some g):=by
 have HD:=Lib.hid h
 obtain⟨q2,_⟩:=h.c2
 have lg:=h.lt
 have hx0:(x == 0)=false:=by rw[beq_eq_false_iff_ne];exact h0
 clear h
 go_enter Tryd.func42,Tryd.ntmps42
 go_wp2_with fail
 go_loopg [3,4,5] 1 (fun gh s3 s4 s5 wr=>gh=1∧s3=.int .i64 0∧s5=.int .i64 0∧wr=w)
 case atStart=>exact⟨rfl,rfl,rfl,rfl⟩
 case round=>
  obtain⟨rfl,rfl,rfl,rfl⟩:=hrel
  go_wp2
  go_ret
  exact⟨rfl,HD.out,World.grownBy.refl _ _⟩
theorem zic(w0:World)(g:Nat)(B bs:List UInt8)(w:World)(h:Tp w0 g B bs 0 w):Calls Tryd.prog 42 #[.pointer (some ⟨g,0,none⟩)] w fun e w'=>e=.returned (.int .i64 ((numP 0 0 bs).2.1:Int))∧Tp w0 g B (numP 0 0 bs).2.2 (numP 0 0 bs).1 w'∧w.grownBy w' (some g):=by
 have HD:=Lib.hid h
 clear h
 go_enter Tryd.func42,Tryd.ntmps42
 go_wp2_with fail
 go_loopg [3,4,5] (bs.length+1) (fun gh s3 s4 s5 wr =>∃(i n u:Nat) (cs:List UInt8),gh=cs.length+1∧i≤7∧n<128 ^ i∧Hid (u=128 ^ i)∧u≤562949953421312∧s3=.int .i64 n∧s4=.int .i64 u∧s5=.int .i64 i∧Hid (numP 0 0 bs=numP i n cs)∧Hid (Tp w0 g B cs 0 wr)∧Hid (w.grownBy wr (some g)))
 case atStart=>exact⟨0,0,1,bs,rfl,by omega,by decide,Lib.hid (by decide),by omega,rfl,rfl,rfl,Lib.hid rfl,HD,Lib.hid (World.grownBy.refl _ _)⟩
 case round=>
  obtain⟨i,n,u,cs,rfl,hi,hn,HU,hu,rfl,rfl,rfl,E,R,G⟩:=hrel
  obtain⟨a,c,j,hx,hb,hcs,hj⟩:=R.out.box
  have lg:=R.out.lt
  have hge:=R.out.ge
  have q0:wr.cell? ⟨g,0,none⟩=some (.slice a B.length c):=zaa hx 0
  have q1:wr.cell? ⟨g,1,none⟩=some (.int .i64 j):=zaa hx 1
  have q2:wr.cell? ⟨g,2,none⟩=some (.int .i64 0):=zaa hx 2
  have f1:=zab hx 1
  have f2:=zab hx 2
  have hi8:(i:Int)<8:=by omega
  have hn2:n<562949953421312:=Nat.lt_of_lt_of_le hn (Nat.le_trans (Nat.pow_le_pow_right (by omega) hi) (by decide))
  cases cs with
  | nil=>
   have hjl:B.length≤j:=by have:=congrArg List.length hcs;rw[List.length_drop] at this;simp at this;omega
   have hjd:decide ((B.length:Int)≤(j:Int))=true:=by rw[decide_eq_true_iff];omega
   have e0:numP 0 0 bs=(5,0,[]):=by rw[E.out];rfl
   have E0:=Lib.hid e0
   have HT:=Lib.hid ((R.out.drewN 1).err 5)
   clear hx hb e0 hcs
   go_wp2_with fail
   go_quiet (fail)
   go_wp2
   go_ret
   rw[E0.out]
   exact⟨rfl,(R.out.drewN _).err 5,zaJ (zbV G.out _) (zaK _ _ _ _)⟩
  | cons x cs=>
   have hjlt:j<B.length:=by
    rcases Nat.lt_or_ge j B.length with h|h
    ·exact h
    ·rw[List.drop_eq_nil_of_le h] at hcs;cases hcs
   rw[List.drop_eq_getElem_cons hjlt] at hcs
   injection hcs with hx1 hx2
   obtain⟨a',c',hv,hl,hl2,hc⟩:=id hb
   injection hv with v1 v2 v3
   subst v1 v3
   obtain⟨bb,off,vi,rfl,hbB,hcell,hvi⟩:=hc j hjlt
   unfold zc5 at hvi
   rw[←hx1] at hvi
   subst hvi
   have r0:wr.cell? ⟨bb,off+j,none⟩=some (.int .u8 (x.toNat:Int)):=(zae R.out.b _ _ hbB).trans hcell
   have hjd:decide ((B.length:Int)≤(j:Int))=false:=by rw[decide_eq_false_iff_not];omega
   have hj1:(j:Int)<(B.length:Int):=by omega
   have hj0:(0:Int)≤(j:Int):=by omega
   have hbl:(B.length:Int)≤140737488351232:=by omega
   have hcx:=zbA x
   have HX:=Lib.hid hx
   have HB:=Lib.hid hb
   have HX2:=Lib.hid hx2
   clear hx hb hc hcell hx1 hx2 hl hl2
   generalize hz:x.toNat=z at *
   have HZ:=Lib.hid hz
   clear hz
   go_wp2_with fail
   go_quiet (fail)
   go_wp2_with fail
   go_quiet (fail)
   go_upto_region 10 with fail
   go_cut [] from 7 to 71 (fun wx=>Hid (Tp w0 g B cs 0 wx)∧Hid (w.grownBy wx (some g)))
   case first=>
    have HR1:=Lib.hid (fun (n1:Nat)=>show Tp w0 g B cs 0 ((wr.drewN n1).setCell ⟨g,1,none⟩ (.int .i64 ((j:Int)+1))) from ⟨⟨_,_,j+1,by have:=zaf (i:=1) HX.out (.int .i64 ((j:Int)+1));exact this,HB.out,HX2.out,by omega⟩,hge,(below_drewN R.out.b _).setCell (p:=⟨g,1,none⟩) hge _⟩)
    go_wp2_with fail
    go_meet
    exact⟨Lib.hid (HR1.out _),Lib.hid (zaJ (zbV G.out _) (zaK _ _ _ _))⟩
   case rest=>
    obtain⟨HR1,HG1⟩:=hcut
    obtain⟨m2,g2⟩:=HR1.out.c2
    have lgc:=HR1.out.lt
    clear q0 q1 q2 f1 f2 r0 HX HB HX2 hjd hj1 hj0 hbl
    by_cases h1:(0<i∧z=0)∨i=7
    ·
     have e0:numP 0 0 bs=(4,0,cs):=by rw[E.out];exact zb0 (by rw[HZ.out];exact h1)
     have E0:=Lib.hid e0
     clear e0
     rcases (show i=7∨(0<i∧i<7∧z=0) by omega) with rfl|⟨hi0,hi7,rfl⟩
     ·
      clear h1
      go_wp2
      go_ret
      rw[E0.out]
      exact⟨rfl,HR1.out.err 4,zaJ HG1.out (zaK _ _ _ _)⟩
     ·
      have hi7b:((i:Int) == 7)=false:=by rw[beq_eq_false_iff_ne];omega
      have hi0':(0:Int)<(i:Int):=by omega
      have hzz:(((0:Nat):Int) == 0)=true:=rfl
      clear h1
      go_wp2
      go_ret
      rw[E0.out]
      exact⟨rfl,HR1.out.err 4,zaJ HG1.out (zaK _ _ _ _)⟩
    ·
     have hi7:i<7:=by omega
     have hp:=zfu (r:=z%128) hn (by omega)
     obtain⟨M,hM⟩:∃M,M=z%128*u:=⟨_,rfl⟩
     have hmul:(z:Int)%128*(u:Int)=(M:Int):=by rw[hM,Int.natCast_mul,Int.natCast_emod];rfl
     have hM2:M≤127*562949953421312:=by rw[hM];exact Nat.le_trans (Nat.mul_le_mul_left _ hu) (Nat.mul_le_mul_right _ (by omega))
     have hnm:n+z%128*128 ^ i=n+M:=by rw[hM,HU.out]
     rw[hnm] at hp
     have hi7b:((i:Int) == 7)=false:=by rw[beq_eq_false_iff_ne];omega
     by_cases hx8:z<128
     ·
      have e0:numP 0 0 bs=(0,n+M,cs):=by
       rw[E.out,←hnm,←HZ.out]
       exact zcz (by rw[HZ.out];exact h1) (by rw[HZ.out];exact hx8)
      have E0:=Lib.hid e0
      have HP:=Lib.hid hp
      have h0i:¬(0<i)∨(¬z=0∧0<i):=by omega
      clear e0 E hp hM hnm hn
      rcases h0i with h0i|⟨h0i,hi0⟩
      ·
       clear h1
       go_wp2
       go_ret
       rw[E0.out]
       exact⟨zbd (by simp),HR1.out,HG1.out⟩
      ·
       have hz0:((z:Int) == 0)=false:=by rw[beq_eq_false_iff_ne];omega
       clear h1
       go_wp2
       go_ret
       rw[E0.out]
       exact⟨zbd (by simp),HR1.out,HG1.out⟩
     ·
      have e0:numP 0 0 bs=numP (i+1) (n+M) cs:=by
       rw[E.out,←hnm,←HZ.out]
       exact zb1 (by rw[HZ.out];exact h1) (by rw[HZ.out];exact hx8)
      have E0:=Lib.hid e0
      have HP:=Lib.hid hp
      have HU2:=Lib.hid (show 128*u=128 ^ (i+1) by rw[HU.out,Nat.pow_succ,Nat.mul_comm])
      have hu2:128*u≤562949953421312:=by rw[HU2.out];exact Nat.le_trans (Nat.pow_le_pow_right (by omega) (show i+1≤7 by omega)) (by decide)
      have hz0:((z:Int) == 0)=false:=by rw[beq_eq_false_iff_ne];omega
      clear e0 E hp hM hnm hn h1
      go_wp2
      all_goals (
       go_roundg (cs.length+1)
       case measure=>simp
       case rel=>exact⟨i+1,n+M,128*u,cs,rfl,by omega,HP.out,HU2,hu2,by go_num,by go_num,by go_num,E0,HR1,HG1⟩)
theorem zcC(w0:World)(g:Nat)(B bs:List UInt8)(w:World){e0:Int}(h:Tp w0 g B bs e0 w){e:Int}{v:Nat}{r:List UInt8}(hn:numE e0 bs=(e,v,r)):Calls Tryd.prog 42 #[.pointer (some ⟨g,0,none⟩)] w fun en w'=>en=.returned (.int .i64 (v:Int))∧Tp w0 g B r e w'∧w.grownBy w' (some g):=by
 by_cases h0:e0=0
 ·
  subst h0
  have:=zic w0 g B bs w h
  rw[zd0] at hn
  rw[hn] at this
  exact this
 ·
  obtain⟨rfl,rfl,rfl⟩:=zbc hn h0
  exact zi5 w0 g B r e w h h0
theorem zid(w0:World)(g:Nat)(B bs:List UInt8)(w:World){e0:Int}(h:Tp w0 g B bs e0 w){e:Int}{v:Nat}{r:List UInt8}(hn:numE e0 bs=(e,v,r)):Calls Tryd.prog 43 #[.pointer (some ⟨g,0,none⟩)] w fun en w'=>en=.returned (.int .i64 (zag v))∧Tp w0 g B r e w'∧w.grownBy w' (some g):=by
 have HN:=Lib.hid (zcC w0 g B bs w h hn)
 have hv2:=zaX hn
 clear h hn
 by_cases ho:v%2=1
 ·
  have hz:zag v = -((v:Int)/2)-1:=by unfold zag;rw[if_pos ho];omega
  have ho2:(v:Int)%2=1:=by omega
  rw[hz]
  clear hz ho
  go_enter Tryd.func43,Tryd.ntmps43
  go_wp2_with fail
  refine HN.out.mono ?_
  rintro e w1 ⟨rfl,h1,h2⟩
  go_wp2
  go_ret
  exact⟨rfl,h1,h2⟩
 ·
  have hz:zag v=(v:Int)/2:=by unfold zag;rw[if_neg ho];omega
  have ho2:(v:Int)%2=0:=by omega
  rw[hz]
  clear hz ho
  go_enter Tryd.func43,Tryd.ntmps43
  go_wp2_with fail
  refine HN.out.mono ?_
  rintro e w1 ⟨rfl,h1,h2⟩
  go_wp2
  go_ret
  exact⟨rfl,h1,h2⟩
structure TSt(w:World)(g gx:Nat)(Bf:List UInt8)(ps:List (Ev×Value))(ao:Option Addr)(co:Nat)(x0 x1:Int)(acc:List Int)(cs:List UInt8)(e:Int)(wr:World):Prop where
 tp:Tp w g Bf cs e wr
 out:OutSt (g+1) ps ao co wr
 xb:∃a c,wr.heap[gx]?=some (.cells #[.int .i64 x0,.int .i64 x1,.slice a acc.length c] 75 (0,0))∧wr.ownsRow (gx+1) 3 1 (.slice a acc.length c) acc.length (acc.map (Value.int .i64))
 hg:g<gx
 lts:∀p∈ps,∀k,p.2.ownBlock=some k→k<gx
 lto:∀k,(Value.slice ao ps.length co).ownBlock=some k→k<gx
theorem TSt.start{w wr:World}{g:Nat}{Bf cs:List UInt8}{ps:List (Ev×Value)}{ao:Option Addr}{co:Nat}{e x0 x1:Int}(h:Tp w g Bf cs e wr)(ho:OutSt (g+1) ps ao co wr):TSt w g wr.heap.size Bf ps ao co x0 x1 [] cs e (wr.alloc (.cells #[.int .i64 x0,.int .i64 x1,.slice none 0 0] 75)):=
 ⟨h.other (World.grownBy_alloc wr _ none) (by simp) (by simp),ho.alloc _,⟨none,0,alloc_at rfl,World.ownsRow_nil _ _ _ _⟩,h.lt,fun p hp k hk=>((ho.data p hp).1.lt k hk).2,fun k hk=>(ho.row.lt k hk).2⟩
theorem TSt.mv{w wr w':World}{g gx:Nat}{Bf cs cs':List UInt8}{ps:List (Ev×Value)}{ao:Option Addr}{co:Nat}{e e' x0 x1:Int}{acc:List Int}(h:TSt w g gx Bf ps ao co x0 x1 acc cs e wr)(ht:Tp w g Bf cs' e' w')(hg:wr.grownBy w' (some g)):TSt w g gx Bf ps ao co x0 x1 acc cs' e' w':=by
 have hgx:=h.hg
 obtain⟨a,c,hx,ho⟩:=h.xb
 refine⟨ht,h.out.kept_lt hg (by omega),⟨a,c,zam hg hx (by simp;omega),ho.kept hg ?_⟩,hgx,h.lts,h.lto⟩
 cases hob:(Value.slice a acc.length c).ownBlock with
 | none=>exact Or.inl rfl
 | some k=>exact Or.inr (by have:=(ho.lt k hob).1;simp;omega)
theorem TSt.err{w wr:World}{g gx:Nat}{Bf cs:List UInt8}{ps:List (Ev×Value)}{ao:Option Addr}{co:Nat}{e x0 x1:Int}{acc:List Int}(h:TSt w g gx Bf ps ao co x0 x1 acc cs e wr)(x:Int):TSt w g gx Bf ps ao co x0 x1 acc cs x (wr.setCell ⟨g,2,none⟩ (.int .i64 x)):=h.mv (h.tp.err x) (zaK _ _ _ _)
theorem TSt.drewN{w wr:World}{g gx:Nat}{Bf cs:List UInt8}{ps:List (Ev×Value)}{ao:Option Addr}{co:Nat}{e x0 x1:Int}{acc:List Int}(h:TSt w g gx Bf ps ao co x0 x1 acc cs e wr)(n:Nat):TSt w g gx Bf ps ao co x0 x1 acc cs e (wr.drewN n):=⟨h.tp.drewN n,h.out.drewN n,h.xb,h.hg,h.lts,h.lto⟩
theorem TSt.y{w wr:World}{g gx:Nat}{Bf cs:List UInt8}{ps:List (Ev×Value)}{ao:Option Addr}{co:Nat}{e x0 x1:Int}{acc:List Int}(h:TSt w g gx Bf ps ao co x0 x1 acc cs e wr):wr.cell? ⟨g,2,none⟩=some (.int .i64 e)∧wr.frozen? ⟨g,2,none⟩=false∧wr.cell? ⟨gx,0,none⟩=some (.int .i64 x0)∧wr.cell? ⟨gx,1,none⟩=some (.int .i64 x1)∧wr.frozen? ⟨gx,2,none⟩=false∧g<wr.heap.size∧gx<wr.heap.size:=by
 obtain⟨a,c,hx,ho⟩:=h.xb
 exact⟨h.tp.c2.1,h.tp.c2.2,zaa hx 0,zaa hx 1,zab hx 2,h.tp.lt,(Array.getElem?_eq_some_iff.1 hx).1⟩
theorem TSt.row{w wr w':World}{g gx:Nat}{Bf cs:List UInt8}{ps:List (Ev×Value)}{ao:Option Addr}{co:Nat}{e x0 x1:Int}{acc acc2:List Int}(h:TSt w g gx Bf ps ao co x0 x1 acc cs e wr){r:Option Nat}(hg:wr.grownBy w' r)(hr:∀k,r=some k→gx<k){g1 cap n2:Nat}(hn:n2=acc2.length)(hown:w'.ownsRow (gx+1) 3 1 (.slice (some ⟨g1,0,none⟩) n2 cap) n2 (acc2.map (Value.int .i64))):TSt w g gx Bf ps ao co x0 x1 acc2 cs e (w'.setCell ⟨gx,2,none⟩ (.slice (some ⟨g1,0,none⟩) n2 cap)):=by
 subst hn
 have hgx:=h.hg
 have hge:=h.tp.ge
 obtain⟨a,c,hx,ho⟩:=h.xb
 have hx1:=zam hg hx (fun e=>by have:=hr gx e.symm;omega)
 have hgs:w'.grownBy (w'.setCell ⟨gx,2,none⟩ (.slice (some ⟨g1,0,none⟩) acc2.length cap)) (some gx):=zaK _ _ _ _
 have hlt:g1=g1∧gx+1≤g1∨acc2.length=0:=by
  rcases hown.2 with⟨hv,_⟩|⟨g',cap',cur,hv,hb,_⟩
  ·cases hv
  ·injection hv with h1 h2 h3;injection h1 with h1;injection h1 with h1;exact Or.inl ⟨rfl,by omega⟩
 have hout1:OutSt (g+1) ps ao co w':=⟨h.out.row.kept hg (by
  cases hob:(Value.slice ao ps.length co).ownBlock with
  | none=>exact Or.inl rfl
  | some k=>exact Or.inr (fun e=>by have:=h.lto k hob;have:=hr k e.symm;omega)),fun p hp=>(h.out.data p hp).kept hg (by
  cases hob:p.2.ownBlock with
  | none=>exact Or.inl rfl
  | some k=>exact Or.inr (fun e=>by have:=h.lts p hp k hob;have:=hr k e.symm;omega))⟩
 have hout2:OutSt (g+1) ps ao co (w'.setCell ⟨gx,2,none⟩ (.slice (some ⟨g1,0,none⟩) acc2.length cap)):=⟨hout1.row.kept hgs (by
  cases hob:(Value.slice ao ps.length co).ownBlock with
  | none=>exact Or.inl rfl
  | some k=>exact Or.inr (by have:=h.lto k hob;simp;omega)),fun p hp=>(hout1.data p hp).kept hgs (by
  cases hob:p.2.ownBlock with
  | none=>exact Or.inl rfl
  | some k=>exact Or.inr (by have:=h.lts p hp k hob;simp;omega))⟩
 refine⟨(h.tp.other hg (fun e=>by have:=hr g e.symm;omega) (fun k hk=>by have:=hr k hk;omega)).other hgs (by simp;omega) (fun k hk=>by injection hk with hk;omega),hout2,⟨some ⟨g1,0,none⟩,cap,zaf (i:=2) hx1 _,hown.kept hgs (Or.inr (fun e=>zad hown hx1 (by decide) e.symm))⟩,hgx,h.lts,h.lto⟩
def navE:List Nat→Code→Code
 | [],c=>c
 | 0::p,.seq a _=>navE p a
 | 1::p,.seq _ b=>navE p b
 | 0::p,.block _ c=>navE p c
 | 0::p,.loop c=>navE p c
 | 0::p,.scope c=>navE p c
 | 0::p,.cond _ a _=>navE p a
 | 1::p,.cond _ _ b=>navE p b
 | _,_=>.skip
noncomputable def zgC(p:List Nat):Code:=navE p (Tryd.f26.body.getD .skip)
theorem zlg{w:World}{g gx:Nat}{p:List UInt8}{ps:List (Ev×Value)}{a:Option Addr}{c:Nat}{X m4:Int}{r:List UInt8}{wz:World}{K:Act→World→Prop}{Q':Exit→Act→World→Prop}{x0 x1 x2 x3 x5 x6 x7 x8 x9 x11 x12 x13 x14 x15 x16 x17 x18 x19 x20 x21 x22 x23 x24 x25 x26 x27 x28 x29 x30 x31 x32 x33 x34 x35 x36 x37 x38 x39 x40 x41 x42 x43 x44 x45 x46 x47 x48 x49 x50 x51 x52 x53 x54 x55 x56 x57 x58 x59 x60 x61 x62 x63 x64 x65 x66 x67 x68 x69 x70 x71 x72 x73 x74 x76 x77 x78 x79 x80 x81 x82 x83 x84 x85 x86 x87 x88 x89 x90 x91 x92 x93 x94 x95 x96 x97 x98 x99 x100 x101 x102 x103 x104 x105 x106 x107 x108 x109 x110 x111 x112 x113 x114 x115 x116 x117 x118 x119 x120 x121 x122 x123 x124 x125 x126 x127 x128 x129 x130 x131 x132 x133 x134 x135 x136 x137 x138 x139 x140 x141 x142 x143 x144 x145 x146 x147 x148 x149 x150 x151 x152 x153 x154 x155 x156 x157 x158 x159 x160 x161 x162 x163 x164 x165 x166 x167 x168 x169 x170 x171 x172 x173 x174 x175 x176 x177 x178 x179 x180 x181 x182 x183 x184 x185 x186 x187 x188:Value}(HX:Hid (TSt w g gx p ps a c X m4 [] r 0 wz))(hK:∀(y45 y46 y47 y48 y49 y50 y51 y52 y53 y54 y55 y56 y57 y58 y59 y60 y61 y62 y63 y64 y65 y66 y67 y68 y69 y70 y71 y72 y73 y74 y75 y76 y77 y78 y79 y80 y81 y82 y83 y84 y85 y86 y87 y88 y89 y90 y91 y92 y93 y94 y95 y96 y97 y98 y99 y100 y101 y102 y103 y104 y105 y106 y107 y108 y109 y110 y111 y112 y113 y114 y115 y116 y117 y118 y119 y120 y121 y122 y123 y124 y125 y126 y127 y128 y129 y130 y131 y132 y133 y134 y135 y136 y137 y138 y139 y140 y141 y142 y143 y144 y145 y146 y147 y148:Value)  (wx:World),(∃e5:Int,Hid (TSt w g gx p ps a c X m4 [] r e5 wx)∧Hid ((m4=0∧e5=3)∨(m4≠0∧e5=0)))→K ⟨List.toArray (x0::x1::x2::x3 :: .pointer (some ⟨g,0,none⟩)::x5::x6::x7::x8::x9 :: .pointer (some ⟨gx,0,none⟩)::x11::x12::x13::x14::x15::x16::x17::x18::x19::x20::x21::x22::x23::x24::x25::x26::x27::x28::x29::x30::x31::x32::x33::x34::x35::x36::x37::x38::x39::x40::x41::x42::x43::x44::y45::y46::y47::y48::y49::y50::y51::y52::y53::y54::y55::y56::y57::y58::y59::y60::y61::y62::y63::y64::y65::y66::y67::y68::y69::y70::y71::y72::y73::y74::y75::y76::y77::y78::y79::y80::y81::y82::y83::y84::y85::y86::y87::y88::y89::y90::y91::y92::y93::y94::y95::y96::y97::y98::y99::y100::y101::y102::y103::y104::y105::y106::y107::y108::y109::y110::y111::y112::y113::y114::y115::y116::y117::y118::y119::y120::y121::y122::y123::y124::y125::y126::y127::y128::y129::y130::y131::y132::y133::y134::y135::y136::y137::y138::y139::y140::y141::y142::y143::y144::y145::y146::y147::y148::x149::x150::x151::x152::x153::x154::x155::x156::x157::x158::x159::x160::x161::x162::x163::x164::x165::x166::x167::x168::x169::x170::x171::x172::x173::x174::x175::x176::x177::x178::x179::x180::x181::x182::x183::x184::x185::x186::x187::x188::[]),[]⟩ wx):(zgC [1,1,1,1,1,1,1,1,1,0,1,0,0,1,0,0,1,1,1,1,0,1]).wp Tryd.prog (Exit.then K Q') ⟨List.toArray (x0::x1::x2::x3 :: .pointer (some ⟨g,0,none⟩)::x5::x6::x7::x8::x9 :: .pointer (some ⟨gx,0,none⟩)::x11::x12::x13::x14::x15::x16::x17::x18::x19::x20::x21::x22::x23::x24::x25::x26::x27::x28::x29::x30::x31::x32::x33::x34::x35::x36::x37::x38::x39::x40::x41::x42::x43::x44::x45::x46::x47::x48::x49::x50::x51::x52::x53::x54::x55::x56::x57::x58::x59::x60::x61::x62::x63::x64::x65::x66::x67::x68::x69::x70::x71::x72::x73::x74 :: .bool (m4 == 0)::x76::x77::x78::x79::x80::x81::x82::x83::x84::x85::x86::x87::x88::x89::x90::x91::x92::x93::x94::x95::x96::x97::x98::x99::x100::x101::x102::x103::x104::x105::x106::x107::x108::x109::x110::x111::x112::x113::x114::x115::x116::x117::x118::x119::x120::x121::x122::x123::x124::x125::x126::x127::x128::x129::x130::x131::x132::x133::x134::x135::x136::x137::x138::x139::x140::x141::x142::x143::x144::x145::x146::x147::x148::x149::x150::x151::x152::x153::x154::x155::x156::x157::x158::x159::x160::x161::x162::x163::x164::x165::x166::x167::x168::x169::x170::x171::x172::x173::x174::x175::x176::x177::x178::x179::x180::x181::x182::x183::x184::x185::x186::x187::x188::[]),[]⟩ wz:=by
 have HK:=Lib.hid hK
 clear hK
 conv=>arg 2;whnf
 go_cut [] from 45 to 148 (fun  wx =>∃e5:Int,Hid (TSt w g gx p ps a c X m4 [] r e5 wx)∧Hid ((m4=0∧e5=3)∨(m4≠0∧e5=0)))
 case rest=>
  exact HK.out _ _ _ _ _ _ _ _ _ _ _ _ _ _ _ _ _ _ _ _ _ _ _ _ _ _ _ _ _ _ _ _ _ _ _ _ _ _ _ _ _ _ _ _ _ _ _ _ _ _ _ _ _ _ _ _ _ _ _ _ _ _ _ _ _ _ _ _ _ _ _ _ _ _ _ _ _ _ _ _ _ _ _ _ _ _ _ _ _ _ _ _ _ _ _ _ _ _ _ _ _ _ _ _ _ hcut
 case first=>
  clear HK
  obtain⟨y2,yf2,y0,y1,yf,l1,l2⟩:=HX.out.y
  obtain⟨aq0,cq0,hxq0,_⟩:=HX.out.xb
  have z2:wz.cell? ⟨gx,2,none⟩=some (.slice aq0 0 cq0):=zaa hxq0 2
  clear hxq0
  by_cases h0:m4=0
  ·
   subst h0
   go_wp2_with fail
   go_meet
   exact⟨3,Lib.hid (HX.out.err 3),Lib.hid (by simp)⟩
  ·
   have hm4b:(m4 == 0)=false:=by rw[beq_eq_false_iff_ne];exact h0
   have HH:=Lib.hid h0
   clear h0
   go_wp2_with fail
   go_meet
   exact⟨0,HX,Lib.hid (Or.inr ⟨HH.out,rfl⟩)⟩
theorem zkW{w:World}{g gx:Nat}{p:List UInt8}{ps:List (Ev×Value)}{a:Option Addr}{c:Nat}{X:Int}{acc:List Int}{rb:List UInt8}{k:Nat}{v:Int}{wz:World}{last:Int}{K:Act→World→Prop}{Q':Exit→Act→World→Prop}{x0 x1 x2 x3 x5 x6 x7 x8 x9 x14 x15 x16 x17 x18 x19 x20 x21 x22 x23 x24 x25 x26 x27 x28 x29 x30 x31 x32 x33 x34 x35 x36 x37 x38 x39 x40 x41 x42 x43 x44 x45 x46 x47 x48 x49 x50 x51 x52 x53 x54 x55 x56 x57 x58 x59 x60 x61 x62 x63 x64 x65 x66 x67 x68 x69 x70 x71 x72 x73 x74 x75 x76 x77 x78 x79 x80 x81 x82 x83 x84 x85 x86 x87 x88 x89 x90 x91 x92 x93 x94 x95 x96 x97 x98 x99 x100 x101 x102 x103 x104 x105 x106 x107 x108 x109 x110 x111 x112 x113 x114 x115 x116 x117 x118 x119 x120 x121 x122 x123 x124 x125 x126 x127 x128 x129 x130 x131 x132 x133 x134 x135 x136 x137 x138 x139 x140 x141 x142 x143 x144 x145 x146 x147 x148 x149 x150 x151 x152 x153 x154 x155 x156 x157 x158 x159 x160 x161 x162 x163 x164 x165 x166 x167 x168 x169 x170 x171 x172 x173 x174 x175 x176 x177 x178 x179 x180 x181 x182 x183 x184 x185 x186 x187 x188:Value}(HX:Hid (TSt w g gx p ps a c X 2 acc rb 0 wz))(hl:acc.length<16)(hk:k<562949953421312)(hK:∀(y86 y87 y88 y89 y90 y91 y92 y93 y94 y95 y96 y97 y98 y99 y100 y101 y102 y103 y104 y105 y106 y107 y108 y109 y110 y111 y112 y113 y114 y115 y116 y117 y118 y119 y120 y121 y122 y123 y124 y125 y126 y127 y128 y129 y131 y132 y133 y134 y135 y136 y137 y138 y139 y140 y141 y142 y143 y144:Value) (s130:Value) (wx:World),(∃t:Bool,s130=.bool t∧Hid (t=true↔zbx acc k v last)∧wx=wz)→K ⟨List.toArray (x0::x1::x2::x3 :: .pointer (some ⟨g,0,none⟩)::x5::x6::x7::x8::x9 :: .pointer (some ⟨gx,0,none⟩) :: .int .i64 last :: .int .i64 (k:Int) :: .int .i64 v::x14::x15::x16::x17::x18::x19::x20::x21::x22::x23::x24::x25::x26::x27::x28::x29::x30::x31::x32::x33::x34::x35::x36::x37::x38::x39::x40::x41::x42::x43::x44::x45::x46::x47::x48::x49::x50::x51::x52::x53::x54::x55::x56::x57::x58::x59::x60::x61::x62::x63::x64::x65::x66::x67::x68::x69::x70::x71::x72::x73::x74::x75::x76::x77::x78::x79::x80::x81::x82::x83::x84::x85::y86::y87::y88::y89::y90::y91::y92::y93::y94::y95::y96::y97::y98::y99::y100::y101::y102::y103::y104::y105::y106::y107::y108::y109::y110::y111::y112::y113::y114::y115::y116::y117::y118::y119::y120::y121::y122::y123::y124::y125::y126::y127::y128::y129::s130::y131::y132::y133::y134::y135::y136::y137::y138::y139::y140::y141::y142::y143::y144::x145::x146::x147::x148::x149::x150::x151::x152::x153::x154::x155::x156::x157::x158::x159::x160::x161::x162::x163::x164::x165::x166::x167::x168::x169::x170::x171::x172::x173::x174::x175::x176::x177::x178::x179::x180::x181::x182::x183::x184::x185::x186::x187::x188::[]),[]⟩ wx):(zgC [1,1,1,1,1,1,1,1,1,0,1,0,0,1,0,0,1,1,1,1,1,1,1,0,0,0,1,0,1,1,1,0,0]).wp Tryd.prog (Exit.then K Q') ⟨List.toArray (x0::x1::x2::x3 :: .pointer (some ⟨g,0,none⟩)::x5::x6::x7::x8::x9 :: .pointer (some ⟨gx,0,none⟩) :: .int .i64 last :: .int .i64 (k:Int) :: .int .i64 v::x14::x15::x16::x17::x18::x19::x20::x21::x22::x23::x24::x25::x26::x27::x28::x29::x30::x31::x32::x33::x34::x35::x36::x37::x38::x39::x40::x41::x42::x43::x44::x45::x46::x47::x48::x49::x50::x51::x52::x53::x54::x55::x56::x57::x58::x59::x60::x61::x62::x63::x64::x65::x66::x67::x68::x69::x70::x71::x72::x73::x74::x75::x76::x77::x78::x79::x80::x81::x82::x83::x84::x85::x86::x87::x88::x89::x90::x91::x92::x93::x94::x95::x96::x97::x98::x99::x100::x101::x102::x103::x104::x105::x106::x107::x108::x109::x110::x111::x112::x113::x114::x115::x116::x117::x118::x119::x120::x121::x122::x123::x124::x125::x126::x127::x128::x129::x130::x131::x132::x133::x134::x135::x136::x137::x138::x139::x140::x141::x142::x143::x144::x145::x146::x147::x148::x149::x150::x151::x152::x153::x154::x155::x156::x157::x158::x159::x160::x161::x162::x163::x164::x165::x166::x167::x168::x169::x170::x171::x172::x173::x174::x175::x176::x177::x178::x179::x180::x181::x182::x183::x184::x185::x186::x187::x188::[]),[]⟩ wz:=by
 have HK:=Lib.hid hK
 clear hK
 conv=>arg 2;whnf
 go_cut [130] from 86 to 144 (fun s130 wx =>∃t:Bool,s130=.bool t∧Hid (t=true↔zbx acc k v last)∧wx=wz)
 case rest=>
  exact HK.out _ _ _ _ _ _ _ _ _ _ _ _ _ _ _ _ _ _ _ _ _ _ _ _ _ _ _ _ _ _ _ _ _ _ _ _ _ _ _ _ _ _ _ _ _ _ _ _ _ _ _ _ _ _ _ _ _ _ _ _ hcut
 case first=>
  clear HK
  obtain⟨y2,yf2,y0,y1,yf,l1,l2⟩:=HX.out.y
  obtain⟨aq0,cq0,hxq0,_⟩:=HX.out.xb
  have z2:wz.cell? ⟨gx,2,none⟩=some (.slice aq0 acc.length cq0):=zaa hxq0 2
  clear hxq0
  have hll:(acc.length:Int)<16:=by omega
  have hw16:(16:Int)-(acc.length:Int)≤16:=by omega
  by_cases hin:1≤k∧k≤16-acc.length
  ·
   by_cases hrep:0<acc.length∧v=last
   ·
    obtain⟨hr0,rfl⟩:=hrep
    have HB:=Lib.hid (show zbx acc k v v from Or.inr (Or.inr ⟨hr0,rfl⟩))
    have hvb:(v == v)=true:=by simp
    have hr1':(0:Int)<(acc.length:Int):=by omega
    go_wp2_with fail
    refine(za0 (k:Int) 1 (16-(acc.length:Int)) wz (by omega)).mono ?_
    rintro en w7 ⟨rfl,rfl⟩
    clear hin hw16 hll hl
    go_wp2_with fail
    go_meet
    exact⟨true,rfl,Lib.hid ⟨fun _=>HB.out,fun _=>rfl⟩,(by first|rfl|trivial)⟩
   ·
    have hnb:¬zbx acc k v last:=by
     rintro (h|h|h)
     ·omega
     ·omega
     ·exact hrep h
    have HB:=Lib.hid hnb
    have hor:acc.length=0∨(0<acc.length∧v≠last):=by
     by_cases h:0<acc.length
     ·exact Or.inr ⟨h,fun e=>hrep ⟨h,e⟩⟩
     ·exact Or.inl (by omega)
    clear hrep hnb
    rcases hor with h0|⟨h0,hvl⟩
    ·
     have hpos:¬(0:Int)<(acc.length:Int):=by omega
     clear h0
     go_wp2_with fail
     refine(za0 (k:Int) 1 (16-(acc.length:Int)) wz (by omega)).mono ?_
     rintro en w7 ⟨rfl,rfl⟩
     clear hin hw16 hll hl
     go_wp2_with fail
     go_meet
     exact⟨false,rfl,Lib.hid ⟨fun h=>(by cases h),fun h=>absurd h HB.out⟩,(by first|rfl|trivial)⟩
    ·
     have hvb:(v == last)=false:=by rw[beq_eq_false_iff_ne];exact hvl
     have hpos:(0:Int)<(acc.length:Int):=by omega
     clear hvl
     go_wp2_with fail
     refine(za0 (k:Int) 1 (16-(acc.length:Int)) wz (by omega)).mono ?_
     rintro en w7 ⟨rfl,rfl⟩
     clear hin hw16 hll hl
     go_wp2_with fail
     go_meet
     exact⟨false,rfl,Lib.hid ⟨fun h=>(by cases h),fun h=>absurd h HB.out⟩,(by first|rfl|trivial)⟩
  ·
   have HB:=Lib.hid (show zbx acc k v last from by rcases (show k<1∨16-acc.length<k by omega) with h|h;exact Or.inl h;exact Or.inr (Or.inl h))
   go_wp2_with fail
   refine(zcw (k:Int) 1 (16-(acc.length:Int)) wz (by omega)).mono ?_
   rintro en w7 ⟨rfl,rfl⟩
   clear hin hw16 hll hl
   go_wp2_with fail
   go_meet
   exact⟨true,rfl,Lib.hid ⟨fun _=>HB.out,fun _=>rfl⟩,(by first|rfl|trivial)⟩
theorem zkX{w:World}{g gx:Nat}{p:List UInt8}{ps:List (Ev×Value)}{a:Option Addr}{c:Nat}{X:Int}{acc:List Int}{rb:List UInt8}{k:Nat}{v:Int}{wz:World}{K:Act→World→Prop}{Q':Exit→Act→World→Prop}{x0 x1 x2 x3 x5 x6 x7 x8 x9 x11 x14 x15 x16 x17 x18 x19 x20 x21 x22 x23 x24 x25 x26 x27 x28 x29 x30 x31 x32 x33 x34 x35 x36 x37 x38 x39 x40 x41 x42 x43 x44 x45 x46 x47 x48 x49 x50 x51 x52 x53 x54 x55 x56 x57 x58 x59 x60 x61 x62 x63 x64 x65 x66 x67 x68 x69 x70 x71 x72 x73 x74 x75 x76 x77 x78 x79 x80 x81 x82 x83 x84 x85 x86 x87 x88 x89 x90 x91 x92 x93 x94 x95 x96 x97 x98 x99 x100 x101 x102 x103 x104 x105 x106 x107 x108 x109 x110 x111 x112 x113 x114 x115 x116 x117 x118 x119 x120 x121 x122 x123 x124 x125 x126 x127 x128 x129 x130 x131 x132 x133 x134 x135 x136 x137 x138 x139 x140 x141 x142 x143 x144 x145 x146 x147 x148 x149 x150 x151 x152 x153 x154 x155 x156 x157 x158 x159 x160 x161 x162 x163 x164 x165 x166 x167 x168 x169 x170 x171 x172 x173 x174 x175 x176 x177 x178 x179 x180 x181 x182 x183 x184 x185 x186 x187 x188:Value}(HX:Hid (TSt w g gx p ps a c X 2 acc rb 0 wz))(hk:acc.length+k≤16)(hK:∀(y86 y87 y88 y89 y90 y91 y92 y93 y94 y95 y96 y97 y98 y99 y100 y101 y102 y103 y104 y105 y106 y107 y108 y109 y110 y111 y112 y113 y114 y115 y116 y117 y118 y119 y120 y121 y122 y123 y124 y125 y126 y127 y128 y129 y130 y131 y132 y133 y134 y135 y136 y137 y138 y139 y140 y141 y142 y143 y144:Value) (s12:Value) (wx:World),(Hid (TSt w g gx p ps a c X 2 (accE acc k v 0) rb 0 wx))→K ⟨List.toArray (x0::x1::x2::x3 :: .pointer (some ⟨g,0,none⟩)::x5::x6::x7::x8::x9 :: .pointer (some ⟨gx,0,none⟩)::x11::s12 :: .int .i64 v::x14::x15::x16::x17::x18::x19::x20::x21::x22::x23::x24::x25::x26::x27::x28::x29::x30::x31::x32::x33::x34::x35::x36::x37::x38::x39::x40::x41::x42::x43::x44::x45::x46::x47::x48::x49::x50::x51::x52::x53::x54::x55::x56::x57::x58::x59::x60::x61::x62::x63::x64::x65::x66::x67::x68::x69::x70::x71::x72::x73::x74::x75::x76::x77::x78::x79::x80::x81::x82::x83::x84::x85::y86::y87::y88::y89::y90::y91::y92::y93::y94::y95::y96::y97::y98::y99::y100::y101::y102::y103::y104::y105::y106::y107::y108::y109::y110::y111::y112::y113::y114::y115::y116::y117::y118::y119::y120::y121::y122::y123::y124::y125::y126::y127::y128::y129::y130::y131::y132::y133::y134::y135::y136::y137::y138::y139::y140::y141::y142::y143::y144::x145::x146::x147::x148::x149::x150::x151::x152::x153::x154::x155::x156::x157::x158::x159::x160::x161::x162::x163::x164::x165::x166::x167::x168::x169::x170::x171::x172::x173::x174::x175::x176::x177::x178::x179::x180::x181::x182::x183::x184::x185::x186::x187::x188::[]),[]⟩ wx):(zgC [1,1,1,1,1,1,1,1,1,0,1,0,0,1,0,0,1,1,1,1,1,1,1,0,0,0,1,0,1,1,1,1,0]).wp Tryd.prog (Exit.then K Q') ⟨List.toArray (x0::x1::x2::x3 :: .pointer (some ⟨g,0,none⟩)::x5::x6::x7::x8::x9 :: .pointer (some ⟨gx,0,none⟩)::x11 :: .int .i64 (k:Int) :: .int .i64 v::x14::x15::x16::x17::x18::x19::x20::x21::x22::x23::x24::x25::x26::x27::x28::x29::x30::x31::x32::x33::x34::x35::x36::x37::x38::x39::x40::x41::x42::x43::x44::x45::x46::x47::x48::x49::x50::x51::x52::x53::x54::x55::x56::x57::x58::x59::x60::x61::x62::x63::x64::x65::x66::x67::x68::x69::x70::x71::x72::x73::x74::x75::x76::x77::x78::x79::x80::x81::x82::x83::x84::x85::x86::x87::x88::x89::x90::x91::x92::x93::x94::x95::x96::x97::x98::x99::x100::x101::x102::x103::x104::x105::x106::x107::x108::x109::x110::x111::x112::x113::x114::x115::x116::x117::x118::x119::x120::x121::x122::x123::x124::x125::x126::x127::x128::x129::x130::x131::x132::x133::x134::x135::x136::x137::x138::x139::x140::x141::x142::x143::x144::x145::x146::x147::x148::x149::x150::x151::x152::x153::x154::x155::x156::x157::x158::x159::x160::x161::x162::x163::x164::x165::x166::x167::x168::x169::x170::x171::x172::x173::x174::x175::x176::x177::x178::x179::x180::x181::x182::x183::x184::x185::x186::x187::x188::[]),[]⟩ wz:=by
 have HK:=Lib.hid hK
 clear hK
 conv=>arg 2;whnf
 go_cut [12] from 86 to 144 (fun s12 wx=>Hid (TSt w g gx p ps a c X 2 (accE acc k v 0) rb 0 wx))
 case rest=>
  exact HK.out _ _ _ _ _ _ _ _ _ _ _ _ _ _ _ _ _ _ _ _ _ _ _ _ _ _ _ _ _ _ _ _ _ _ _ _ _ _ _ _ _ _ _ _ _ _ _ _ _ _ _ _ _ _ _ _ _ _ _ _ _ hcut
 case first=>
  clear HK
  go_wp2_with fail
  go_loopg [12] k (fun gh s12 wq =>∃j:Nat,j≤k∧gh=k-j∧s12=.int .i64 ((k-j:Nat):Int)∧Hid (TSt w g gx p ps a c X 2 (accE acc j v 0) rb 0 wq))
  case atStart=>exact⟨0,Nat.zero_le _,by omega,by simp,Lib.hid (by rw[zcN];exact HX.out)⟩
  case round=>
   clear HX
   obtain⟨j,hj,rfl,rfl,HX⟩:=hrel
   by_cases hjk:j<k
   ·
    have hacl:=zdx acc j v 0
    have HM:=Lib.hid (zcO acc j v)
    generalize accE acc j v 0=ac at *
    obtain⟨y2,yf2,y0,y1,yf,l1,l2⟩:=HX.out.y
    obtain⟨aq,cq,hxq,hoq⟩:=HX.out.xb
    have z2:wr.cell? ⟨gx,2,none⟩=some (.slice aq ac.length cq):=zaa hxq 2
    have HXQ:=Lib.hid hxq
    have HOQ:=Lib.hid hoq
    obtain⟨q,hq⟩:∃q:Nat,q=k-j:=⟨_,rfl⟩
    have hq1:k-j=q:=hq.symm
    have hq0:(0:Int)<(q:Int):=by omega
    have hac16:ac.length≤16:=by omega
    rw[hq1]
    have HQ1:=Lib.hid hq1
    have hq16:q≤16:=by omega
    clear hxq hoq hq hq1
    go_wp2_with (at_builtin;go_loud (refine za4 wr rfl (.tmp 139) (.tmp 141) 24 rfl (gx+1) 3 (.int .i64 0) 1 8 Tryd.underlying24 zcM rfl (by decide) [.int .i64 v] rfl (by simp[Value.oneCell']) _ _ _ (by rfl) HOQ.out (by rfl) rfl (by omega) (by omega) (by omega) ?_);intro g1 cp1 w1 hown1 hgrow1;have hx1:=zam hgrow1 HXQ.out (zad HOQ.out HXQ.out (by decide));have z3:w1.cell? ⟨gx,2,none⟩=some (.slice aq ac.length cq):=zaa hx1 2;have fg1:=zab hx1 2;have HN1:=Lib.hid hown1;have HG1:=Lib.hid hgrow1;clear hx1 hown1 hgrow1)
    have hps:=HX.out.row HG1.out (fun k hk=>by have:=(HOQ.out.lt k hk).1;omega) (acc2:=ac++[v]) (n2:=ac.length+1) (by simp) (by rw[List.map_append];exact HN1.out)
    rw[HM.out] at hps
    go_roundg (k-(j+1))
    case measure=>have:=HQ1.out;omega
    case rel=>exact⟨j+1,by omega,rfl,by rw[show k-(j+1)=q-1 by have:=HQ1.out;omega];go_num,Lib.hid hps⟩
   ·
    obtain rfl:j=k:=by omega
    have hq0:((j-j:Nat):Int)=0:=by omega
    rw[hq0]
    go_wp2
    go_meet
    exact HX
theorem zkY{w:World}{g gx:Nat}{p:List UInt8}{ps:List (Ev×Value)}{a:Option Addr}{c:Nat}{X m4:Int}{acc6:List Int}{r6:List UInt8}{e6:Int}{wz:World}{K:Act→World→Prop}{Q':Exit→Act→World→Prop}{x0 x1 x2 x3 x5 x6 x7 x8 x9 x12 x13 x14 x15 x16 x17 x18 x19 x20 x21 x22 x23 x24 x25 x26 x27 x28 x29 x30 x31 x32 x33 x34 x35 x36 x37 x38 x39 x40 x41 x42 x43 x44 x45 x46 x47 x48 x49 x50 x51 x52 x53 x54 x55 x56 x57 x58 x59 x60 x61 x62 x63 x64 x65 x66 x67 x68 x69 x70 x71 x72 x73 x74 x75 x76 x77 x78 x79 x80 x81 x82 x83 x84 x85 x86 x87 x88 x89 x90 x91 x92 x93 x94 x95 x96 x97 x98 x99 x100 x101 x102 x103 x104 x105 x106 x107 x108 x109 x110 x111 x112 x113 x114 x115 x116 x117 x118 x119 x120 x121 x122 x123 x124 x125 x126 x127 x128 x129 x130 x131 x132 x133 x134 x135 x136 x137 x138 x139 x140 x141 x142 x143 x144 x145 x146 x147 x148 x149 x150 x151 x152 x153 x154 x155 x156 x157 x158 x159 x160 x161 x162 x163 x164 x165 x166 x167 x168 x169 x170 x171 x172 x173 x174 x175 x176 x177 x178 x179 x180 x181 x182 x183 x184 x185 x186 x187 x188:Value}(HX:Hid (TSt w g gx p ps a c X m4 acc6 r6 e6 wz))(h6:m4=2→acc6=[]∧e6=0)(hK:∀(y45 y46 y47 y48 y49 y50 y51 y52 y53 y54 y55 y56 y57 y58 y59 y60 y61 y62 y63 y64 y65 y66 y67 y68 y69 y70 y71 y72 y73 y74 y75 y76 y77 y78 y79 y80 y81 y82 y83 y84 y85 y86 y87 y88 y89 y90 y91 y92 y93 y94 y95 y96 y97 y98 y99 y100 y101 y102 y103 y104 y105 y106 y107 y108 y109 y110 y111 y112 y113 y114 y115 y116 y117 y118 y119 y120 y121 y122 y123 y124 y125 y126 y127 y128 y129 y130 y131 y132 y133 y134 y135 y136 y137 y138 y139 y140 y141 y142 y143 y144 y145 y146 y147 y148:Value) (s11 s12 s13:Value) (wx:World),(∃(e7:Int) (acc:List Int) (r7:List UInt8),Hid (TSt w g gx p ps a c X m4 acc r7 e7 wx)∧Hid ((m4=2∧(∀z∈acc,I64 z)∧acc.length≤16∧((e7=0∧blkP 16 [] 0 r6=(0,acc,r7))∨(e7≠0∧∃d,blkP 16 [] 0 r6=(e7,d,r7))))∨(m4≠2∧acc=acc6∧r7=r6∧e7=e6)))→K ⟨List.toArray (x0::x1::x2::x3 :: .pointer (some ⟨g,0,none⟩)::x5::x6::x7::x8::x9 :: .pointer (some ⟨gx,0,none⟩)::s11::s12::s13::x14::x15::x16::x17::x18::x19::x20::x21::x22::x23::x24::x25::x26::x27::x28::x29::x30::x31::x32::x33::x34::x35::x36::x37::x38::x39::x40::x41::x42::x43::x44::y45::y46::y47::y48::y49::y50::y51::y52::y53::y54::y55::y56::y57::y58::y59::y60::y61::y62::y63::y64::y65::y66::y67::y68::y69::y70::y71::y72::y73::y74::y75::y76::y77::y78::y79::y80::y81::y82::y83::y84::y85::y86::y87::y88::y89::y90::y91::y92::y93::y94::y95::y96::y97::y98::y99::y100::y101::y102::y103::y104::y105::y106::y107::y108::y109::y110::y111::y112::y113::y114::y115::y116::y117::y118::y119::y120::y121::y122::y123::y124::y125::y126::y127::y128::y129::y130::y131::y132::y133::y134::y135::y136::y137::y138::y139::y140::y141::y142::y143::y144::y145::y146::y147::y148::x149::x150::x151::x152::x153::x154::x155::x156::x157::x158::x159::x160::x161::x162::x163::x164::x165::x166::x167::x168::x169::x170::x171::x172::x173::x174::x175::x176::x177::x178::x179::x180::x181::x182::x183::x184::x185::x186::x187::x188::[]),[]⟩ wx):(zgC [1,1,1,1,1,1,1,1,1,0,1,0,0,1,0,0,1,1,1,1,1,1,1,0]).wp Tryd.prog (Exit.then K Q') ⟨List.toArray (x0::x1::x2::x3 :: .pointer (some ⟨g,0,none⟩)::x5::x6::x7::x8::x9 :: .pointer (some ⟨gx,0,none⟩) :: .int .i64 0::x12::x13::x14::x15::x16::x17::x18::x19::x20::x21::x22::x23::x24::x25::x26::x27::x28::x29::x30::x31::x32::x33::x34::x35::x36::x37::x38::x39::x40::x41::x42::x43::x44::x45::x46::x47::x48::x49::x50::x51::x52::x53::x54::x55::x56::x57::x58::x59::x60::x61::x62::x63::x64::x65::x66::x67::x68::x69::x70::x71::x72::x73::x74::x75::x76::x77::x78::x79::x80::x81::x82::x83::x84::x85::x86::x87::x88::x89::x90::x91::x92::x93::x94::x95::x96::x97::x98::x99::x100::x101::x102::x103::x104::x105::x106::x107::x108::x109::x110::x111::x112::x113::x114::x115::x116::x117::x118::x119::x120::x121::x122::x123::x124::x125::x126::x127::x128::x129::x130::x131::x132::x133::x134::x135::x136::x137::x138::x139::x140::x141::x142::x143::x144::x145::x146::x147::x148::x149::x150::x151::x152::x153::x154::x155::x156::x157::x158::x159::x160::x161::x162::x163::x164::x165::x166::x167::x168::x169::x170::x171::x172::x173::x174::x175::x176::x177::x178::x179::x180::x181::x182::x183::x184::x185::x186::x187::x188::[]),[]⟩ wz:=by
 have HK:=Lib.hid hK
 clear hK
 conv=>arg 2;whnf
 go_cut [11,12,13] from 45 to 148 (fun s11 s12 s13 wx =>∃(e7:Int) (acc:List Int) (r7:List UInt8),Hid (TSt w g gx p ps a c X m4 acc r7 e7 wx)∧Hid ((m4=2∧(∀z∈acc,I64 z)∧acc.length≤16∧((e7=0∧blkP 16 [] 0 r6=(0,acc,r7))∨(e7≠0∧∃d,blkP 16 [] 0 r6=(e7,d,r7))))∨(m4≠2∧acc=acc6∧r7=r6∧e7=e6)))
 case rest=>
  exact HK.out _ _ _ _ _ _ _ _ _ _ _ _ _ _ _ _ _ _ _ _ _ _ _ _ _ _ _ _ _ _ _ _ _ _ _ _ _ _ _ _ _ _ _ _ _ _ _ _ _ _ _ _ _ _ _ _ _ _ _ _ _ _ _ _ _ _ _ _ _ _ _ _ _ _ _ _ _ _ _ _ _ _ _ _ _ _ _ _ _ _ _ _ _ _ _ _ _ _ _ _ _ _ _ _ _ _ _ _ hcut
 case first=>
  clear HK
  by_cases h2:m4=2
  ·
   obtain⟨rfl,rfl⟩:=h6 h2
   clear h6
   subst h2
   obtain⟨y2,yf2,y0,y1,yf,l1,l2⟩:=HX.out.y
   obtain⟨aq0,cq0,hxq0,_⟩:=HX.out.xb
   have z2:wz.cell? ⟨gx,2,none⟩=some (.slice aq0 0 cq0):=zaa hxq0 2
   clear hxq0
   go_wp2_with fail
   go_loopg [11,12,13] 16 (fun gh s11 s12 s13 wq =>∃(f:Nat) (acc:List Int) (last:Int) (ct:List UInt8),gh=f+0∧s11=.int .i64 last∧Hid (BlkIn r6 f acc last 0 ct)∧Hid (TSt w g gx p ps a c X 2 acc ct 0 wq))
   case atStart=>exact⟨16,[],0,r6,rfl,rfl,Lib.hid (BlkIn.start r6),HX⟩
   case round=>
    clear HX y2 yf2 y0 y1 yf l1 l2 z2
    obtain⟨f,acc,last,ct,hgf,rfl,HBI,HX⟩:=hrel
    rw[Nat.add_zero] at hgf
    have HGF:=Lib.hid hgf
    clear hgf
    have hlen:=HBI.out.len
    have HI64:=Lib.hid HBI.out.i64
    by_cases hl:acc.length<16
    ·
     have hlo:=HBI.out.lo
     have hhi:=HBI.out.hi
     have hfu:=HBI.out.fuel rfl
     have hf16:=HBI.out.f16
     have hlast1:-9007199254740992≤last:=by omega
     have hlast2:last≤9007199254740992:=by omega
     clear hlo hhi hfu
     obtain⟨e3,k,ra,hn1⟩:∃e3 k ra,numP 0 0 ct=(e3,k,ra):=⟨_,_,_,rfl⟩
     obtain⟨e4,z,rb,hz⟩:∃e4 z rb,numE e3 ra=(e4,z,rb):=⟨_,_,_,rfl⟩
     have hkk:=zaX (e:=0) hn1
     have hzz:=zdc (zaX hz)
     have HBS:=Lib.hid (fun (e5:Int) (h5:RunE acc k (last+zag z) last e4 e5)=>HBI.out.step hl hn1 hz h5)
     have HN1:=Lib.hid (fun (W:World) (hw:Tp w g p ct 0 W)=>zcC w g p ct W hw (e0:=0) hn1)
     have HZ:=Lib.hid (fun (W:World) (hw:Tp w g p ra e3 W)=>zid w g p ra W hw hz)
     clear hn1 hz HBI
     generalize zag z=zz at *
     obtain⟨hz1,hz2⟩:=hzz
     have hll:(acc.length:Int)<16:=by omega
     obtain⟨y2,yf2,y0,y1,yf,l1,l2⟩:=HX.out.y
     obtain⟨aq0,cq0,hxq0,_⟩:=HX.out.xb
     have z2:wr.cell? ⟨gx,2,none⟩=some (.slice aq0 acc.length cq0):=zaa hxq0 2
     clear hxq0
     go_upto_region 26 with fail
     go_wp2_with fail
     refine(HN1.out _ HX.out.tp).mono ?_
     rintro en w5 ⟨rfl,hr5,hg5⟩
     have HX:=Lib.hid (HX.out.mv hr5 hg5)
     clear hr5 hg5
     clear y2 yf2 y0 y1 yf l1 l2 z2
     obtain⟨y2,yf2,y0,y1,yf,l1,l2⟩:=HX.out.y
     obtain⟨aq0,cq0,hxq0,_⟩:=HX.out.xb
     have z2:w5.cell? ⟨gx,2,none⟩=some (.slice aq0 acc.length cq0):=zaa hxq0 2
     clear hxq0
     go_wp2_with fail
     refine(HZ.out _ HX.out.tp).mono ?_
     rintro en w6 ⟨rfl,hr6,hg6⟩
     have HX:=Lib.hid (HX.out.mv hr6 hg6)
     clear hr6 hg6
     clear y2 yf2 y0 y1 yf l1 l2 z2
     obtain⟨y2,yf2,y0,y1,yf,l1,l2⟩:=HX.out.y
     obtain⟨aq0,cq0,hxq0,_⟩:=HX.out.xb
     have z2:w6.cell? ⟨gx,2,none⟩=some (.slice aq0 acc.length cq0):=zaa hxq0 2
     clear hxq0
     have hvv1:-9570149208162304≤last+zz:=by omega
     have hvv2:last+zz≤9570149208162304:=by omega
     go_upto_region 28 with fail
     generalize last+zz=v at *
     have HAC:=Lib.hid (show (∀z∈acc,I64 z)∧acc.length≤16 from ⟨HI64.out,by omega⟩)
     by_cases he4:e4=0
     ·
      subst he4
      go_upto_region 29 with fail
      clear y2 yf2 y0 y1 yf l1 l2 z2
      refine zkW HX hl hkk ?_
      intros
      rename_i s130 wc hcut
      obtain⟨t,rfl,HT,rfl⟩:=hcut
      by_cases hb:zbx acc k v last
      ·
       have htt:t=true:=HT.out.2 hb
       subst htt
       have HE:=Lib.hid (show RunE acc k v last 0 4 from Or.inr (Or.inl ⟨rfl,hb,rfl⟩))
       have HERR:=Lib.hid (show (4:Int)≠0∧∃d,blkP 16 [] 0 r6=((4:Int),d,rb) from ⟨by decide,(HBS.out 4 HE.out).1.err (by decide)⟩)
       clear hb HT HE HBS
       obtain⟨y2,yf2,y0,y1,yf,l1,l2⟩:=HX.out.y
       obtain⟨aq0,cq0,hxq0,_⟩:=HX.out.xb
       have z2:wc.cell? ⟨gx,2,none⟩=some (.slice aq0 acc.length cq0):=zaa hxq0 2
       clear hxq0
       have HX:=Lib.hid (HX.out.err 4)
       go_wp2_with fail
       go_meet
       exact⟨4,acc,rb,HX,Lib.hid (Or.inl ⟨(by first|rfl|trivial),HAC.out.1,HAC.out.2,Or.inr HERR.out⟩)⟩
      ·
       have htt:t=false:=by cases t with
        | false=>rfl
        | true=>exact absurd (HT.out.1 rfl) hb
       subst htt
       have HE:=Lib.hid (show RunE acc k v last 0 0 from Or.inr (Or.inr ⟨rfl,hb,rfl⟩))
       have hbs:=HBS.out 0 HE.out
       have HBN:=Lib.hid hbs.1
       have HF0:=Lib.hid hbs.2
       have hk16:acc.length+k≤16:=by
        rcases Nat.lt_or_ge (16-acc.length) k with h|h
        ·exact absurd (Or.inr (Or.inl h)) hb
        ·omega
       clear hbs HBS hb HE HT
       go_upto_block 4 with fail
       refine zkX HX hk16 ?_
       intros
       rename_i s12 wq hcut
       clear HX
       have HX:=Lib.hid hcut.out
       clear hcut
       go_wp2_with fail
       go_roundg (f-1)
       case measure=>have:=HGF.out;have:=HF0.out;omega
       case rel=>exact⟨f-1,_,v,rb,rfl,rfl,HBN,HX⟩
     ·
      have hen:(e4 != 0)=true:=by rw[bne_iff_ne];exact he4
      have HE:=Lib.hid (show RunE acc k v last e4 e4 from Or.inl ⟨he4,rfl⟩)
      have HERR:=Lib.hid (show (e4:Int)≠0∧∃d,blkP 16 [] 0 r6=((e4:Int),d,rb) from ⟨he4,(HBS.out e4 HE.out).1.err he4⟩)
      clear he4 HE HBS
      go_wp2_with fail
      go_meet
      exact⟨e4,acc,rb,HX,Lib.hid (Or.inl ⟨(by first|rfl|trivial),HAC.out.1,HAC.out.2,Or.inr HERR.out⟩)⟩
    ·
     have hl16:acc.length=16:=by omega
     have HFB:=Lib.hid (HBI.out.fin hl)
     have hd:¬(acc.length:Int)<16:=by omega
     have HAC:=Lib.hid (show (∀z∈acc,I64 z)∧acc.length≤16 from ⟨HI64.out,by omega⟩)
     clear hl hl16
     obtain⟨y2,yf2,y0,y1,yf,l1,l2⟩:=HX.out.y
     obtain⟨aq0,cq0,hxq0,_⟩:=HX.out.xb
     have z2:wr.cell? ⟨gx,2,none⟩=some (.slice aq0 acc.length cq0):=zaa hxq0 2
     clear hxq0
     go_wp2_with fail
     go_meet
     exact⟨0,acc,ct,HX,Lib.hid (Or.inl ⟨(by first|rfl|trivial),HAC.out.1,HAC.out.2,Or.inl ⟨rfl,HFB.out⟩⟩)⟩
  ·
   have h2b:(m4 == 2)=false:=by rw[beq_eq_false_iff_ne];exact h2
   have HFIN:=Lib.hid h2
   obtain⟨y2,yf2,y0,y1,yf,l1,l2⟩:=HX.out.y
   obtain⟨aq0,cq0,hxq0,_⟩:=HX.out.xb
   have z2:wz.cell? ⟨gx,2,none⟩=some (.slice aq0 acc6.length cq0):=zaa hxq0 2
   clear hxq0
   clear h2 h6
   go_wp2_with fail
   go_rounds 1
   all_goals go_meet
   all_goals exact⟨e6,acc6,r6,HX,Lib.hid (Or.inr ⟨HFIN.out,rfl,rfl,rfl⟩)⟩
theorem zlh{w:World}{g gx:Nat}{p:List UInt8}{ps:List (Ev×Value)}{a:Option Addr}{c:Nat}{X m4:Int}{r:List UInt8}{e5:Int}{wz:World}{K:Act→World→Prop}{Q':Exit→Act→World→Prop}{x0 x1 x2 x3 x5 x6 x7 x8 x9 x11 x12 x13 x14 x15 x16 x17 x18 x19 x20 x21 x22 x23 x24 x25 x26 x27 x28 x29 x30 x31 x32 x33 x34 x35 x36 x37 x38 x39 x40 x41 x42 x43 x44 x45 x46 x47 x48 x49 x50 x51 x52 x53 x54 x55 x56 x57 x58 x59 x60 x61 x62 x63 x64 x65 x66 x67 x68 x69 x70 x71 x72 x73 x74 x75 x76 x77 x78 x79 x80 x82 x83 x84 x85 x86 x87 x88 x89 x90 x91 x92 x93 x94 x95 x96 x97 x98 x99 x100 x101 x102 x103 x104 x105 x106 x107 x108 x109 x110 x111 x112 x113 x114 x115 x116 x117 x118 x119 x120 x121 x122 x123 x124 x125 x126 x127 x128 x129 x130 x131 x132 x133 x134 x135 x136 x137 x138 x139 x140 x141 x142 x143 x144 x145 x146 x147 x148 x149 x150 x151 x152 x153 x154 x155 x156 x157 x158 x159 x160 x161 x162 x163 x164 x165 x166 x167 x168 x169 x170 x171 x172 x173 x174 x175 x176 x177 x178 x179 x180 x181 x182 x183 x184 x185 x186 x187 x188:Value}(HX:Hid (TSt w g gx p ps a c X m4 [] r e5 wz))(h5:m4=3→e5=0)(hK:∀(y45 y46 y47 y48 y49 y50 y51 y52 y53 y54 y55 y56 y57 y58 y59 y60 y61 y62 y63 y64 y65 y66 y67 y68 y69 y70 y71 y72 y73 y74 y75 y76 y77 y78 y79 y80 y81 y82 y83 y84 y85 y86 y87 y88 y89 y90 y91 y92 y93 y94 y95 y96 y97 y98 y99 y100 y101 y102 y103 y104 y105 y106 y107 y108 y109 y110 y111 y112 y113 y114 y115 y116 y117 y118 y119 y120 y121 y122 y123 y124 y125 y126 y127 y128 y129 y130 y131 y132 y133 y134 y135 y136 y137 y138 y139 y140 y141 y142 y143 y144 y145 y146 y147 y148:Value)  (wx:World),(∃(e6:Int) (acc:List Int) (r6:List UInt8),Hid (TSt w g gx p ps a c X m4 acc r6 e6 wx)∧Hid ((m4=3∧∃z,numP 0 0 r=(e6,z,r6)∧acc=[zag z])∨(m4≠3∧acc=[]∧r6=r∧e6=e5)))→K ⟨List.toArray (x0::x1::x2::x3 :: .pointer (some ⟨g,0,none⟩)::x5::x6::x7::x8::x9 :: .pointer (some ⟨gx,0,none⟩)::x11::x12::x13::x14::x15::x16::x17::x18::x19::x20::x21::x22::x23::x24::x25::x26::x27::x28::x29::x30::x31::x32::x33::x34::x35::x36::x37::x38::x39::x40::x41::x42::x43::x44::y45::y46::y47::y48::y49::y50::y51::y52::y53::y54::y55::y56::y57::y58::y59::y60::y61::y62::y63::y64::y65::y66::y67::y68::y69::y70::y71::y72::y73::y74::y75::y76::y77::y78::y79::y80::y81::y82::y83::y84::y85::y86::y87::y88::y89::y90::y91::y92::y93::y94::y95::y96::y97::y98::y99::y100::y101::y102::y103::y104::y105::y106::y107::y108::y109::y110::y111::y112::y113::y114::y115::y116::y117::y118::y119::y120::y121::y122::y123::y124::y125::y126::y127::y128::y129::y130::y131::y132::y133::y134::y135::y136::y137::y138::y139::y140::y141::y142::y143::y144::y145::y146::y147::y148::x149::x150::x151::x152::x153::x154::x155::x156::x157::x158::x159::x160::x161::x162::x163::x164::x165::x166::x167::x168::x169::x170::x171::x172::x173::x174::x175::x176::x177::x178::x179::x180::x181::x182::x183::x184::x185::x186::x187::x188::[]),[]⟩ wx):(zgC [1,1,1,1,1,1,1,1,1,0,1,0,0,1,0,0,1,1,1,1,1,0,1]).wp Tryd.prog (Exit.then K Q') ⟨List.toArray (x0::x1::x2::x3 :: .pointer (some ⟨g,0,none⟩)::x5::x6::x7::x8::x9 :: .pointer (some ⟨gx,0,none⟩)::x11::x12::x13::x14::x15::x16::x17::x18::x19::x20::x21::x22::x23::x24::x25::x26::x27::x28::x29::x30::x31::x32::x33::x34::x35::x36::x37::x38::x39::x40::x41::x42::x43::x44::x45::x46::x47::x48::x49::x50::x51::x52::x53::x54::x55::x56::x57::x58::x59::x60::x61::x62::x63::x64::x65::x66::x67::x68::x69::x70::x71::x72::x73::x74::x75::x76::x77::x78::x79::x80 :: .bool (m4 == 3)::x82::x83::x84::x85::x86::x87::x88::x89::x90::x91::x92::x93::x94::x95::x96::x97::x98::x99::x100::x101::x102::x103::x104::x105::x106::x107::x108::x109::x110::x111::x112::x113::x114::x115::x116::x117::x118::x119::x120::x121::x122::x123::x124::x125::x126::x127::x128::x129::x130::x131::x132::x133::x134::x135::x136::x137::x138::x139::x140::x141::x142::x143::x144::x145::x146::x147::x148::x149::x150::x151::x152::x153::x154::x155::x156::x157::x158::x159::x160::x161::x162::x163::x164::x165::x166::x167::x168::x169::x170::x171::x172::x173::x174::x175::x176::x177::x178::x179::x180::x181::x182::x183::x184::x185::x186::x187::x188::[]),[]⟩ wz:=by
 have HK:=Lib.hid hK
 clear hK
 conv=>arg 2;whnf
 go_cut [] from 45 to 148 (fun  wx =>∃(e6:Int) (acc:List Int) (r6:List UInt8),Hid (TSt w g gx p ps a c X m4 acc r6 e6 wx)∧Hid ((m4=3∧∃z,numP 0 0 r=(e6,z,r6)∧acc=[zag z])∨(m4≠3∧acc=[]∧r6=r∧e6=e5)))
 case rest=>
  exact HK.out _ _ _ _ _ _ _ _ _ _ _ _ _ _ _ _ _ _ _ _ _ _ _ _ _ _ _ _ _ _ _ _ _ _ _ _ _ _ _ _ _ _ _ _ _ _ _ _ _ _ _ _ _ _ _ _ _ _ _ _ _ _ _ _ _ _ _ _ _ _ _ _ _ _ _ _ _ _ _ _ _ _ _ _ _ _ _ _ _ _ _ _ _ _ _ _ _ _ _ _ _ _ _ _ _ hcut
 case first=>
  clear HK
  obtain⟨y2,yf2,y0,y1,yf,l1,l2⟩:=HX.out.y
  obtain⟨aq0,cq0,hxq0,_⟩:=HX.out.xb
  have z2:wz.cell? ⟨gx,2,none⟩=some (.slice aq0 0 cq0):=zaa hxq0 2
  clear hxq0
  by_cases h3:m4=3
  ·
   obtain rfl:e5=0:=h5 h3
   obtain⟨e3,z,r3,hz3⟩:∃e3 z r3,numP 0 0 r=(e3,z,r3):=⟨_,_,_,rfl⟩
   have hzl:=zdc (zaX (e:=0) hz3)
   have HZG:=Lib.hid (fun (W:World) (hw:Tp w g p r 0 W)=>zid w g p r W hw (e0:=0) hz3)
   have HZ3:=Lib.hid hz3
   have HZZ:Hid (zag z=zag z):=Lib.hid rfl
   obtain⟨v,hv⟩:∃v,v=zag z:=⟨_,rfl⟩
   rw[←hv] at HZG hzl
   have HV:=Lib.hid hv
   obtain⟨hv1,hv2⟩:=hzl
   clear hz3 hv h5 HZZ
   subst h3
   go_wp2_with fail
   refine(HZG.out _ HX.out.tp).mono ?_
   rintro en w5 ⟨rfl,hr5,hg5⟩
   have HX:=Lib.hid (HX.out.mv hr5 hg5)
   clear hr5 hg5 y2 yf2 y0 y1 yf l1 l2 z2
   obtain⟨y2,yf2,y0,y1,yf,l1,l2⟩:=HX.out.y
   obtain⟨aq0,cq0,hxq0,_⟩:=HX.out.xb
   have z2:w5.cell? ⟨gx,2,none⟩=some (.slice aq0 0 cq0):=zaa hxq0 2
   clear hxq0
   go_wp2_with fail
   have HX:=Lib.hid (HX.out.row (w':=w5.alloc (.cells #[.int .i64 v] 3)) (r:=none) (World.grownBy_alloc _ _ none) (fun k h=>by cases h) (acc2:=[v]) (g1:=w5.heap.size) (cap:=1) (n2:=1) rfl (World.ownsRow_lit (base:=gx+1) (e:=3) (size:=1) w5 #[.int .i64 v] 1 (by omega) (by unfold maxLen;omega) rfl))
   rw[World.setCell_alloc_past _ _ _ _ l2] at HX
   go_meet
   exact⟨e3,[v],r3,HX,Lib.hid (Or.inl ⟨by first|rfl|trivial,z,HZ3.out,by rw[HV.out]⟩)⟩
  ·
   have hm4b:(m4 == 3)=false:=by rw[beq_eq_false_iff_ne];exact h3
   have HH:=Lib.hid h3
   clear h3 h5
   go_wp2_with fail
   go_meet
   exact⟨e5,[],r,HX,Lib.hid (Or.inr ⟨HH.out,rfl,rfl,rfl⟩)⟩
theorem zka{w:World}{g:Nat}{p r1:List UInt8}{m:Nat}{e1:Int}{wz:World}{K:Act→World→Prop}{Q':Exit→Act→World→Prop}{x0 x1 x2 x3 x9 x10 x11 x12 x13 x14 x15 x16 x17 x18 x19 x20 x21 x22 x23 x24 x25 x26 x27 x28 x29 x30 x31 x32 x33 x34 x35 x36 x37 x38 x39 x40 x41 x42 x43 x44 x45 x46 x47 x48 x49 x50 x51 x52 x53 x54 x55 x56 x57 x58 x59 x60 x61 x62 x63 x64 x65 x66 x67 x68 x69 x70 x71 x72 x73 x74 x75 x76 x77 x78 x79 x80 x81 x82 x83 x84 x85 x86 x87 x88 x89 x90 x91 x92 x93 x94 x95 x96 x97 x98 x99 x100 x101 x102 x103 x104 x105 x106 x107 x108 x109 x110 x111 x112 x113 x114 x115 x116 x117 x118 x119 x120 x121 x122 x123 x124 x125 x126 x127 x128 x129 x130 x131 x132 x133 x134 x135 x136 x137 x138 x139 x140 x141 x142 x143 x144 x145 x146 x147 x148 x149 x150 x151 x152 x153 x154 x155 x156 x157 x158 x159 x160 x161 x162 x163 x164 x165 x166 x167 x168 x169 x170 x171 x172 x173 x174 x175 x176 x177 x178 x179 x180 x181 x182 x183 x184 x185 x186 x187 x188:Value}(HR2:Hid (Tp w g p r1 e1 wz))(HE0:Hid (e1≠0→m=0))(hm:m≤1000)(hK:∀(y9 y10 y11 y12 y13 y14 y15 y16 y17 y18 y19 y20 y21 y22 y23 y24 y25 y26 y27 y28 y29 y30 y31 y32 y33 y34 y35 y36 y37 y38 y39 y40 y41 y42 y43 y44 y45 y46 y47 y48 y49 y50 y51 y52 y53 y54 y55 y56 y57 y58 y59 y60 y61 y62 y63 y64 y65 y66 y67 y68 y69 y70 y71 y72 y73 y74 y75 y76 y77 y78 y79 y80 y81 y82 y83 y84 y85 y86 y87 y88 y89 y90 y91 y92 y93 y94 y95 y96 y97 y98 y99 y100 y101 y102 y103 y104 y105 y106 y107 y108 y109 y110 y111 y112 y113 y114 y115 y116 y117 y118 y119 y120 y121 y122 y123 y124 y125 y126 y127 y128 y129 y130 y131 y132 y133 y134 y135 y136 y137 y138 y139 y140 y141 y142 y143 y144 y145 y146 y147 y148 y149 y150 y151 y152 y153 y154 y155 y156 y157 y158 y159 y160 y161 y162 y163 y164 y165 y166 y167 y168 y169 y170 y171 y172 y173 y174 y175 y176 y177 y178 y179 y180 y181 y182 y183 y184 y185 y186 y187 y188:Value) (s6 s7 s8:Value) (wx:World),(∃(ps:List (Ev×Value)) (a:Option Addr) (c:Nat) (e:Int) (cs:List UInt8),s6=.slice a ps.length c∧ps.length≤1000∧Hid (Tp w g p cs e wx)∧Hid (OutSt (g+1) ps a c wx)∧Hid ((e≠0∧((e1≠0∧e=e1)∨(e1=0∧∃ev r,evsP m 0 r1=(e,ev,r))))∨(e=0∧e1=0∧evsP m 0 r1=(0,ps.map (·.1),cs))))→K ⟨List.toArray (x0::x1::x2::x3 :: .pointer (some ⟨g,0,none⟩) :: .int .i64 (m:Int)::s6::s7::s8::y9::y10::y11::y12::y13::y14::y15::y16::y17::y18::y19::y20::y21::y22::y23::y24::y25::y26::y27::y28::y29::y30::y31::y32::y33::y34::y35::y36::y37::y38::y39::y40::y41::y42::y43::y44::y45::y46::y47::y48::y49::y50::y51::y52::y53::y54::y55::y56::y57::y58::y59::y60::y61::y62::y63::y64::y65::y66::y67::y68::y69::y70::y71::y72::y73::y74::y75::y76::y77::y78::y79::y80::y81::y82::y83::y84::y85::y86::y87::y88::y89::y90::y91::y92::y93::y94::y95::y96::y97::y98::y99::y100::y101::y102::y103::y104::y105::y106::y107::y108::y109::y110::y111::y112::y113::y114::y115::y116::y117::y118::y119::y120::y121::y122::y123::y124::y125::y126::y127::y128::y129::y130::y131::y132::y133::y134::y135::y136::y137::y138::y139::y140::y141::y142::y143::y144::y145::y146::y147::y148::y149::y150::y151::y152::y153::y154::y155::y156::y157::y158::y159::y160::y161::y162::y163::y164::y165::y166::y167::y168::y169::y170::y171::y172::y173::y174::y175::y176::y177::y178::y179::y180::y181::y182::y183::y184::y185::y186::y187::y188::[]),[]⟩ wx):(zgC [1,1,1,1,1,1,1,1,1,0,1]).wp Tryd.prog (Exit.then K Q') ⟨List.toArray (x0::x1::x2::x3 :: .pointer (some ⟨g,0,none⟩) :: .int .i64 (m:Int) :: .slice none 0 0 :: .int .i64 0 :: .int .i64 0::x9::x10::x11::x12::x13::x14::x15::x16::x17::x18::x19::x20::x21::x22::x23::x24::x25::x26::x27::x28::x29::x30::x31::x32::x33::x34::x35::x36::x37::x38::x39::x40::x41::x42::x43::x44::x45::x46::x47::x48::x49::x50::x51::x52::x53::x54::x55::x56::x57::x58::x59::x60::x61::x62::x63::x64::x65::x66::x67::x68::x69::x70::x71::x72::x73::x74::x75::x76::x77::x78::x79::x80::x81::x82::x83::x84::x85::x86::x87::x88::x89::x90::x91::x92::x93::x94::x95::x96::x97::x98::x99::x100::x101::x102::x103::x104::x105::x106::x107::x108::x109::x110::x111::x112::x113::x114::x115::x116::x117::x118::x119::x120::x121::x122::x123::x124::x125::x126::x127::x128::x129::x130::x131::x132::x133::x134::x135::x136::x137::x138::x139::x140::x141::x142::x143::x144::x145::x146::x147::x148::x149::x150::x151::x152::x153::x154::x155::x156::x157::x158::x159::x160::x161::x162::x163::x164::x165::x166::x167::x168::x169::x170::x171::x172::x173::x174::x175::x176::x177::x178::x179::x180::x181::x182::x183::x184::x185::x186::x187::x188::[]),[]⟩ wz:=by
 have HK:=Lib.hid hK
 clear hK
 conv=>arg 2;whnf
 go_cut [6,7,8] from 9 (fun s6 s7 s8 wx =>∃(ps:List (Ev×Value)) (a:Option Addr) (c:Nat) (e:Int) (cs:List UInt8),s6=.slice a ps.length c∧ps.length≤1000∧Hid (Tp w g p cs e wx)∧Hid (OutSt (g+1) ps a c wx)∧Hid ((e≠0∧((e1≠0∧e=e1)∨(e1=0∧∃ev r,evsP m 0 r1=(e,ev,r))))∨(e=0∧e1=0∧evsP m 0 r1=(0,ps.map (·.1),cs))))
 case rest=>
  exact HK.out _ _ _ _ _ _ _ _ _ _ _ _ _ _ _ _ _ _ _ _ _ _ _ _ _ _ _ _ _ _ _ _ _ _ _ _ _ _ _ _ _ _ _ _ _ _ _ _ _ _ _ _ _ _ _ _ _ _ _ _ _ _ _ _ _ _ _ _ _ _ _ _ _ _ _ _ _ _ _ _ _ _ _ _ _ _ _ _ _ _ _ _ _ _ _ _ _ _ _ _ _ _ _ _ _ _ _ _ _ _ _ _ _ _ _ _ _ _ _ _ _ _ _ _ _ _ _ _ _ _ _ _ _ _ _ _ _ _ _ _ _ _ _ _ _ _ _ _ _ _ _ _ _ _ _ _ _ _ _ _ _ _ _ _ _ _ _ _ _ _ _ _ _ _ _ _ _ _ _ _ _ _ _ _ hcut
 case first=>
  clear HK
  go_wp2_with fail
  go_loopg [6,7,8] m (fun gh s6 s7 s8 wr =>∃(i:Nat) (ps:List (Ev×Value)) (a:Option Addr) (c:Nat) (at_ e:Int) (cs:List UInt8),i≤m∧gh=m-i∧s8=.int .i64 i∧s7=.int .i64 at_∧ps.length=i∧s6=.slice a ps.length c∧Hid (Tp w g p cs e wr)∧Hid (OutSt (g+1) ps a c wr)∧Hid ((e1≠0→e=e1)∧(e1=0→(e=0∧0≤at_∧at_≤i*140737488355328∧EvsGo m r1 i at_ cs (ps.map (·.1)))∨(e≠0∧∃ev r,evsP m 0 r1=(e,ev,r)))))
  case atStart=>exact⟨0,[],none,0,0,e1,r1,Nat.zero_le _,by omega,rfl,rfl,rfl,rfl,HR2,Lib.hid (OutSt.nil _ _),Lib.hid ⟨fun _=>rfl,fun h=>Or.inl ⟨h,by omega,by omega,EvsGo.start _ _⟩⟩⟩
  case round=>
   obtain⟨i,ps,a,c,at_,e,cs,hi,rfl,rfl,rfl,hpl,rfl,HR,HO,HG⟩:=hrel
   have HPL:=Lib.hid hpl
   have hpl2:ps.length≤1000:=by omega
   clear HR2 hpl
   have q2:=HR.out.c2.1
   have hlg:=HR.out.lt
   by_cases hgo:i<m∧e=0
   ·
    obtain⟨hil,rfl⟩:=hgo
    obtain rfl:e1=0:=by
     by_cases h:e1=0
     ·exact h
     ·have:=HE0.out h;omega
    obtain⟨hat0,hat1,hevs⟩:0≤at_∧at_≤i*140737488355328∧EvsGo m r1 i at_ cs (ps.map (·.1)):=by
     rcases HG.out.2 rfl with⟨_,h⟩|⟨h,_⟩
     ·exact h
     ·exact absurd rfl h
    have hb48:at_≤1000*140737488355328:=by omega
    have HEV:=Lib.hid hevs
    have HIL:=Lib.hid hil
    clear hevs HG
    obtain⟨e2,nn,r,hn2⟩:∃e2 nn r,numP 0 0 cs=(e2,nn,r):=⟨_,_,_,rfl⟩
    have hnl:=zaX (e:=0) hn2
    have HNX:=Lib.hid (zcC w g p cs wr HR.out (e0:=0) hn2)
    have HN2:=Lib.hid hn2
    clear hn2
    go_wp2_with fail
    refine HNX.out.mono ?_
    rintro en w3 ⟨rfl,hr3,hg3⟩
    have HR3:=Lib.hid hr3
    have HO3:=Lib.hid (HO.out.kept_lt hg3 (by omega))
    have q3:=hr3.c2.1
    have hlg3:=hr3.lt
    clear hr3 hg3 HO HR HNX q2
    by_cases he2:e2=0
    ·
     subst he2
     have hge0:0≤(at_+(nn:Int)/4):=by omega
     have hle0:(at_+(nn:Int)/4)≤((i:Int)+1)*140737488355328:=by omega
     have hle1:(at_+(nn:Int)/4)≤at_+140737488355328:=by omega
     have HAT:=Lib.hid (show (at_+(nn:Int)/4)=at_+((nn/4:Nat):Int) by omega)
     have hm0:0≤(nn:Int)%4:=by omega
     have hm3:(nn:Int)%4≤3:=by omega
     have HK:=Lib.hid (show (nn:Int)%4=((nn%4:Nat):Int) by omega)
     have HX:=Lib.hid (TSt.start (x0:=(at_+(nn:Int)/4)) (x1:=(nn:Int)%4) HR3.out HO3.out)
     obtain⟨y2,yf2,y0,y1,yf,l1,l2⟩:=HX.out.y
     have hne1:¬g=w3.heap.size:=by omega
     go_upto_if 75 with fail
     generalize w3.alloc (.cells #[.int .i64 (at_+(nn:Int)/4),.int .i64 ((nn:Int)%4),.slice none 0 0] 75)=W4 at *
     generalize (nn:Int)%4=m4 at *
     generalize hXX:at_+(nn:Int)/4=X at *
     generalize hgx0:w3.heap.size=gx at *
     have HXX:=Lib.hid hXX
     clear hgx0 y2 yf2 y0 y1 yf l1 l2 hne1 hXX
     refine zlg HX ?_
     intros
     rename_i wc hcut
     clear HX
     obtain⟨e5,HX,HE5⟩:=hcut
     obtain⟨y2,yf2,y0,y1,yf,l1,l2⟩:=HX.out.y
     go_upto_if 81 with fail
     clear y2 yf2 y0 y1 yf l1 l2
     refine zlh HX (fun h=>(by rcases HE5.out with⟨h1,_⟩|⟨_,h1⟩;omega;exact h1)) ?_
     intros
     rename_i wc3 hcut
     clear HX
     obtain⟨e6,acc6,r6,HX,HE6⟩:=hcut
     have h6:m4=2→acc6=[]∧e6=0:=by
      intro h
      rcases HE6.out with⟨h1,_⟩|⟨_,h1,_,h2⟩
      ·omega
      ·exact⟨h1,by rcases HE5.out with⟨h3,_⟩|⟨_,h3⟩;omega;rw[h2,h3]⟩
     go_upto_block 2 with fail
     refine zkY HX h6 ?_
     intros
     rename_i s11 s12 s13 wc4 hcut
     clear HX h6
     obtain⟨e7,acc,r7,HX,HE7⟩:=hcut
     have HFIN:Hid ((∀z∈acc,I64 z)∧acc.length≤16∧((e7=0∧0≤X∧X≤((i+1:Nat):Int)*140737488355328∧EvsGo m r1 (i+1) X r7 (ps.map (·.1)++[⟨X,m4,acc⟩]))∨(e7≠0∧∃ev r,evsP m 0 r1=(e7,ev,r)))):=Lib.hid (by
      have hX0:=HAT.out
      rcases HE7.out with⟨h2,h64,h16,hq⟩|⟨h2,rfl,rfl,rfl⟩
      ·
       have hk:nn%4=2:=by have:=HK.out;omega
       have hr6:r6=r:=by rcases HE6.out with⟨h1,_⟩|⟨_,_,h1,_⟩;omega;exact h1
       subst hr6
       refine⟨h64,h16,?_⟩
       rcases hq with⟨rfl,hb⟩|⟨hne,d,hb⟩
       ·
        refine Or.inl ⟨rfl,hge0,by push_cast;exact hle0,?_⟩
        have hs:=HEV.out.step hil (ziu (a:=at_) HN2.out hk hb)
        rw[hX0,h2];exact hs
       ·
        obtain⟨ev,hh⟩:=HEV.out.err hil (ziu (a:=at_) HN2.out hk hb) hne
        exact Or.inr ⟨hne,ev,r7,hh⟩
      ·
       rcases HE6.out with⟨h3,z,hz,rfl⟩|⟨h3,rfl,rfl,rfl⟩
       ·
        have hk:nn%4=3:=by have:=HK.out;omega
        have hzl:=zdc (zaX (e:=0) hz)
        refine⟨by intro y hy;rw[List.mem_singleton.1 hy];unfold I64;omega,by simp,?_⟩
        by_cases h0:e7=0
        ·
         subst h0
         refine Or.inl ⟨rfl,hge0,by push_cast;exact hle0,?_⟩
         have hs:=HEV.out.step hil (ziv (a:=at_) HN2.out hk hz)
         rw[hX0,h3];exact hs
        ·
         obtain⟨ev,hh⟩:=HEV.out.err hil (ziv (a:=at_) HN2.out hk hz) h0
         exact Or.inr ⟨h0,ev,r7,hh⟩
       ·
        refine⟨by simp,by simp,?_⟩
        rcases HE5.out with⟨h,rfl⟩|⟨h,rfl⟩
        ·
         obtain⟨ev,hh⟩:=HEV.out.err hil (zjC (a:=at_) HN2.out (by have:=HK.out;omega)) (by decide)
         exact Or.inr ⟨by decide,ev,r7,hh⟩
        ·
         have h1:m4=1:=by omega
         have hs:=HEV.out.step hil (zjD (a:=at_) HN2.out (by have:=HK.out;omega))
         exact Or.inl ⟨rfl,hge0,by push_cast;exact hle0,by rw[hX0,h1];exact hs⟩)
     have HI4:=Lib.hid (show I64 X∧I64 m4 from ⟨by unfold I64;omega,by unfold I64;omega⟩)
     clear HE7 HE6 HE5 HK HAT HXX HN2
     obtain⟨y2,_,y0,y1,_,l1,l2⟩:=HX.out.y
     obtain⟨aq,cq,hxq,hoq⟩:=HX.out.xb
     have z2:wc4.cell? ⟨gx,2,none⟩=some (.slice aq acc.length cq):=zaa hxq 2
     have HOQ:=Lib.hid hoq
     have hgx:=HX.out.hg
     have HRW:=Lib.hid HX.out.out.row
     have h16:=HFIN.out.2.1
     clear hxq hoq hat0 hat1 hb48 hge0 hle0 hle1 hm0 hm3
     go_wp2_with (at_builtin;go_loud (refine za4 wc4 rfl (.tmp 145) (.tmp 147) 36 rfl (g+1) 75 (.agg #[.int .i64 0,.int .i64 0,.slice none 0 0]) 3 40 Tryd.underlying36 zg3 rfl (by decide) [.int .i64 X,.int .i64 m4,.slice aq acc.length cq] rfl (by simp[Value.oneCell']) _ _ _ (by rfl) HRW.out (by rfl) (by simp) (by omega) (by omega) (by omega) ?_);intro g5 cp5 w5 hown5 hgrow5;have HW5:=Lib.hid hown5;have HGR5:=Lib.hid hgrow5;clear hown5 hgrow5)
     have HO6:=Lib.hid (HX.out.out.push (p:=(⟨X,m4,acc⟩,.slice aq acc.length cq)) ⟨zar HOQ.out (by omega),HFIN.out.1,HFIN.out.2.1,HI4.out⟩ HW5.out HGR5.out)
     have HR6:=Lib.hid (HX.out.tp.other HGR5.out (fun e=>by have:=HRW.out.lt _ e.symm;omega) (fun k hk=>by have:=HRW.out.lt _ hk;have:=HX.out.tp.ge;omega))
     go_roundg (m-(i+1))
     case measure=>omega
     case rel=>exact⟨i+1,ps++[(⟨X,m4,acc⟩,.slice aq acc.length cq)],_,_,X,e7,r7,by omega,rfl,by first|go_num|(have e:=IntWalk.i64_in ((i:Int)+1) (by omega);rw[e];push_cast;rfl),rfl,by rw[List.length_append,HPL.out];rfl,by rw[List.length_append];rfl,HR6,HO6,Lib.hid ⟨fun h=>absurd rfl h,fun _=>by rw[List.map_append];exact HFIN.out.2.2⟩⟩
    ·
     have hnb:(e2 != 0)=true:=by rw[bne_iff_ne];exact he2
     have HFIN:=Lib.hid (show (e2≠0∧(((0:Int)≠0∧e2=0)∨((0:Int)=0∧∃ev r,evsP m 0 r1=(e2,ev,r))))∨(e2=0∧(0:Int)=0∧evsP m 0 r1=(0,ps.map (·.1),r)) from by
      obtain⟨ev,h⟩:=HEV.out.err hil (zjB (a:=at_) HN2.out he2) he2
      exact Or.inl ⟨he2,Or.inr ⟨rfl,ev,r,h⟩⟩)
     clear he2
     go_wp2_with fail
     go_meet
     exact⟨ps,a,c,e2,r,rfl,hpl2,HR3,HO3,HFIN⟩
   ·
    have HFIN:=Lib.hid (show (e≠0∧((e1≠0∧e=e1)∨(e1=0∧∃ev r,evsP m 0 r1=(e,ev,r))))∨(e=0∧e1=0∧evsP m 0 r1=(0,ps.map (·.1),cs)) from by
     by_cases h1:e1=0
     ·
      rcases HG.out.2 h1 with⟨h0,_,_,hev⟩|⟨h0,ev,r,hh⟩
      ·
       have him:i=m:=by
        rcases Nat.lt_or_ge i m with h|h
        ·exact absurd ⟨h,h0⟩ hgo
        ·omega
       rw[him] at hev
       exact Or.inr ⟨h0,h1,hev.fin⟩
      ·exact Or.inl ⟨h0,Or.inr ⟨h1,ev,r,hh⟩⟩
     ·exact Or.inl ⟨by rw[HG.out.1 h1];exact h1,Or.inl ⟨h1,HG.out.1 h1⟩⟩)
    by_cases hil:i<m
    ·
     have he:e≠0:=fun h=>hgo ⟨hil,h⟩
     have heb:(e == 0)=false:=by rw[beq_eq_false_iff_ne];exact he
     clear hgo he
     go_wp2_with fail
     go_meet
     exact⟨ps,a,c,e,cs,rfl,hpl2,HR,HO,HFIN⟩
    ·
     clear hgo
     go_wp2_with fail
     go_meet
     exact⟨ps,a,c,e,cs,rfl,hpl2,HR,HO,HFIN⟩
end Go.Proofs.YtflonfcemlfbdaaDoor
