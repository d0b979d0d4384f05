/- Several texts joined, each with its own heading in the notes: The deck's Open. Guests in rows of the call's own, beside a deck that leaves them as they are. The deck's Seek. deck. No condition beyond those of each row. -/
import Derived.Test.YtflonfcemlfbdaaDoorYVk
import Derived.Test.YtflonfcemlfbdaaDoorYNg
import Derived.Test.YtflonfcemlfbdaaDoorYSp
import Derived.Test.YtflonfcemlfbdaaDoorYVf
import Derived.Test.YtflonfcemlfbdaaDoorYMem
import Derived.Test.YtflonfcemlfbdaaDoorYFc
import Derived.Test.YtflonfcemlfbdaaDoorYKr
import Derived.Handy
import Derived.StillTailTactics
import Derived.Deep.CutBlock
import Derived.Test.YtflonfcemlfbdaaDoorYVb
import Derived.Test.YtflonfcemlfbdaaDoorYVn
import Derived.Deep.CutRange
import Derived.Deep.LoopGhost
import Derived.Test.YtflonfcemlfbdaaDoorYVm
import Derived.Test.YtflonfcemlfbdaaDoorYWa
namespace Go.Proofs.YtflonfcemlfbdaaDoor
open Go Go.RowKit Go.ChangeShapes Go.WideShapes Go.Deep
set_option maxHeartbeats 8000000
set_option maxRecDepth 100000
set_option linter.unusedVariables false
attribute [local go_sem ↓] Go.wp_at_zero Go.wp_at_succ
def zaT(a b c:Int):Prop:=0≤a∧a≤200∧1≤b∧b≤3000∧1≤c∧c≤8
theorem zgz(a b c:Int)(w:World)(h:zaT a b c):Calls Tryd.prog 17 #[.agg #[.int .i64 a,.int .i64 b,.int .i64 c]] w fun e w'=>e=.returned (.int .i64 0)∧Below w.heap.size w w':=by
 unfold zaT at h
 have HB:=Lib.hid (fun O=>zai w O)
 go_enter Tryd.func17,Tryd.ntmps17
 go_wp2
 all_goals first
  | (exfalso;omega)
  | (go_ret;exact⟨rfl,HB.out _⟩)
theorem zhW(a b c:Int)(w:World)(h:¬zaT a b c):Calls Tryd.prog 17 #[.agg #[.int .i64 a,.int .i64 b,.int .i64 c]] w fun e w'=>e=.returned (.int .i64 2)∧Below w.heap.size w w':=by
 have HB:=Lib.hid (fun O=>zai w O)
 have HH:=Lib.hid h
 clear h
 go_enter Tryd.func17,Tryd.ntmps17
 go_wp2
 all_goals first
  | (exact absurd (show zaT a b c by unfold zaT;omega) HH.out)
  | (go_ret;exact⟨rfl,HB.out _⟩)
def zld(N:Nat)(w:World)(e:Ending)(w':World):Prop:=∃ad cd ar cr,e=.returned (.tuple #[.agg #[.slice ad N cd,.slice ar N cr],.int .i64 0])∧FrOwn w.heap.size w' (.slice ad N cd) (.slice ar N cr) (List.replicate N []) (List.replicate N 0) (List.replicate N (.slice none 0 0))∧Below w.heap.size w w'
theorem zhX{w:World}{g base n:Nat}(h:w.heap[g]?=some (.cells (zcE n) 24 (0,0)))(hb:base≤g)(hm:n≤1000000):w.ownsRow base 24 1 (.slice (some ⟨g,0,none⟩) n n) n (List.replicate n (.slice none 0 0)):=
 ⟨by simp,.inr ⟨g,n,_,rfl,hb,h,Nat.le_refl _,by unfold maxLen;omega,by simp[zdO],by rw[zdP];simp[List.take_of_length_le]⟩⟩
theorem zjo{w:World}{base gd gr N:Nat}(hd:w.heap[gd]?=some (.cells (zcE N) 24 (0,0)))(hr:w.heap[gr]?=some (.cells (zay N) 3 (0,0)))(h1:base≤gd)(h2:base≤gr)(hN:N≤200):FrOwn base w (.slice (some ⟨gd,0,none⟩) N N) (.slice (some ⟨gr,0,none⟩) N N) (List.replicate N []) (List.replicate N 0) (List.replicate N (.slice none 0 0)):=by
 refine⟨by simp,by rw[List.length_replicate];exact zhX hd h1 (by omega),by rw[List.length_replicate];exact zbE (by rw[←zbg];exact hr) h2 (by simp) (by omega),?_⟩
 intro j hj
 have hj':j<N:=by simpa using hj
 have e1:(List.replicate N (Value.slice none 0 0)).getD j undef=.slice none 0 0:=by rw[List.getD_eq_getElem?_getD,List.getElem?_replicate,if_pos hj'];rfl
 have e2:(List.replicate N ([]:List Int)).getD j []=[]:=by rw[List.getD_eq_getElem?_getD,List.getElem?_replicate,if_pos hj'];rfl
 rw[e1,e2]
 exact⟨World.ownsRow_nil _ _ _ _,Or.inl rfl,Or.inr (by simp[Value.ownBlock]),fun i hi hij=>Or.inl rfl⟩
theorem ziZ(n:Int)(w:World)(h:0≤n∧n≤200):Calls Tryd.prog 19 #[.int .i64 n] w (zld n.toNat w):=by
 obtain⟨h0,h1⟩:=h
 have hm1:=zcF n h0 (by omega)
 have hm2:=zjw n h0 (by omega)
 go_enter Tryd.func19,Tryd.ntmps19
 go_wp2
 go_region
 all_goals go_wp2
 ·
  refine bodyPost_ret (v:=.tuple #[.agg #[.slice (some ⟨w.heap.size+1,0,none⟩) n.toNat n.toNat,.slice (some ⟨w.heap.size+1+1,0,none⟩) n.toNat n.toNat],.int .i64 0]) (by simp[results,Tryd.results19,go_sem]) rfl ⟨_,_,_,_,rfl,?_,?_⟩
  ·exact zjo ((zaj (by simp)).trans (alloc_at (by simp))) (alloc_at (by simp)) (by omega) (by omega) (by omega)
  ·exact((((Below.refl _ _).alloc (Nat.le_refl _) _).alloc (by simp) _).alloc (by simp;omega) _).drew
 ·
  refine bodyPost_ret (v:=.tuple #[.agg #[.slice (some ⟨w.heap.size+1+1,0,none⟩) n.toNat n.toNat,.slice (some ⟨w.heap.size+1,0,none⟩) n.toNat n.toNat],.int .i64 0]) (by simp[results,Tryd.results19,go_sem]) rfl ⟨_,_,_,_,rfl,?_,?_⟩
  ·exact zjo (alloc_at (by simp)) ((zaj (by simp)).trans (alloc_at (by simp))) (by omega) (by omega) (by omega)
  ·exact((((Below.refl _ _).alloc (Nat.le_refl _) _).alloc (by simp) _).alloc (by simp;omega) _).drew
def upto(lo:Nat)(w:World):World:={w with heap:=w.heap.mapIdx (fun i o=>if i<lo then .cells #[] 0 (0,0) else o)}
theorem zhY{lo:Nat}{w:World}{g:Nat}(h:lo≤g):(upto lo w).heap[g]?=w.heap[g]?:=by
 simp[upto,Array.getElem?_mapIdx,Nat.not_lt.2 h]
theorem zi0{lo db:Nat}{w W:World}(h:OutF (fun g=>g=db) w W)(hd:db<lo):Imp w.heap.size (upto lo w) W:=by
 intro b o x hb hx
 by_cases hl:b<lo
 ·
  exfalso
  have e:(upto lo w).heap[b]?=some (.cells #[] 0 (0,0)):=by simp[upto,Array.getElem?_mapIdx,Array.getElem?_eq_getElem hb,hl]
  simp[World.cell?,e] at hx
 ·
  have e:W.heap[b]?=(upto lo w).heap[b]?:=by rw[zhY (by omega)];exact h.block b hb (by omega)
  simp only[World.cell?] at hx ⊢
  rw[e]
  exact hx
theorem hok0(N:Nat)(hN:N≤200):HOk (List.replicate N []) (List.replicate N 0) []:=by
 have r0:∀k,(List.replicate N (0:Int)).getD k 0=0:=by intro k;rw[List.getD_eq_getElem?_getD,List.getElem?_replicate];split<;>rfl
 have r1:∀k,(List.replicate N ([]:List Int)).getD k []=[]:=by intro k;rw[List.getD_eq_getElem?_getD,List.getElem?_replicate];split<;>rfl
 refine⟨⟨by simp,by simpa using hN,fun k hk=>?_⟩,⟨?_,?_,by simp;omega,by simp;omega⟩,fun pg h=>(by cases h),fun pg h=>(by cases h),fun n hn=>?_⟩
 ·
  rw[r0,r1]
  exact⟨by omega,by omega,fun _=>rfl,fun h=>absurd rfl h⟩
 ·
  intro row hr
  rw[List.eq_of_mem_replicate hr]
  exact⟨fun z hz=>(by cases hz),by simp⟩
 ·
  intro z hz
  rw[List.eq_of_mem_replicate hz]
  unfold I64
  omega
 ·
  rw[r0]
  rfl
def zkI(lo:Nat)(w1:World)(db hb N:Nat)(ev kp:Int)(vi vb:Value)(cnt:Int)(al:Option Addr)(cl:Nat)(img:List Int)(l:List Ev):DkC:=⟨⟨fun _=>False,w1⟩,w1,upto lo w1,w1.heap.size,db,hb,N,ev,kp,vi,vb,cnt,al,cl,img,l⟩
theorem zi1{lo:Nat}{w1:World}{db hb N:Nat}{ev kp:Int}{vi vb:Value}{cnt:Int}{al:Option Addr}{cl:Nat}{img:List Int}{b:List UInt8}{l:List Ev}(hd:db<lo)(hlo:lo≤w1.heap.size)(hh:w1.heap.size≤hb)(he:EvsN lo w1 (.slice al l.length cl) l)(hc:ChkR img b cnt 0 l)(hi:∀W,OutF (fun g=>g=db) w1 W→Ints W.heap.size W vi img)(hs:zaT N ev kp):DkK (zkI lo w1 db hb N ev kp vi vb cnt al cl img l):=by
 obtain⟨h1,h2,h3,h4,h5,h6⟩:=zdF hc
 obtain⟨s1,s2,s3,s4,s5,s6⟩:=hs
 exact⟨(by show db<w1.heap.size;omega),hh,Nat.le_refl _,fun W hW=>zi0 hW hd,he.2 _ (fun g h _=>zhY h),h4,hi,h1,h2,h3,(by show N≤200;omega),s3,s4,s5,s6⟩
theorem zhZ{lo:Nat}{w1 w4:World}{db N:Nat}{ev kp:Int}{vi vb:Value}{cnt:Int}{al ad ar:Option Addr}{cl cd cr:Nat}{img:List Int}{l:List Ev}{c0 c1 c2 c3 c4 c5 c6 c7 c8 c9 c10 c11:Value}(hd:db<w1.heap.size)(hx:w4.heap[db]?=some (.cells #[c0,c1,c2,c3,c4,c5,c6,c7,c8,c9,c10,c11] 44 (0,0)))(hb:Below w1.heap.size w1 w4)(hfo:FrOwn w1.heap.size w4 (.slice ad N cd) (.slice ar N cr) (List.replicate N []) (List.replicate N 0) (List.replicate N (.slice none 0 0)))(hN:N≤200):BegS (zkI lo w1 db w4.heap.size N ev kp vi vb cnt al cl img l) (.pointer none) (.pointer none) (.slice none 0 0) [] none 0 [] (((((((((((((w4.setCell ⟨db,0,none⟩ (.int .i64 N)).setCell ⟨db,1,none⟩ (.int .i64 ev)).setCell ⟨db,2,none⟩ (.int .i64 kp)).setCell ⟨db,3,none⟩ vi).setCell ⟨db,4,none⟩ vb).setCell ⟨db,5,none⟩ (.int .i64 cnt)).setCell ⟨db,6,none⟩ (.slice al l.length cl)).setCell ⟨db,7,none⟩ (.pointer (some ⟨w4.heap.size,0,none⟩))).setCell ⟨db,8,none⟩ (.pointer none)).setCell ⟨db,9,none⟩ (.pointer none)).setCell ⟨db,10,none⟩ (.slice none 0 0)).setCell ⟨db,11,none⟩ (.slice none 0 0)).alloc (.cells #[.slice ad N cd,.slice ar N cr] 64)).heap.size (((((((((((((w4.setCell ⟨db,0,none⟩ (.int .i64 N)).setCell ⟨db,1,none⟩ (.int .i64 ev)).setCell ⟨db,2,none⟩ (.int .i64 kp)).setCell ⟨db,3,none⟩ vi).setCell ⟨db,4,none⟩ vb).setCell ⟨db,5,none⟩ (.int .i64 cnt)).setCell ⟨db,6,none⟩ (.slice al l.length cl)).setCell ⟨db,7,none⟩ (.pointer (some ⟨w4.heap.size,0,none⟩))).setCell ⟨db,8,none⟩ (.pointer none)).setCell ⟨db,9,none⟩ (.pointer none)).setCell ⟨db,10,none⟩ (.slice none 0 0)).setCell ⟨db,11,none⟩ (.slice none 0 0)).alloc (.cells #[.slice ad N cd,.slice ar N cr] 64)):=by
 have ld4:db<w4.heap.size:=Nat.lt_of_lt_of_le hd hb.size
 have HBC:((((((((((((w4.setCell ⟨db,0,none⟩ (.int .i64 N)).setCell ⟨db,1,none⟩ (.int .i64 ev)).setCell ⟨db,2,none⟩ (.int .i64 kp)).setCell ⟨db,3,none⟩ vi).setCell ⟨db,4,none⟩ vb).setCell ⟨db,5,none⟩ (.int .i64 cnt)).setCell ⟨db,6,none⟩ (.slice al l.length cl)).setCell ⟨db,7,none⟩ (.pointer (some ⟨w4.heap.size,0,none⟩))).setCell ⟨db,8,none⟩ (.pointer none)).setCell ⟨db,9,none⟩ (.pointer none)).setCell ⟨db,10,none⟩ (.slice none 0 0)).setCell ⟨db,11,none⟩ (.slice none 0 0)).heap[db]?=_:=zkG hx
 have HOC:OutF (fun g=>g=db) w4 ((((((((((((w4.setCell ⟨db,0,none⟩ (.int .i64 N)).setCell ⟨db,1,none⟩ (.int .i64 ev)).setCell ⟨db,2,none⟩ (.int .i64 kp)).setCell ⟨db,3,none⟩ vi).setCell ⟨db,4,none⟩ vb).setCell ⟨db,5,none⟩ (.int .i64 cnt)).setCell ⟨db,6,none⟩ (.slice al l.length cl)).setCell ⟨db,7,none⟩ (.pointer (some ⟨w4.heap.size,0,none⟩))).setCell ⟨db,8,none⟩ (.pointer none)).setCell ⟨db,9,none⟩ (.pointer none)).setCell ⟨db,10,none⟩ (.slice none 0 0)).setCell ⟨db,11,none⟩ (.slice none 0 0)):=zkH (OutF.refl _ _) rfl
 have HO1C:OutF (fun g=>g=db) w1 ((((((((((((w4.setCell ⟨db,0,none⟩ (.int .i64 N)).setCell ⟨db,1,none⟩ (.int .i64 ev)).setCell ⟨db,2,none⟩ (.int .i64 kp)).setCell ⟨db,3,none⟩ vi).setCell ⟨db,4,none⟩ vb).setCell ⟨db,5,none⟩ (.int .i64 cnt)).setCell ⟨db,6,none⟩ (.slice al l.length cl)).setCell ⟨db,7,none⟩ (.pointer (some ⟨w4.heap.size,0,none⟩))).setCell ⟨db,8,none⟩ (.pointer none)).setCell ⟨db,9,none⟩ (.pointer none)).setCell ⟨db,10,none⟩ (.slice none 0 0)).setCell ⟨db,11,none⟩ (.slice none 0 0)):=zkH (OutF.of hb _) rfl
 have hsz:((((((((((((w4.setCell ⟨db,0,none⟩ (.int .i64 N)).setCell ⟨db,1,none⟩ (.int .i64 ev)).setCell ⟨db,2,none⟩ (.int .i64 kp)).setCell ⟨db,3,none⟩ vi).setCell ⟨db,4,none⟩ vb).setCell ⟨db,5,none⟩ (.int .i64 cnt)).setCell ⟨db,6,none⟩ (.slice al l.length cl)).setCell ⟨db,7,none⟩ (.pointer (some ⟨w4.heap.size,0,none⟩))).setCell ⟨db,8,none⟩ (.pointer none)).setCell ⟨db,9,none⟩ (.pointer none)).setCell ⟨db,10,none⟩ (.slice none 0 0)).setCell ⟨db,11,none⟩ (.slice none 0 0)).heap.size=w4.heap.size:=by simp[World.setCell]
 generalize ((((((((((((w4.setCell ⟨db,0,none⟩ (.int .i64 N)).setCell ⟨db,1,none⟩ (.int .i64 ev)).setCell ⟨db,2,none⟩ (.int .i64 kp)).setCell ⟨db,3,none⟩ vi).setCell ⟨db,4,none⟩ vb).setCell ⟨db,5,none⟩ (.int .i64 cnt)).setCell ⟨db,6,none⟩ (.slice al l.length cl)).setCell ⟨db,7,none⟩ (.pointer (some ⟨w4.heap.size,0,none⟩))).setCell ⟨db,8,none⟩ (.pointer none)).setCell ⟨db,9,none⟩ (.pointer none)).setCell ⟨db,10,none⟩ (.slice none 0 0)).setCell ⟨db,11,none⟩ (.slice none 0 0))=C at HBC HOC HO1C hsz ⊢
 have HO1:=HO1C.alloc (.cells #[.slice ad N cd,.slice ar N cr] 64)
 have HBX:(C.alloc (.cells #[.slice ad N cd,.slice ar N cr] 64)).heap[db]?=_:=(zaj (by omega)).trans HBC
 have HH:(C.alloc (.cells #[.slice ad N cd,.slice ar N cr] 64)).heap[w4.heap.size]?=some (.cells #[.slice ad N cd,.slice ar N cr] 64 (0,0)):=alloc_at (by omega)
 have HF:FrOwn w1.heap.size (C.alloc (.cells #[.slice ad N cd,.slice ar N cr] 64)) (.slice ad N cd) (.slice ar N cr) (List.replicate N []) (List.replicate N 0) (List.replicate N (.slice none 0 0)):=hfo.keep (fun g hg=>by
  have h:=hfo.frlt g hg
  exact(zaj (by omega)).trans (HOC.block g h.2 (by omega)))
 generalize C.alloc (.cells #[.slice ad N cd,.slice ar N cr] 64)=W at HBX HH HF HO1 ⊢
 have hl:w4.heap.size<W.heap.size:=(Array.getElem?_eq_some_iff.1 HH).1
 have e1:(List.replicate N ([]:List Int)).length=N:=List.length_replicate
 have e2:(List.replicate N (0:Int)).length=N:=List.length_replicate
 have hlo:∀g,HoF w4.heap.size (List.replicate N []) (List.replicate N 0) ad ar cd cr (List.replicate N (.slice none 0 0)) g→w1.heap.size≤g∧g<W.heap.size:=by
  rintro g (rfl|hg)
  ·exact⟨hb.size,hl⟩
  ·
   rw[e1,e2] at hg
   exact HF.frlt g hg
 refine⟨List.replicate N [],List.replicate N 0,ad,ar,cd,cr,List.replicate N (.slice none 0 0),⟨HBX,⟨⟨⟨⟨?_,?_⟩,hok0 N hN,e2⟩,⟨fun g h=>h.elim,fun g h=>h.elim⟩,fun g h=>h.elim⟩,fun s h=>(by cases h),fun s h=>(by cases h),fun s h=>(by cases h),List.nodup_nil,fun g hg=>(hlo g (hg.elim id (fun h=>h.elim))).1⟩,fun p h=>(by cases h),fun p h=>(by cases h),HO1⟩,World.ownsRow_nil _ _ _ _,fun g hg=>(hlo g (hg.elim id (fun h=>h.elim))).2,fun p h=>(by cases h),Nat.le_refl _⟩
 ·rw[e1,e2];exact HH
 ·rw[e1,e2];exact HF.base (Nat.zero_le _)
def zfR(db:Nat)(a ev kp:Int)(img:List Int)(b:List UInt8)(cnt:Int)(w:World)(e:Ending)(w':World):Prop:=
 (∃c,c≠0∧e=.returned (.int .i64 c)∧Below w.heap.size w w'∧((¬zaT a ev kp∧c=2)∨(zaT a ev kp∧∃l,ChkR img b cnt c l))) ∨
 (zaT a ev kp∧∃(l:List Ev) (K:DkC),ChkR img b cnt 0 l∧DkK K∧K.db=db∧K.N=a.toNat∧K.ev=ev∧K.kp=kp∧K.cnt=cnt∧K.img=img∧K.L=l∧Below w.heap.size w K.w1∧BegP K e w')
theorem zh0{w:World}{db:Nat}{c0 c1 c2 c3 c4 c5 c6 c7 c8 c9 c10 c11 vi vb:Value}{a ev kp cnt:Int}{img:List Int}{b:List UInt8}(hx:w.heap[db]?=some (.cells #[c0,c1,c2,c3,c4,c5,c6,c7,c8,c9,c10,c11] 44 (0,0)))(ht:Tab w)(hi:Ints w.heap.size w vi img)(hiv:∀W,OutF (fun g=>g=db) w W→Ints W.heap.size W vi img)(hb:BytesR w.heap.size w vb b)(hc:I64 cnt):Calls Tryd.prog 8 #[.pointer (some ⟨db,0,none⟩),.agg #[.int .i64 a,.int .i64 ev,.int .i64 kp],.agg #[vi,vb,.int .i64 cnt]] w (zfR db a ev kp img b cnt w):=by
 obtain⟨ai,ci,rfl,_⟩:=id hi
 obtain⟨ae,ce,rfl,_⟩:=id hb
 have HX:=Lib.hid hx
 have HT:=Lib.hid ht
 have HI:=Lib.hid hi
 have HIV:=Lib.hid hiv
 have HB:=Lib.hid hb
 have HC:=Lib.hid hc
 have ld:db<w.heap.size:=(Array.getElem?_eq_some_iff.1 hx).1
 clear hx ht hi hiv hb hc
 by_cases hs:zaT a ev kp
 ·
  have HS:=Lib.hid hs
  clear hs
  have HCK:=Lib.hid (fun W=>zgz a ev kp W HS.out)
  go_enter Tryd.func8,Tryd.ntmps8
  go_upto_region 4 with(go_at_call 17;refine(HCK.out _).mono ?_;rintro e w1 ⟨rfl,hb1⟩;have HB1:=Lib.hid hb1;clear hb1)
  have HBA:=Lib.hid (show Below w.heap.size w w1 from (((Below.refl _ _).alloc (Nat.le_refl _) _).alloc (by simp) _).trans (HB1.out.mono (by simp;omega)))
  have x5:w1.heap[w.heap.size+1]?=some (.cells #[(.slice ai img.length ci),(.slice ae b.length ce),.int .i64 cnt] 27 (0,0)):=(HB1.out.block _ (by simp)).trans (alloc_at (by simp))
  have x4:w1.heap[w.heap.size]?=some (.cells #[.int .i64 a,.int .i64 ev,.int .i64 kp] 23 (0,0)):=(HB1.out.block _ (by simp;omega)).trans ((zaj (by simp)).trans (alloc_at rfl))
  have HX4:=Lib.hid x4
  have HX5:=Lib.hid x5
  clear x4 HB1 HCK
  have l5:w.heap.size+1<w1.heap.size:=(Array.getElem?_eq_some_iff.1 x5).1
  have y50:=zaa x5 0
  have y51:=zaa x5 1
  have y52:=zaa x5 2
  clear x5
  have HCH:=Lib.hid (fun (W:World) (hb:Below w.heap.size w W)=>zed (.slice ai img.length ci) (.slice ae b.length ce) img b cnt W (HT.out.to hb) (Ints.to hb.size (fun b o h=>hb.cell (p:=⟨b,o,none⟩) h) HI.out) (BytesR.to hb.size (fun b o h=>hb.cell (p:=⟨b,o,none⟩) h) HB.out) HC.out)
  go_upto_region 5 with(go_at_call 18;refine(HCH.out _ ?_).mono ?_;(first|exact HBA.out|exact HBA.out.drew|exact below_drewN HBA.out _);rintro e w2 ⟨c,l,vo,hck,rfl,hev,hb2⟩;have HCR:=Lib.hid hck;have HEV:=Lib.hid hev;have HB2:=Lib.hid (show Below w1.heap.size w1 w2 from hb2);clear hck hev hb2)
  clear y50 y51 y52 HCH
  have HBB:=Lib.hid (show Below w.heap.size w w2 from HBA.out.trans (HB2.out.mono HBA.out.size))
  by_cases hc0:c=0
  ·
   subst hc0
   obtain⟨al,cl,rfl,_⟩:=id HEV.out.1
   have x4:w2.heap[w.heap.size]?=some (.cells #[.int .i64 a,.int .i64 ev,.int .i64 kp] 23 (0,0)):=(HB2.out.block _ (by omega)).trans HX4.out
   have y40:=zaa x4 0
   have l4:w.heap.size<w2.heap.size:=(Array.getElem?_eq_some_iff.1 x4).1
   have HFN:=Lib.hid (fun (W:World)=>ziZ a W ⟨HS.out.1,HS.out.2.1⟩)
   go_upto_region 10 with(go_at_call 19;refine(HFN.out _).mono ?_;rintro e w3 ⟨ad,cd,ar,cr,rfl,hfo,hb3⟩;have HFO:=Lib.hid hfo;have HB3:=Lib.hid hb3;clear hfo hb3)
   clear y40 HFN
   have l40:w.heap.size+1<w2.heap.size:=Nat.lt_of_lt_of_le l5 HB2.out.size
   have hN:a.toNat≤200:=by have:=HS.out.2.1;omega
   have ea:((a.toNat:Nat):Int)=a:=Int.toNat_of_nonneg HS.out.1
   have HB4:=Lib.hid (show Below w2.heap.size w2 (w3.alloc (.cells #[.slice ad a.toNat cd,.slice ar a.toNat cr] 60)) from HB3.out.alloc HB3.out.size _)
   have HFO4:=Lib.hid (show FrOwn w2.heap.size (w3.alloc (.cells #[.slice ad a.toNat cd,.slice ar a.toNat cr] 60)) (.slice ad a.toNat cd) (.slice ar a.toNat cr) (List.replicate a.toNat []) (List.replicate a.toNat 0) (List.replicate a.toNat (.slice none 0 0)) from HFO.out.grown (zai _ _))
   have x10:(w3.alloc (.cells #[.slice ad a.toNat cd,.slice ar a.toNat cr] 60)).heap[w3.heap.size]?=some (.cells #[.slice ad a.toNat cd,.slice ar a.toNat cr] 60 (0,0)):=alloc_at rfl
   clear HFO HB3
   generalize (w3.alloc (.cells #[.slice ad a.toNat cd,.slice ar a.toNat cr] 60))=w4 at *
   generalize w3.heap.size=g4 at *
   have x4':w4.heap[w.heap.size]?=some (.cells #[.int .i64 a,.int .i64 ev,.int .i64 kp] 23 (0,0)):=(HB4.out.block _ l4).trans x4
   have x5:w4.heap[w.heap.size+1]?=some (.cells #[(.slice ai img.length ci),(.slice ae b.length ce),.int .i64 cnt] 27 (0,0)):=(HB4.out.block _ l40).trans ((HB2.out.block _ l5).trans HX5.out)
   have hbb4:Below w.heap.size w w4:=HBB.out.trans (HB4.out.mono HBB.out.size)
   have xd:w4.heap[db]?=some (.cells #[c0,c1,c2,c3,c4,c5,c6,c7,c8,c9,c10,c11] 44 (0,0)):=(hbb4.block _ ld).trans HX.out
   have HK:=Lib.hid (zi1 (lo:=w1.heap.size) (w1:=w2) (hb:=w4.heap.size) (N:=a.toNat) (vb:=(.slice ae b.length ce)) (Nat.lt_of_lt_of_le ld HBA.out.size) HB2.out.size HB4.out.size HEV.out HCR.out (fun W hW=>HIV.out W ((OutF.of HBB.out _).trans hW (fun g hg=>Or.inl hg))) (by rw[ea];exact HS.out))
   have HBS:=Lib.hid (zhZ (lo:=w1.heap.size) (ev:=ev) (kp:=kp) (vi:=(.slice ai img.length ci)) (vb:=(.slice ae b.length ce)) (cnt:=cnt) (al:=al) (cl:=cl) (img:=img) (l:=l) (Nat.lt_of_lt_of_le ld HBB.out.size) xd HB4.out HFO4.out hN)
   rw[ea] at HBS
   have HBG:=Lib.hid (zhU HK.out HBS.out (by have:=HS.out.2.2.2.2.1;show ((0:Nat):Int)≤kp;omega))
   have y40:=zaa x4' 0
   have y41:=zaa x4' 1
   have y42:=zaa x4' 2
   have y50:=zaa x5 0
   have y51:=zaa x5 1
   have y52:=zaa x5 2
   have y60:=zaa x10 0
   have y61:=zaa x10 1
   have q0:=zaa xd 0
   have f0:=zab xd 0
   have q1:=zaa xd 1
   have f1:=zab xd 1
   have q2:=zaa xd 2
   have f2:=zab xd 2
   have q3:=zaa xd 3
   have f3:=zab xd 3
   have q4:=zaa xd 4
   have f4:=zab xd 4
   have q5:=zaa xd 5
   have f5:=zab xd 5
   have q6:=zaa xd 6
   have f6:=zab xd 6
   have q7:=zaa xd 7
   have f7:=zab xd 7
   have q8:=zaa xd 8
   have f8:=zab xd 8
   have q9:=zaa xd 9
   have f9:=zab xd 9
   have q10:=zaa xd 10
   have f10:=zab xd 10
   have q11:=zaa xd 11
   have f11:=zab xd 11
   have m4:w.heap.size<w4.heap.size:=(Array.getElem?_eq_some_iff.1 x4').1
   have m5:w.heap.size+1<w4.heap.size:=(Array.getElem?_eq_some_iff.1 x5).1
   have m6:g4<w4.heap.size:=(Array.getElem?_eq_some_iff.1 x10).1
   have md:db<w4.heap.size:=(Array.getElem?_eq_some_iff.1 xd).1
   clear x4 x4' x5 x10 xd HX HX4 HX5 HBS HFO4 HIV HI HB HC HT hbb4
   go_upto_region 11 with fail
   clear q0 f0 q1 f1 q2 f2 q3 f3 q4 f4 q5 f5 q6 f6 q7 f7 q8 f8 q9 f9 q10 f10 q11 f11 y40 y41 y42 y50 y51 y52 y60 y61
   obtain⟨K,HK',k1,k2,k3,k4,k5,k6,k7,k8,HBGc⟩:∃K:DkC,Hid (DkK K)∧Hid (K.db=db)∧Hid (K.N=a.toNat)∧Hid (K.ev=ev)∧Hid (K.kp=kp)∧Hid (K.cnt=cnt)∧Hid (K.img=img)∧Hid (K.L=l)∧Hid (K.w1=w2)∧Hid (Calls Tryd.prog 20 #[.pointer (some ⟨db,0,none⟩)] (((((((((((((w4.setCell ⟨db,0,none⟩ (.int .i64 a)).setCell ⟨db,1,none⟩ (.int .i64 ev)).setCell ⟨db,2,none⟩ (.int .i64 kp)).setCell ⟨db,3,none⟩ (.slice ai img.length ci)).setCell ⟨db,4,none⟩ (.slice ae b.length ce)).setCell ⟨db,5,none⟩ (.int .i64 cnt)).setCell ⟨db,6,none⟩ (.slice al l.length cl)).setCell ⟨db,7,none⟩ (.pointer (some ⟨w4.heap.size,0,none⟩))).setCell ⟨db,8,none⟩ (.pointer none)).setCell ⟨db,9,none⟩ (.pointer none)).setCell ⟨db,10,none⟩ (.slice none 0 0)).setCell ⟨db,11,none⟩ (.slice none 0 0)).alloc (.cells #[.slice ad a.toNat cd,.slice ar a.toNat cr] 64)) (fun e w'=>BegP K e w')):=⟨_,HK,Lib.hid rfl,Lib.hid rfl,Lib.hid rfl,Lib.hid rfl,Lib.hid rfl,Lib.hid rfl,Lib.hid rfl,Lib.hid rfl,HBG⟩
   clear HK HBG HEV HB2 HB4
   generalize (((((((((((((w4.setCell ⟨db,0,none⟩ (.int .i64 a)).setCell ⟨db,1,none⟩ (.int .i64 ev)).setCell ⟨db,2,none⟩ (.int .i64 kp)).setCell ⟨db,3,none⟩ (.slice ai img.length ci)).setCell ⟨db,4,none⟩ (.slice ae b.length ce)).setCell ⟨db,5,none⟩ (.int .i64 cnt)).setCell ⟨db,6,none⟩ (.slice al l.length cl)).setCell ⟨db,7,none⟩ (.pointer (some ⟨w4.heap.size,0,none⟩))).setCell ⟨db,8,none⟩ (.pointer none)).setCell ⟨db,9,none⟩ (.pointer none)).setCell ⟨db,10,none⟩ (.slice none 0 0)).setCell ⟨db,11,none⟩ (.slice none 0 0)).alloc (.cells #[.slice ad a.toNat cd,.slice ar a.toNat cr] 64))=W at HBGc ⊢
   clear ea hN m4 m5 m6 md l4 l40 l5
   go_wp2_with fail
   refine HBGc.out.mono ?_
   rintro e w6 (⟨rfl,hds⟩|⟨rfl,h7,ho⟩)
   ·
    skip
    have HFIN:=Lib.hid (show zfR db a ev kp img b cnt w (.returned (.int .i64 0)) w6 from Or.inr ⟨HS.out,l,_,HCR.out,HK'.out,k1.out,k2.out,k3.out,k4.out,k5.out,k6.out,k7.out,(by rw[k8.out];exact HBB.out),Or.inl ⟨rfl,hds⟩⟩)
    clear hds
    go_wp2
    go_ret
    exact HFIN.out
   ·
    skip
    have HFIN:=Lib.hid (show zfR db a ev kp img b cnt w (.returned (.int .i64 7)) w6 from Or.inr ⟨HS.out,l,_,HCR.out,HK'.out,k1.out,k2.out,k3.out,k4.out,k5.out,k6.out,k7.out,(by rw[k8.out];exact HBB.out),Or.inr ⟨rfl,h7,ho⟩⟩)
    clear h7 ho
    go_wp2
    go_ret
    exact HFIN.out
  ·
   have hc1:(c != 0)=true:=by simpa using hc0
   have HFIN:=Lib.hid (show zfR db a ev kp img b cnt w (.returned (.int .i64 c)) w2 from Or.inl ⟨c,hc0,rfl,HBB.out,Or.inr ⟨HS.out,l,HCR.out⟩⟩)
   go_wp2
   go_ret
   exact HFIN.out
 ·
  have HS:=Lib.hid hs
  clear hs
  have HCK:=Lib.hid (fun W=>zhW a ev kp W HS.out)
  go_enter Tryd.func8,Tryd.ntmps8
  go_wp2_with (go_at_call 17;refine(HCK.out _).mono ?_;rintro e w1 ⟨rfl,hb1⟩;have HB1:=Lib.hid hb1;clear hb1)
  go_ret
  exact Or.inl ⟨2,by decide,rfl,(((Below.refl _ _).alloc (Nat.le_refl _) _).alloc (by simp) _).trans (HB1.out.mono (by simp;omega)),Or.inl ⟨HS.out,rfl⟩⟩
end Go.Proofs.YtflonfcemlfbdaaDoor
namespace Go.Proofs.YtflonfcemlfbdaaDoor
open Go Go.RowKit Go.ChangeShapes Go.WideShapes Go.Deep
set_option linter.unusedVariables false
theorem zc4:(Tryd.prog.info? 48).map (fun i=>(i.zero,i.size,i.bytes))=some (some (.agg #[.slice none 0 0,.int .i64 0,.int .i64 0,.bool false,.bool false,.int .i64 0,.int .i64 0,.int .i64 0,.slice none 0 0,.slice none 0 0,.int .i64 0,.int .i64 0]),12,136):=by kernel_rfl
structure MG where
 m:Mach
 ar:Option Addr
 cr:Nat
 am:Option Addr
 cm:Nat
 ao:Option Addr
 co:Nat
def MG.cells(x:MG):List Value:=[.slice x.ar x.m.regs.length x.cr,.int .i64 x.m.pc,.int .i64 x.m.back,.bool x.m.ints,.bool x.m.wait,.int .i64 x.m.table,.int .i64 x.m.count,.int .i64 x.m.fin,.slice x.am x.m.mem.length x.cm,.slice x.ao x.m.out.length x.co,.int .i64 x.m.ready,.int .i64 x.m.want]
theorem MG.cells_len(x:MG):x.cells.length=12:=rfl
def MG.own(x:MG)(g:Nat):Prop:=(Value.slice x.ar x.m.regs.length x.cr).ownBlock=some g∨(Value.slice x.am x.m.mem.length x.cm).ownBlock=some g∨(Value.slice x.ao x.m.out.length x.co).ownBlock=some g
structure MGR(base:Nat)(w:World)(x:MG):Prop where
 r:w.ownsRow base 3 1 (.slice x.ar x.m.regs.length x.cr) x.m.regs.length (x.m.regs.map (Value.int .i64))
 m:w.ownsRow base 3 1 (.slice x.am x.m.mem.length x.cm) x.m.mem.length (x.m.mem.map (Value.int .i64))
 o:w.ownsRow base 3 1 (.slice x.ao x.m.out.length x.co) x.m.out.length (x.m.out.map (Value.int .i64))
 ok:MOk x.m
structure OutsR(base:Nat)(w:World)(v:Value)(l:List MG):Prop where
 row:w.ownsRow base 48 12 v l.length (l.flatMap MG.cells)
 el:∀x∈l,MGR base w x
def OB(v:Value)(l:List MG)(g:Nat):Prop:=v.ownBlock=some g∨∃x∈l,x.own g
section
variable {base:Nat} {w w':World} {v:Value} {l:List MG} {x:MG}
theorem MGR.ty(h:MGR base w x){g:Nat}(hg:x.own g):Ty w g 3:=by
 rcases hg with q|q|q
 ·exact zaD h.r q
 ·exact zaD h.m q
 ·exact zaD h.o q
theorem MGR.stay(h:MGR base w x)(hs:∀g,x.own g→w'.heap[g]?=w.heap[g]?):MGR base w' x:=
 ⟨zaI h.r (fun g hg=>hs g (Or.inl hg)),zaI h.m (fun g hg=>hs g (Or.inr (Or.inl hg))),zaI h.o (fun g hg=>hs g (Or.inr (Or.inr hg))),h.ok⟩
theorem MGR.low(h:MGR base w x){b:Nat}(hb:b≤base):MGR b w x:=⟨zar h.r hb,zar h.m hb,zar h.o hb,h.ok⟩
theorem MGR.lt(h:MGR base w x){g:Nat}(hg:x.own g):base≤g∧g<w.heap.size:=by
 rcases hg with q|q|q
 ·exact h.r.lt g q
 ·exact h.m.lt g q
 ·exact h.o.lt g q
theorem OutsR.nil(base:Nat)(w:World):OutsR base w (.slice none 0 0) []:=⟨World.ownsRow_nil _ _ _ _,fun x hx=>(by cases hx)⟩
theorem OutsR.stay(h:OutsR base w v l)(hs:∀g,OB v l g→w'.heap[g]?=w.heap[g]?):OutsR base w' v l:=
 ⟨zaI h.row (fun g hg=>hs g (Or.inl hg)),fun x hx=>(h.el x hx).stay (fun g hg=>hs g (Or.inr ⟨x,hx,hg⟩))⟩
theorem OutsR.lt(h:OutsR base w v l){g:Nat}(hg:OB v l g):base≤g∧g<w.heap.size:=by
 rcases hg with q|⟨x,hx,q⟩
 ·exact h.row.lt g q
 ·exact(h.el x hx).lt q
theorem OutsR.below(h:OutsR base w v l)(hb:Below w.heap.size w w'):OutsR base w' v l:=h.stay (fun g hg=>hb.block g (h.lt hg).2)
theorem OutsR.px(h:OutsR base w v l):PXo ⟨OB v l,w⟩ w:=⟨fun g hg=>rfl,fun g hg=>by
 rcases hg with q|⟨x,hx,q⟩
 ·exact Or.inr (zaD h.row q)
 ·exact Or.inl ((h.el x hx).ty q)⟩
theorem OutsR.push(h:OutsR base w v l)(hx:MGR base w' x)(hg:w.grownBy w' v.ownBlock){g cap:Nat}(ho:w'.ownsRow base 48 12 (.slice (some ⟨g,0,none⟩) (l.length+1) cap) (l.length+1) (l.flatMap MG.cells++x.cells)):OutsR base w' (.slice (some ⟨g,0,none⟩) (l++[x]).length cap) (l++[x]):=by
 refine⟨?_,fun y hy=>?_⟩
 ·
  rw[List.length_append,List.flatMap_append,List.flatMap_singleton]
  exact ho
 ·
  rcases List.mem_append.1 hy with hy|hy
  ·
   refine(h.el y hy).stay (fun k hk=>hg.block k ((h.el y hy).lt hk).2 (fun e=>?_))
   exact absurd (zaL ((h.el y hy).ty hk) (zaD h.row e.symm)) (by decide)
  ·rw[List.mem_singleton.1 hy];exact hx
theorem OutsR.cell(h:OutsR base w v l){i:Nat}(hi:i<l.length){j:Nat}(hj:j<12):∃g cap,v=.slice (some ⟨g,0,none⟩) l.length cap∧g<w.heap.size∧w.cell? ⟨g,12*i+j,none⟩=l[i].cells[j]?:=by
 obtain⟨a,cap,hv⟩:=zaY h.row
 have hlen:(l.flatMap MG.cells).length=12*l.length:=by
  clear h hv hi
  induction l with
  | nil=>rfl
  | cons y ys ih=>rw[List.flatMap_cons,List.length_append,ih,MG.cells_len,List.length_cons];omega
 rcases h.row.2 with⟨h1,h2⟩|⟨g,cap2,cur,h1,h2,h3,h4,h5,h6,h7⟩
 ·omega
 ·
  refine⟨g,cap2,h1,(Array.getElem?_eq_some_iff.1 h3).1,?_⟩
  simp only[World.cell?,h3]
  have hlt:12*i+j<(l.flatMap MG.cells).length:=by omega
  have e1:(l.flatMap MG.cells)[12*i+j]?=cur[12*i+j]?:=by
   rw[←h7,List.getElem?_take,if_pos (by omega),Array.getElem?_toList]
  rw[←e1]
  clear hlen h h1 h2 h3 h4 h5 h6 h7 e1 hv hlt
  induction l generalizing i with
  | nil=>simp at hi
  | cons y ys ih=>
   rw[List.flatMap_cons]
   cases i with
   | zero=>rw[List.getElem?_append_left (by rw[MG.cells_len];omega)];simp
   | succ i=>
    rw[List.getElem?_append_right (by rw[MG.cells_len];omega),MG.cells_len,show 12*(i+1)+j-12=12*i+j by omega,ih (by simpa using hi)]
    simp
end
def DkC.px(K:DkC)(pp:PX):DkC:={K with pp:=pp}
theorem DkK.px{K:DkC}(h:DkK K)(pp:PX):DkK (K.px pp):=⟨h.db,h.hb,h.E,h.imp,h.evs,h.evl,h.img,h.nc,h.c0,h.c1,h.n1,h.e0,h.e1,h.k0,h.k1⟩
theorem DkS.px{K:DkC}{m:Mach}{i:Nat}{wr:Int}{w w':World}(h:DkS K m i wr w)(ho:OutF K.pp.P w w')(pp:PX)(hp:PXo pp w')(hn:∀g,pp.P g→K.pp.P g∨w.heap.size≤g):DkS (K.px pp) m i wr w':=by
 obtain⟨cb,gr,cr,sb,al,nl,cl,LL,ao,co,F,ap,cp,pts,h⟩:=h
 obtain⟨F0,hs,hpx,hd,hF⟩:=h.p.ps.g.mem
 have hin:∀g,K.pp.P g→F g:=fun g hg=>by rw[hF];exact Or.inr hg
 have hst:∀g,g<w.heap.size→¬F g→w'.heap[g]?=w.heap[g]?:=fun g hg hf=>ho.block g hg (fun q=>hf (hin g q))
 have key:∀g,g<w.heap.size→¬F g→¬(F0 g∨pp.P g):=fun g hg hf q=>by
  rcases q with q|q
  ·exact hf (by rw[hF];exact Or.inl q)
  ·
   rcases hn g q with q|q
   ·exact hf (hin g q)
   ·omega
 have hold:=h.p.ps.g.old
 have hlc:=h.p.ps.g.clt
 have hlr:=(h.p.ps.g.regs.lt gr rfl).2
 have hlo:∀g,(Value.slice ao m.out.length co).ownBlock=some g→g<w.heap.size:=fun g hg=>(h.p.ps.g.out.lt g hg).2
 have hF0:∀g,F0 g→g<w.heap.size:=(zaR _ _ _ _ _).lt _ _ _ _ hs
 have hPn:∀p∈pts,∀g,PB p g→g<w.heap.size∧¬F g:=fun p hp g hg=>⟨((h.p.pt p hp).lt g hg).2,fun q=>h.p.sep p hp g hg (Or.inr (Or.inr (Or.inl q)))⟩
 have hsp:SpStP pp sb K.hb K.N (pts.map (·.pg)) (pts.map (·.m.mem)) w' (fun g=>F0 g∨pp.P g) m.mem false:=by
  refine⟨F0,(zaR _ _ _ _ _).stay w w' F0 _ _ hs (fun g hg=>ho.block g (hF0 g hg) (fun q=>hd g q hg)) ho.size,hp,fun g hg hf=>?_,rfl⟩
  rcases hn g hg with q|q
  ·exact hd g q hf
  ·have:=hF0 g hf;omega
 refine⟨cb,gr,cr,sb,al,nl,cl,LL,ao,co,fun g=>F0 g∨pp.P g,ap,cp,pts,⟨⟨⟨⟨?_,?_,?_,hsp,h.p.ps.g.ro,key cb hlc h.p.ps.g.fc,key gr hlr h.p.ps.g.fr,fun g hg=>key g (hlo g hg) (h.p.ps.g.fo g hg),?_,h.p.ps.g.dc,h.p.ps.g.dr,?_,h.p.ps.g.dq⟩,?_,key K.db h.p.ps.plt h.p.ps.nf,h.p.ps.db⟩,?_,?_,?_,h.p.nd,h.p.len⟩,h.run,h.st,h.evs,h.le⟩⟩
 ·exact(hst cb hlc h.p.ps.g.fc).trans h.p.ps.g.box
 ·exact zaI h.p.ps.g.regs (fun g hg=>by injection hg with e;subst e;exact hst _ hlr h.p.ps.g.fr)
 ·exact zaI h.p.ps.g.out (fun g hg=>hst g (hlo g hg) (h.p.ps.g.fo g hg))
 ·exact hold.trans ho (fun g hg=>h.p.ps.g.df g (hin g hg))
 ·
  intro g hq1
  rcases hq1 with hq1|hq1
  ·exact h.p.ps.g.df g (by rw[hF];exact Or.inl hq1)
  ·
   rcases hn g hq1 with hq2|hq2
   ·exact h.p.ps.g.df g (hin g hq2)
   ·exact Or.inr (Nat.le_trans hold.size hq2)
 ·exact(hst K.db h.p.ps.plt h.p.ps.nf).trans h.p.ps.box
 ·exact zaI h.p.row (fun g hg=>ho.block g (h.p.row.lt g hg).2 (fun q=>hpx.not (zaD h.p.row hg) (by decide) (by decide) q))
 ·
  intro p hp
  have:=(h.p.pt p hp).stay (w':=w') (fun g hg=>hst g (hPn p hp g hg).1 (hPn p hp g hg).2)
  exact⟨this.regs,this.out,this.sp,this.spb,this.evs,this.st,this.run,this.fin,this.le⟩
 ·
  intro p hp g hg hq1
  rcases hq1 with hq1|hq1|hq1|hq1
  ·exact h.p.sep p hp g hg (Or.inl hq1)
  ·exact h.p.sep p hp g hg (Or.inr (Or.inl hq1))
  ·exact key g (hPn p hp g hg).1 (hPn p hp g hg).2 hq1
  ·exact h.p.sep p hp g hg (Or.inr (Or.inr (Or.inr hq1)))
theorem DkS.pxo{K:DkC}{m:Mach}{i:Nat}{wr:Int}{w:World}(h:DkS K m i wr w):PXo K.pp w:=by
 obtain⟨cb,gr,cr,sb,al,nl,cl,LL,ao,co,F,ap,cp,pts,h⟩:=h
 obtain⟨F0,hs,hpx,hd,hF⟩:=h.p.ps.g.mem
 exact hpx
end Go.Proofs.YtflonfcemlfbdaaDoor
namespace Go.Proofs.YtflonfcemlfbdaaDoor
open Go Go.RowKit Go.ChangeShapes Go.WideShapes Go.Deep
set_option maxHeartbeats 8000000
set_option maxRecDepth 100000
set_option linter.unusedVariables false
attribute [local go_sem ↓] Go.wp_at_zero Go.wp_at_succ
def zct(K:DkC)(n:Int)(e:Ending)(w':World):Prop:=((n<0∨K.cnt<n)∧e=.returned (.int .i64 2)∧OutF (fun g=>g=K.db) K.w1 w')∨(0≤n∧n≤K.cnt∧e=.returned (.int .i64 0)∧∃j wr,DkS K (runM K.L (zas K.img) n.toNat) j wr w')∨(0≤n∧n≤K.cnt∧e=.returned (.int .i64 7)∧(K.N:Int)<16*(K.kp+2)∧OutF (fun g=>g=K.db) K.w1 w')
section
variable {K:DkC} {m:Mach} {i:Nat} {wrote:Int} {w w':World}
theorem zh1(hK:DkK K)(h:DkS K m i wrote w)(n:Int)(hn:I64 n):Calls Tryd.prog 9 #[.pointer (some ⟨K.db,0,none⟩),.int .i64 n] w (zct K n):=by
 have HK:=Lib.hid hK
 have HS:=Lib.hid h
 have HOUT:=Lib.hid h.out
 obtain⟨cb,gr,cr,sb,al,nl,cl,LL,ao,co,F,ap,cp,pts,hd⟩:=h
 have HD:=Lib.hid hd
 have hc1:=hK.c1
 have hc0:=hK.c0
 have hcnt:=hd.run.cnt
 have b5:w.cell? ⟨K.db,5,none⟩=some (.int .i64 K.cnt):=zaa hd.p.ps.box 5
 have b8:w.cell? ⟨K.db,8,none⟩=some (.pointer (some ⟨cb,0,none⟩)):=zaa hd.p.ps.box 8
 have c6:w.cell? ⟨cb,6,none⟩=some (.int .i64 i):=by rw[←hcnt];exact zaa hd.p.ps.g.box 6
 have ld:K.db<w.heap.size:=hd.p.ps.plt
 have lc:cb<w.heap.size:=hd.p.ps.g.clt
 clear hd hcnt hK hn
 go_enter Tryd.func9,Tryd.ntmps9
 by_cases hlo:n<0
 ·
  have HFIN:=Lib.hid (show zct K n (.returned (.int .i64 2)) w from Or.inl ⟨Or.inl hlo,rfl,HOUT.out⟩)
  have hd1:decide (n<0)=true:=decide_eq_true hlo
  go_wp2
  go_ret
  exact HFIN.out
 by_cases hhi:K.cnt<n
 ·
  have HFIN:=Lib.hid (show zct K n (.returned (.int .i64 2)) w from Or.inl ⟨Or.inr hhi,rfl,HOUT.out⟩)
  have hd1:decide (n<0)=false:=decide_eq_false hlo
  have hd2:decide (K.cnt<n)=true:=decide_eq_true hhi
  go_wp2
  go_ret
  exact HFIN.out
 obtain⟨N,rfl⟩:∃N:Nat,n=N:=⟨n.toNat,by omega⟩
 have hd1:decide ((N:Int)<0)=false:=decide_eq_false hlo
 have hd2:decide (K.cnt<(N:Int))=false:=decide_eq_false hhi
 have HN:=Lib.hid (show (N:Int)≤K.cnt from by omega)
 have hN3:(N:Int)≤3000:=by omega
 clear hhi hlo
 go_upto_if 28 with fail
 obtain⟨q,hq⟩:∃q,q=decide (N<i):=⟨_,rfl⟩
 rw[←hq]
 go_cut [] from 29 to 35 (fun wx =>∃(m':Mach) (j:Nat) (wr:Int),Hid (DkS K m' j wr wx)∧Hid (j≤N))
 case first=>
  cases q with
  | true=>
   have hb:=of_decide_eq_true hq.symm
   have HBK:=Lib.hid (zjc HK.out HD.out (N:Int) (by omega) hN3)
   clear hb hq b5 b8 c6 lc
   go_wp2_with fail
   refine HBK.out.mono ?_
   rintro e w2 (⟨rfl,m2,j,wr,hs,hj⟩|⟨rfl,h7,ho⟩)
   ·
    have HS2:=Lib.hid hs
    have hj2:j≤N:=by omega
    clear hs hj
    go_wp2_with fail
    go_meet
    exact⟨m2,j,wr,HS2,Lib.hid hj2⟩
   ·
    have HFIN:=Lib.hid (show zct K N (.returned (.int .i64 7)) w2 from Or.inr (Or.inr ⟨by omega,HN.out,rfl,h7,ho⟩))
    clear h7 ho
    go_wp2
    go_ret
    exact HFIN.out
  | false=>
   have hb:=of_decide_eq_false hq.symm
   have hj2:i≤N:=by omega
   clear hb hq
   go_wp2_with fail
   go_meet
   exact⟨m,i,wrote,HS,Lib.hid hj2⟩
 case rest=>
  clear hq b5 b8 c6 ld lc HS HD HOUT
  obtain⟨m1,j1,wr1,HS,HJ⟩:=hcut
  go_wp2_with fail
  go_loopg [6,7] (N-j1) (fun gh s6 s7 wr =>∃(m':Mach) (j:Nat) (wr':Int),gh=N-j∧j≤N∧Hid (DkS K m' j wr' wr))
  case atStart=>exact⟨m1,j1,wr1,by omega,HJ.out,HS⟩
  case round=>
   clear HS HJ
   obtain⟨m2,j,wr2,rfl,hj,HS⟩:=hrel
   obtain⟨cb,gr,cr,sb,al,nl,cl,LL,ao,co,F,ap,cp,pts,hd⟩:=HS.out
   have HD:=Lib.hid hd
   have hcnt:=hd.run.cnt
   have b8:wr.cell? ⟨K.db,8,none⟩=some (.pointer (some ⟨cb,0,none⟩)):=zaa hd.p.ps.box 8
   have c6:wr.cell? ⟨cb,6,none⟩=some (.int .i64 j):=by rw[←hcnt];exact zaa hd.p.ps.g.box 6
   have c7:wr.cell? ⟨cb,7,none⟩=some (.int .i64 m2.fin):=zaa hd.p.ps.g.box 7
   have ld:K.db<wr.heap.size:=hd.p.ps.plt
   have lc:cb<wr.heap.size:=hd.p.ps.g.clt
   clear hd hcnt
   by_cases hlt:j<N
   ·
    have hl1:decide ((j:Int)<(N:Int))=true:=decide_eq_true (by omega)
    by_cases hf:m2.fin=0
    ·
     have hf1:(m2.fin == 0)=true:=by rw[hf];rfl
     have HST:=Lib.hid (zij HK.out HD.out (fun _=>by have:=HN.out;omega))
     have HF:=Lib.hid hf
     clear hf
     obtain⟨f2,hf2⟩:∃f,f=m2.fin:=⟨_,rfl⟩
     rw[←hf2] at c7 hf1
     clear hf2
     go_wp2_with fail
     refine HST.out.mono ?_
     rintro e w3 (⟨j3,rfl,hs3,h1,h2,h3⟩|⟨rfl,h7,ho⟩)
     ·
      obtain rfl:j3=j+1:=h3 HF.out
      have HS3:=Lib.hid hs3
      clear hs3 b8 c6 c7 ld lc HST h1 h2 h3
      go_wp2_with fail
      go_roundg (N-(j+1))
      case measure=>omega
      case rel=>exact⟨_,j+1,_,rfl,by omega,HS3⟩
     ·
      have HFIN:=Lib.hid (show zct K N (.returned (.int .i64 7)) w3 from Or.inr (Or.inr ⟨by omega,HN.out,rfl,h7,ho⟩))
      clear h7 ho b8 c6 c7 ld lc HST
      go_wp2
      go_ret
      exact HFIN.out
    ·
     have hf1:(m2.fin == 0)=false:=by rw[beq_eq_false_iff_ne];exact hf
     have HFIN:=Lib.hid (show zct K N (.returned (.int .i64 0)) wr from Or.inr (Or.inl ⟨by omega,HN.out,rfl,j,wr2,by
      rw[Int.toNat_natCast,←HD.out.run.ends hf hj];exact HS.out⟩))
     clear hf
     obtain⟨f2,hf2⟩:∃f,f=m2.fin:=⟨_,rfl⟩
     rw[←hf2] at c7 hf1
     clear hf2
     go_wp2
     go_ret
     exact HFIN.out
   ·
    have hl1:decide ((j:Int)<(N:Int))=false:=decide_eq_false (by omega)
    obtain rfl:j=N:=by omega
    have HFIN:=Lib.hid (show zct K j (.returned (.int .i64 0)) wr from Or.inr (Or.inl ⟨by omega,HN.out,rfl,j,wr2,by
     rw[Int.toNat_natCast,←HD.out.run.run];exact HS.out⟩))
    obtain⟨f2,hf2⟩:∃f,f=m2.fin:=⟨_,rfl⟩
    rw[←hf2] at c7
    clear hf2
    go_wp2
    go_ret
    exact HFIN.out
end
def zcu(a ev kp:Int)(img:List Int)(b:List UInt8)(cnt:Int)(zs:List Int)(w:World)(e:Ending)(w':World):Prop:=
 Below w.heap.size w w' ∧
 ((∃ c, c ≠ 0 ∧ e = .returned (.tuple #[.slice none 0 0, .int .i64 c]) ∧
   ((¬zaT a ev kp∧c=2)∨(zaT a ev kp∧∃l,ChkR img b cnt c l)∨(zaT a ev kp∧∃l,ChkR img b cnt 0 l∧((c=2∧∃z∈zs,z<0∨cnt<z)∨(c=7∧a<16*(kp+2)))))) ∨
  (zaT a ev kp∧∃L,ChkR img b cnt 0 L∧(∀z∈zs,0≤z∧z≤cnt)∧∃va ca l,OutsR w.heap.size w' (.slice va zs.length ca) l∧l.map (·.m)=zs.map (fun z=>runM L (zas img) z.toNat)∧e=.returned (.tuple #[.slice va zs.length ca,.int .i64 0])))
structure SkL(K:DkC)(w:World)(zs:List Int)(k:Nat)(v:Value)(wr:World)(l:List MG):Prop where
 outs:OutsR w.heap.size wr v l
 ms:l.map (·.m)=(zs.take k).map (fun z=>runM K.L (zas K.img) z.toNat)
 rng:∀z∈zs.take k,0≤z∧z≤K.cnt
 dk:∃W m i wr',DkS (K.px ⟨OB v l,W⟩) m i wr' wr
theorem zh2{zs:List Int}{k:Nat}(h:k<zs.length):zs.take (k+1)=zs.take k++[zs[k]]:=List.take_succ_eq_append_getElem h
theorem SkL.len{K:DkC}{w wr:World}{zs:List Int}{k:Nat}{v:Value}{l:List MG}(h:SkL K w zs k v wr l)(hk:k≤zs.length):l.length=k:=by
 have:=congrArg List.length h.ms
 rw[List.length_map,List.length_map,List.length_take] at this
 omega
theorem SkL.next{K:DkC}{w w3 w4 w5 W wr:World}{zs:List Int}{k:Nat}{v:Value}{l:List MG}{m2:Mach}{j:Nat}{wrj z:Int}{x:MG}{g cap:Nat}(h:SkL K w zs k v wr l)(hlen:l.length=k)(hd3:DkS (K.px ⟨OB v l,W⟩) m2 j wrj w3)(ho3:OutsR w.heap.size w3 v l)(hb4:Below w3.heap.size w3 w4)(hx:MGR w3.heap.size w4 x)(hxm:x.m=runM K.L (zas K.img) z.toNat)(hw:w.heap.size≤w3.heap.size)(htk:zs.take (k+1)=zs.take k++[z])(hr:0≤z∧z≤K.cnt)(hown:w5.ownsRow w.heap.size 48 12 (.slice (some ⟨g,0,none⟩) (k+1) cap) (k+1) (l.flatMap MG.cells++x.cells))(hg:w4.grownBy w5 v.ownBlock)(hn:v.ownBlock=some g∨w4.heap.size<g):SkL K w zs (k+1) (.slice (some ⟨g,0,none⟩) (k+1) cap) w5 (l++[x]):=by
 have ho4:=ho3.below hb4
 have hx5:MGR w.heap.size w5 x:=(hx.low hw).stay (fun q hq=>hg.block q (hx.lt hq).2 (fun e=>absurd (zaL (hx.ty hq) (zaD ho4.row e.symm)) (by decide)))
 have hle:(l++[x]).length=k+1:=by rw[List.length_append,hlen];rfl
 have ho5:=ho4.push hx5 hg (by rw[hlen];exact hown)
 rw[hle] at ho5
 refine⟨ho5,?_,?_,w5,m2,j,wrj,hd3.px (w':=w5) ((OutF.of hb4 _).grown hg (fun q hq=>Or.inl (Or.inl hq))) ⟨OB (.slice (some ⟨g,0,none⟩) (k+1) cap) (l++[x]),w5⟩ ho5.px (fun q hq=>?_)⟩
 ·rw[htk,List.map_append,List.map_append,h.ms,List.map_singleton,List.map_singleton,hxm]
 ·
  intro y hy
  rw[htk] at hy
  rcases List.mem_append.1 hy with hy|hy
  ·exact h.rng y hy
  ·rw[List.mem_singleton.1 hy];exact hr
 ·
  rcases hq with hq|⟨y,hy,hq⟩
  ·
   have e:g=q:=by injection hq
   subst e
   rcases hn with hn|hn
   ·exact Or.inl (Or.inl hn)
   ·exact Or.inr (by have:=hb4.size;omega)
  ·
   rcases List.mem_append.1 hy with hy|hy
   ·exact Or.inl (Or.inr ⟨y,hy,hq⟩)
   ·
    rw[List.mem_singleton.1 hy] at hq
    exact Or.inr (hx.lt hq).1
theorem zgA{w:World}{a ev kp cnt:Int}{img:List Int}{b:List UInt8}{vi vb vz:Value}{zs:List Int}(ht:Tab w)(hi:Ints w.heap.size w vi img)(hb:BytesR w.heap.size w vb b)(hc:I64 cnt)(hz:Ints w.heap.size w vz zs)(hzs:zs.length≤1000000000000):Calls Tryd.prog 4 #[.agg #[.int .i64 a,.int .i64 ev,.int .i64 kp],.agg #[vi,vb,.int .i64 cnt],vz] w (zcu a ev kp img b cnt zs w):=by
 obtain⟨ai,ci,rfl,_⟩:=id hi
 obtain⟨ab,cb,rfl,_⟩:=id hb
 obtain⟨az,cz,rfl,hzl,hzc,_⟩:=id hz
 have HI:=Lib.hid hi
 have HB:=Lib.hid hb
 have HZ:=Lib.hid hz
 have HT:=Lib.hid ht
 have HC:=Lib.hid hc
 clear ht hi hb hc hz
 go_enter Tryd.func4,Tryd.ntmps4
 go_upto_region 2 with fail
 have HBA:=Lib.hid (below_alloc3 w (.cells #[.int .i64 a,.int .i64 ev,.int .i64 kp] 23 (0,0)) (.cells #[.slice ai img.length ci,.slice ab b.length cb,.int .i64 cnt] 27 (0,0)) (.cells #[.int .i64 0,.int .i64 0,.int .i64 0,.slice none 0 0,.slice none 0 0,.int .i64 0,.slice none 0 0,.pointer none,.pointer none,.pointer none,.slice none 0 0,.slice none 0 0] 44 (0,0)))
 obtain⟨w1,hw1⟩:∃W,W=(((w.alloc (.cells #[.int .i64 a,.int .i64 ev,.int .i64 kp] 23 (0,0))).alloc (.cells #[.slice ai img.length ci,.slice ab b.length cb,.int .i64 cnt] 27 (0,0))).alloc (.cells #[.int .i64 0,.int .i64 0,.int .i64 0,.slice none 0 0,.slice none 0 0,.int .i64 0,.slice none 0 0,.pointer none,.pointer none,.pointer none,.slice none 0 0,.slice none 0 0] 44 (0,0))):=⟨_,rfl⟩
 have HX0:=Lib.hid (show w1.heap[w.heap.size]?=some (.cells #[.int .i64 a,.int .i64 ev,.int .i64 kp] 23 (0,0)) from by rw[hw1];exact(zaj (by simp;omega)).trans ((zaj (by simp)).trans (alloc_at rfl)))
 have HX1:=Lib.hid (show w1.heap[w.heap.size+1]?=some (.cells #[.slice ai img.length ci,.slice ab b.length cb,.int .i64 cnt] 27 (0,0)) from by rw[hw1];exact(zaj (by simp)).trans (alloc_at (by simp)))
 have HX2:=Lib.hid (show w1.heap[w.heap.size+1+1]?=some (.cells #[.int .i64 0,.int .i64 0,.int .i64 0,.slice none 0 0,.slice none 0 0,.int .i64 0,.slice none 0 0,.pointer none,.pointer none,.pointer none,.slice none 0 0,.slice none 0 0] 44 (0,0)) from by rw[hw1];exact alloc_at (by simp))
 rw[←hw1] at HBA ⊢
 obtain⟨db,hdb⟩:∃g,g=w.heap.size+1+1:=⟨_,rfl⟩
 obtain⟨gt,hgt⟩:∃g,g=w.heap.size+1:=⟨_,rfl⟩
 obtain⟨gs,hgs⟩:∃g,g=w.heap.size:=⟨_,rfl⟩
 have HDL:=Lib.hid (show w.heap.size≤db from by omega)
 rw[←hdb] at HX2 ⊢
 rw[←hgt] at HX1 ⊢
 rw[←hgs] at HX0 ⊢
 clear hw1 hdb hgt hgs
 have x0:w1.cell? ⟨gs,0,none⟩=some (.int .i64 a):=zaa HX0.out 0
 have x1:w1.cell? ⟨gs,1,none⟩=some (.int .i64 ev):=zaa HX0.out 1
 have x2:w1.cell? ⟨gs,2,none⟩=some (.int .i64 kp):=zaa HX0.out 2
 have y0:w1.cell? ⟨gt,0,none⟩=some (.slice ai img.length ci):=zaa HX1.out 0
 have y1:w1.cell? ⟨gt,1,none⟩=some (.slice ab b.length cb):=zaa HX1.out 1
 have y2:w1.cell? ⟨gt,2,none⟩=some (.int .i64 cnt):=zaa HX1.out 2
 have lgs:gs<w1.heap.size:=(Array.getElem?_eq_some_iff.1 HX0.out).1
 have lgt:gt<w1.heap.size:=(Array.getElem?_eq_some_iff.1 HX1.out).1
 have HOUT:=Lib.hid (fun (W:World) (h:OutF (fun g=>g=db) w1 W)=>(HBA.out.trans ((h.below (B:=w.heap.size) (fun g e=>by rw[e];exact HDL.out) HBA.out.size)):Below w.heap.size w W))
 have HOP:=Lib.hid (zh0 (a:=a) (ev:=ev) (kp:=kp) HX2.out (HT.out.to HBA.out) (HI.out.to HBA.out.size (zae HBA.out)) (fun W hW=>HI.out.to (HOUT.out W hW).size (zae (HOUT.out W hW))) (HB.out.to HBA.out.size (zae HBA.out)) HC.out)
 clear HI HB HT HC HX0 HX1 HX2
 go_wp2_with fail
 refine HOP.out.mono ?_
 rintro e w2 (⟨c,hc0,rfl,hb2,hr⟩|⟨hs,L,K,hck,hK,k1,k2,k3,k4,k5,k6,k7,hB,hbeg⟩)
 ·
  have hcb:(c != 0)=true:=by simpa using hc0
  have HFIN:=Lib.hid (show zcu a ev kp img b cnt zs w (.returned (.tuple #[.slice none 0 0,.int .i64 c])) w2 from ⟨HBA.out.trans (hb2.mono HBA.out.size),Or.inl ⟨c,hc0,rfl,by rcases hr with h|h;exact Or.inl h;exact Or.inr (Or.inl h)⟩⟩)
  clear hc0 hb2 hr x0 x1 x2 y0 y1 y2 lgs lgt
  go_wp2
  go_ret2
  exact HFIN.out
 have HS:=Lib.hid hs
 have HCK:=Lib.hid hck
 have HK:=Lib.hid hK
 have K1:=Lib.hid k1
 have K2:=Lib.hid k2
 have K4:=Lib.hid k4
 have K5:=Lib.hid k5
 have K6:=Lib.hid k6
 have K7:=Lib.hid k7
 have HBK:=Lib.hid hB
 clear hs hck hK k1 k2 k3 k4 k5 k6 k7 hB x0 x1 x2 y0 y1 y2 lgs lgt HOP
 have HBW:=Lib.hid (fun (W:World) (h:OutF (fun g=>g=K.db) K.w1 W)=>((HBA.out.trans (HBK.out.mono HBA.out.size)).trans (h.below (B:=w.heap.size) (fun g e=>by rw[e,K1.out];exact HDL.out) (Nat.le_trans HBA.out.size HBK.out.size)):Below w.heap.size w W))
 rcases hbeg with⟨rfl,hd⟩|⟨rfl,h7,ho⟩
 rotate_left
 ·
  have HFIN:=Lib.hid (show zcu a ev kp img b cnt zs w (.returned (.tuple #[.slice none 0 0,.int .i64 7])) w2 from ⟨HBW.out w2 ho,Or.inl ⟨7,by decide,rfl,Or.inr (Or.inr ⟨HS.out,L,HCK.out,Or.inr ⟨rfl,by rw[K2.out,K4.out,Int.toNat_of_nonneg HS.out.1] at h7;exact h7⟩⟩)⟩⟩)
  clear h7 ho
  go_wp2
  go_ret2
  exact HFIN.out
 have HL0:=Lib.hid (show SkL K w zs 0 (.slice none 0 0) w2 [] from ⟨OutsR.nil _ _,rfl,fun z hz=>by simp at hz,w2,_,_,_,hd.px (OutF.refl _ _) _ (OutsR.nil 0 w2).px (fun g hg=>by
  rcases hg with q|⟨x,hx,_⟩
  ·simp[Value.ownBlock] at q
  ·cases hx)⟩)
 clear hd
 go_wp2_with fail
 go_loopg [10,12,13,25] zs.length (fun gh s10 s12 s13 s25 wr =>∃(k:Nat) (va:Option Addr) (ca:Nat) (l:List MG),k≤zs.length∧gh=zs.length-k∧s25=.int .i64 k∧s10=.slice va k ca∧Hid (SkL K w zs k (.slice va k ca) wr l))
 case atStart=>exact⟨0,none,0,[],Nat.zero_le _,by omega,rfl,rfl,HL0⟩
 case round=>
  clear HL0
  obtain⟨k,va,ca,l,hk,rfl,rfl,rfl,HL⟩:=hrel
  obtain⟨W,m,i,wr',hd⟩:=HL.out.dk
  have HD:=Lib.hid hd
  have HBR:=Lib.hid (HBW.out wr hd.out)
  clear hd
  by_cases hlt:k<zs.length
  ·
   obtain⟨_,_,hv,_,_,hcl⟩:=HZ.out
   injection hv with q1 q2 q3
   subst q1 q3
   obtain⟨bz,oz,vz,rfl,hbz,hcz,rfl,hz64⟩:=hcl k hlt
   have HTK:=Lib.hid (zh2 hlt)
   rw[←zae HBR.out _ _ hbz] at hcz
   have hbw:bz<wr.heap.size:=Nat.lt_of_lt_of_le hbz HBR.out.size
   clear hcl
   generalize zs[k]=z at *
   have hll2:(k:Int)<(zs.length:Int):=by omega
   have HSK:=Lib.hid (show Calls Tryd.prog 9 #[.pointer (some ⟨db,0,none⟩),.int .i64 z] wr (zct (K.px ⟨OB (.slice va k ca) l,W⟩) z) from by rw[←K1.out];exact zh1 (HK.out.px _) HD.out z hz64)
   clear hz64
   go_wp2_with fail
   refine HSK.out.mono ?_
   rintro e w3 (⟨hr,rfl,ho⟩|⟨h0,h1,rfl,j,wrj,hs⟩|⟨h0,h1,rfl,h7,ho⟩)
   ·
    have HFIN:=Lib.hid (show zcu a ev kp img b cnt zs w (.returned (.tuple #[.slice none 0 0,.int .i64 2])) w3 from ⟨HBW.out w3 ho,Or.inl ⟨2,by decide,rfl,Or.inr (Or.inr ⟨HS.out,L,HCK.out,Or.inl ⟨rfl,z,by
     have:z∈zs.take (k+1):=by rw[HTK.out];simp
     exact List.mem_of_mem_take this,by rw[←K5.out];exact hr⟩⟩)⟩⟩)
    clear hr ho hcz
    go_wp2
    go_ret2
    exact HFIN.out
   ·
    obtain⟨m2,hm2⟩:∃m2,m2=runM K.L (zas K.img) z.toNat:=⟨_,rfl⟩
    have hs2:DkS (K.px ⟨OB (.slice va k ca) l,W⟩) m2 j wrj w3:=by rw[hm2];exact hs
    have HD3:=Lib.hid hs2
    have HM2:=Lib.hid hm2
    have HR3:=Lib.hid (show 0≤z∧z≤K.cnt from ⟨h0,h1⟩)
    have HO3:=Lib.hid (show OutsR w.heap.size w3 (.slice va k ca) l from HL.out.outs.stay (fun g hg=>(HD3.out.pxo.k g hg).trans (HD.out.pxo.k g hg).symm))
    have HLN:=Lib.hid (HL.out.len hk)
    have hw3:w.heap.size≤w3.heap.size:=(HBW.out w3 HD3.out.out).size
    obtain⟨cb,gr,cr,sb,al,nl,cl,LL,ao,co,F,ap,cp,pts,hdk⟩:=hs2
    have HOK:=Lib.hid (hdk.ok (HK.out.px _))
    have hgu:=zgE (HK.out.px _) hdk
    rw[show (K.px ⟨OB (.slice va k ca) l,W⟩).db=db from K1.out] at hgu
    have HGU:=Lib.hid hgu
    clear hs hm2 hdk h0 h1 hcz hgu HSK
    go_wp2_with fail
    refine HGU.out.mono ?_
    rintro e w4 ⟨ar2,cr2,a4,c4,ao2,co2,rfl,hgr,hgm,hgo,hb4⟩
    have HX4:=Lib.hid (show MGR w3.heap.size w4 ⟨m2,ar2,cr2,a4,c4,ao2,co2⟩ from ⟨hgr,hgm,hgo,HOK.out⟩)
    have HB4:=Lib.hid hb4
    have HROW:=Lib.hid (show w4.ownsRow w.heap.size 48 12 (.slice va k ca) k (l.flatMap MG.cells) from by have h:=(HO3.out.below hb4).row;rw[HLN.out] at h;exact h)
    have hw4:w.heap.size≤w4.heap.size:=Nat.le_trans hw3 hb4.size
    clear hgr hgm hgo hb4 HGU HOK
    go_wp2_with (at_builtin;go_loud (refine za7 w4 rfl (.tmp 35) (.tmp 38) 28 rfl w.heap.size 48 (.agg #[.slice none 0 0,.int .i64 0,.int .i64 0,.bool false,.bool false,.int .i64 0,.int .i64 0,.int .i64 0,.slice none 0 0,.slice none 0 0,.int .i64 0,.int .i64 0]) 12 136 Tryd.underlying28 zc4 rfl (by decide) [.slice ar2 m2.regs.length cr2,.int .i64 m2.pc,.int .i64 m2.back,.bool m2.ints,.bool m2.wait,.int .i64 m2.table,.int .i64 m2.count,.int .i64 m2.fin,.slice a4 m2.mem.length c4,.slice ao2 m2.out.length co2,.int .i64 m2.ready,.int .i64 m2.want] rfl (by simp[Value.oneCell']) _ _ _ (by rfl) HROW.out (by rfl) rfl (by omega) (by omega) (by omega) ?_);intro g5 cp5 w5 hown5 hgrow5 hn5;have HW5:=Lib.hid hown5;have HG5:=Lib.hid hgrow5;have HN5:=Lib.hid hn5;clear hown5 hgrow5 hn5)
    have hwr:IntKind.i64.wrap ((k:Int)+1)=((k+1:Nat):Int):=by rw[IntWalk.i64_in _ (by omega)];rfl
    go_roundg (zs.length-(k+1))
    case measure=>omega
    case rel=>exact⟨k+1,_,_,_,by omega,rfl,by go_num,rfl,Lib.hid (HL.out.next HLN.out HD3.out HO3.out HB4.out HX4.out HM2.out hw3 HTK.out HR3.out HW5.out HG5.out HN5.out)⟩
   ·
    have HFIN:=Lib.hid (show zcu a ev kp img b cnt zs w (.returned (.tuple #[.slice none 0 0,.int .i64 7])) w3 from ⟨HBW.out w3 ho,Or.inl ⟨7,by decide,rfl,Or.inr (Or.inr ⟨HS.out,L,HCK.out,Or.inr ⟨rfl,by
     have h8:(K.N:Int)<16*(K.kp+2):=h7
     rw[K2.out,K4.out,Int.toNat_of_nonneg HS.out.1] at h8;exact h8⟩⟩)⟩⟩)
    clear h7 ho hcz
    go_wp2
    go_ret2
    exact HFIN.out
  ·
   have hll2:¬(k:Int)<(zs.length:Int):=by omega
   obtain rfl:k=zs.length:=by omega
   have HFIN:=Lib.hid (show zcu a ev kp img b cnt zs w (.returned (.tuple #[.slice va zs.length ca,.int .i64 0])) wr from ⟨HBR.out,Or.inr ⟨HS.out,L,HCK.out,fun z hz=>by rw[←K5.out];exact HL.out.rng z (by rw[List.take_length];exact hz),va,ca,l,HL.out.outs,by rw[←K7.out,←K6.out];have h:=HL.out.ms;rw[List.take_length] at h;exact h,rfl⟩⟩)
   clear HL HD
   go_wp2
   go_ret2
   exact HFIN.out
end Go.Proofs.YtflonfcemlfbdaaDoor
