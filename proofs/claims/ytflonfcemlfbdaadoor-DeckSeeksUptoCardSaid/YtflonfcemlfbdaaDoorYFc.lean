/- Several texts joined, each with its own heading in the notes: The contract of frames. Contracts of frames. The contract of frames. The contract of the reference's SharedOf. No condition beyond those of each row. -/
import Derived.Test.YtflonfcemlfbdaaDoorYCl
import Derived.Test.YtflonfcemlfbdaaDoorYFr2
import Derived.Test.YtflonfcemlfbdaaDoorYMem
import Derived.IntWalk
namespace Go.Proofs.YtflonfcemlfbdaaDoor
open Go Go.RowKit Go.ChangeShapes Go.WideShapes Go.Deep
set_option maxHeartbeats 4000000
set_option maxRecDepth 100000
set_option linter.unusedVariables false
attribute [local go_sem ↓] Go.wp_at_zero Go.wp_at_succ
def zeZ(base:Nat)(w:World)(vr:Value)(rs:List (List Int))(k:Nat)(vs:List Value):Prop:=
 ∀j,j<k→w.ownsRow base 3 1 (vs.getD j undef) (rs.getD j []).length ((rs.getD j []).map (Value.int .i64))∧Apart (vs.getD j undef) vr∧Apart vr (vs.getD j undef)∧∀i,i<k→i≠j→Apart (vs.getD j undef) (vs.getD i undef)
structure FrOwn(base:Nat)(w:World)(vd vr:Value)(rs:List (List Int))(zs:List Int)(vs:List Value):Prop where
 len:vs.length=rs.length
 d:w.ownsRow base 24 1 vd rs.length vs
 r:w.ownsRow base 3 1 vr zs.length (zs.map (Value.int .i64))
 rows:zeZ base w vr rs rs.length vs
def zee(w:World)(rs:List (List Int))(zs:List Int)(e:Ending)(w':World):Prop:=∃ad cd ar cr vs,e=.returned (.agg #[.slice ad rs.length cd,.slice ar zs.length cr])∧FrOwn w.heap.size w' (.slice ad rs.length cd) (.slice ar zs.length cr) rs zs vs∧Below w.heap.size w w'
theorem RowsR.vals{B:Nat}{w:World}{v:Value}{rs:List (List Int)}(h:RowsR B w v rs):∃vs:List Value,vs.length=rs.length∧SlV 5864062014634 B w v vs∧(∀j (hj:j<vs.length) (hj':j<rs.length),Ints B w vs[j] rs[j]):=by
 obtain⟨a,cap,rfl,hl,hl2,hc⟩:=h
 have hex:∃vs:List Value,vs.length=rs.length∧∀j (hj:j<vs.length) (hj':j<rs.length),(∃b off,a=some ⟨b,off,none⟩∧b<B∧w.cell? ⟨b,off+j,none⟩=some vs[j])∧Ints B w vs[j] rs[j]:=by
  clear hl hl2
  have:∀n,n≤rs.length→∃vs:List Value,vs.length=n∧∀j (hj:j<vs.length) (hj':j<rs.length),(∃b off,a=some ⟨b,off,none⟩∧b<B∧w.cell? ⟨b,off+j,none⟩=some vs[j])∧Ints B w vs[j] rs[j]:=by
   intro n
   induction n with
   | zero=>exact fun _=>⟨[],rfl,fun j hj=>absurd hj (Nat.not_lt_zero _)⟩
   | succ n ih=>
    intro hn
    obtain⟨vs,h1,h2⟩:=ih (by omega)
    obtain⟨b,off,vi,ha,hb,hcell,hvi⟩:=hc n (by omega)
    refine⟨vs++[vi],by simp[h1],fun j hj hj'=>?_⟩
    by_cases hjn:j<n
    ·
     rw[List.getElem_append_left (by omega)]
     exact h2 j (by omega) hj'
    ·
     obtain rfl:j=n:=by simp[h1] at hj;omega
     have e:(vs++[vi])[j]'hj=vi:=by subst h1;simp
     rw[e]
     exact⟨⟨b,off,ha,hb,hcell⟩,hvi⟩
  exact this _ (Nat.le_refl _)
 obtain⟨vs,h1,h2⟩:=hex
 refine⟨vs,h1,⟨a,cap,by rw[h1],by omega,by omega,fun i hi=>?_⟩,fun j hj hj'=>(h2 j hj hj').2⟩
 obtain⟨⟨b,off,ha,hb,hcell⟩,_⟩:=h2 i hi (by omega)
 exact⟨b,off,vs[i],ha,hb,hcell,rfl⟩
theorem Ints.one{B:Nat}{w:World}{v:Value}{zs:List Int}(h:Ints B w v zs):v.oneCell'=true:=by
 obtain⟨a,cap,rfl,_⟩:=h
 rfl
def FCut(w:World)(rs:List (List Int))(zs:List Int)(vs:List Value)(wx:World):Prop:=∃ad cd ar cr,wx.heap[w.heap.size]?=some (.cells #[.slice ad rs.length cd,.slice ar zs.length cr] 60 (0,0)) ∧
 wx.heap[w.heap.size+1]?=some (.cells #[.slice none 0 0,.slice none 0 0] 60 (0,0)) ∧
 wx.ownsRow w.heap.size 24 1 (.slice ad rs.length cd) rs.length vs∧wx.ownsRow w.heap.size 3 1 (.slice ar zs.length cr) zs.length (zs.map (Value.int .i64))∧Below w.heap.size w wx
theorem zgj {w W2 W2' w1 w2 : World} {rs : List (List Int)} {zs : List Int} {vs : List Value} {vd vr : Value} {a1 a2 : Option Addr} {c1 c2 : Nat} (hd : W2' = W2.drew) (hs0 : W2.heap.size = w.heap.size + 2) (hb0 : Below w.heap.size w W2)
  (hx2:W2.heap[w.heap.size+1]?=some (.cells #[.slice none 0 0,.slice none 0 0] 60 (0,0))) (hx3:w2.heap[w.heap.size]?=some (.cells #[vd,vr] 60 (0,0)))
  (h1:w1.ownsRow W2'.heap.size 24 1 (.slice a1 rs.length c1) rs.length vs) (k1:Below W2'.heap.size W2' w1)
  (h2:w2.ownsRow w1.heap.size 3 1 (.slice a2 zs.length c2) zs.length (zs.map (Value.int .i64))) (k2:Below w1.heap.size w1 w2):
  FCut w rs zs vs ((w2.setCell ⟨w.heap.size,0,none⟩ (.slice a1 rs.length c1)).setCell ⟨w.heap.size,1,none⟩ (.slice a2 zs.length c2)):=by
 subst hd
 have s0:W2.drew.heap.size=w.heap.size+2:=hs0
 have s1:=k1.size
 have s2:=k2.size
 have y2:=zac k2 (zac k1 hx2 (by omega)) (by omega)
 have o1:=own_below (zar h1 (b':=w.heap.size) (by omega)) k2 (Nat.le_refl _)
 have o2:=zar h2 (b':=w.heap.size) (by omega)
 refine⟨a1,c1,a2,c2,?_,?_,?_,?_,?_⟩
 ·simpa using zaf (zaf hx3 (i:=0) (.slice a1 rs.length c1)) (i:=1) (.slice a2 zs.length c2)
 ·exact zah (zah y2 (by omega) _) (by omega) _
 ·exact zao (zao o1 (zad o1 hx3 (by decide)) _) (zad o1 hx3 (by decide)) _
 ·exact zao (zao o2 (zad o2 hx3 (by decide)) _) (zad o2 hx3 (by decide)) _
 ·exact((((hb0.drew.trans (k1.mono (by omega))).trans (k2.mono (by omega))).setCell (by simp) _).setCell (by simp) _)
theorem zaF{w:World}{b:Nat}{t:TypeId}{sz:Nat}{a:Option Addr}{n c:Nat}{xs:List Value}(h:w.ownsRow b t sz (.slice a n c) n xs)(hn:0<n):∃g cur,a=some ⟨g,0,none⟩∧b≤g∧w.heap[g]?=some (.cells cur t (0,0))∧n≤c:=by
 rcases h.2 with⟨_,h0⟩|⟨g,cap,cur,hv,hg,hh,hc,_⟩
 ·omega
 ·
  simp only[Value.slice.injEq] at hv
  obtain⟨rfl,_,rfl⟩:=hv
  exact⟨g,cur,rfl,hg,hh,hc⟩
def ziO(w:World)(rs:List (List Int))(zs:List Int)(vs0:List Value)(vd vr:Value)(k:Nat)(wr:World):Prop:=∃vs:List Value,vs.length=rs.length ∧
 wr.heap[w.heap.size]?=some (.cells #[vd,vr] 60 (0,0))∧wr.heap[w.heap.size+1]?=some (.cells #[.slice none 0 0,.slice none 0 0] 60 (0,0)) ∧
 wr.ownsRow w.heap.size 24 1 vd rs.length vs∧wr.ownsRow w.heap.size 3 1 vr zs.length (zs.map (Value.int .i64))∧zeZ w.heap.size wr vr rs k vs∧(∀j,k≤j→vs.getD j undef=vs0.getD j undef)∧Below w.heap.size w wr
theorem zgk {w wr wr' w1 : World} {rs : List (List Int)} {zs : List Int} {vs0 : List Value} {vr : Value} {g cd k : Nat} {a1 : Option Addr} {c1 : Nat} {row : List Int} (hrow : rs.getD k [] = row) (hd : wr' = wr.drew) (hk : k < rs.length)
  (h:ziO w rs zs vs0 (.slice (some ⟨g,0,none⟩) rs.length cd) vr k wr) (h1:w1.ownsRow wr'.heap.size 3 1 (.slice a1 row.length c1) row.length (row.map (Value.int .i64))) (k1:Below wr'.heap.size wr' w1):
  ziO w rs zs vs0 (.slice (some ⟨g,0,none⟩) rs.length cd) vr (k+1) (w1.setCell ⟨g,k,none⟩ (.slice a1 row.length c1)):=by
 subst hrow
 subst hd
 obtain⟨vs,hl,hx,hy,hd,hr,hrows,hrest,hb⟩:=h
 have s0:wr.drew.heap.size=wr.heap.size:=rfl
 have s1:=k1.size
 have s2:=hb.size
 rw[s0] at s1 h1 k1
 have x1:=zac k1 hx (Array.getElem?_eq_some_iff.1 hx).1
 have y1:=zac k1 hy (Array.getElem?_eq_some_iff.1 hy).1
 have d1:=own_below (w:=wr.drew) hd k1 (Nat.le_refl _)
 have r1:=own_below (w:=wr.drew) hr k1 (Nat.le_refl _)
 obtain⟨g',cur,hg',hbg,hblk,_⟩:=zaF d1 (by omega)
 simp only[Option.some.injEq,Addr.mk.injEq,and_true] at hg'
 subst hg'
 have hne:w.heap.size≠g:=by
  intro e;subst e;rw[hblk] at x1;simp at x1
 have hne2:w.heap.size+1≠g:=by
  intro e;subst e;rw[hblk] at y1;simp at y1
 have keep:∀{v:Value} {n:Nat} {xs:List Value},w1.ownsRow w.heap.size 3 1 v n xs→(w1.setCell ⟨g,k,none⟩ (.slice a1 (rs.getD k []).length c1)).ownsRow w.heap.size 3 1 v n xs:=fun h=>zao h (zad h hblk (by decide)) _
 have n1:=zar h1 (b':=w.heap.size) (by omega)
 have getk:(vs.set k (.slice a1 (rs.getD k []).length c1)).getD k undef=.slice a1 (rs.getD k []).length c1:=by simp[List.getD,hl,hk]
 have getj:∀j,j≠k→(vs.set k (.slice a1 (rs.getD k []).length c1)).getD j undef=vs.getD j undef:=fun j hj=>by simp[List.getD,Ne.symm hj]
 refine⟨vs.set k (.slice a1 (rs.getD k []).length c1),by simpa using hl,zah x1 hne _,zah y1 hne2 _,(d1.stored k _).1,keep r1,?_,?_,(hb.drew.trans (k1.mono s2)).setCell hbg _⟩
 ·
  intro j hj
  by_cases hjk:j=k
  ·
   subst hjk
   rw[getk]
   have A1:=zaQ (w:=wr.drew) hr h1 (Nat.le_refl _)
   refine⟨keep n1,A1.2,A1.1,fun i hi hij=>?_⟩
   rw[getj i hij]
   exact(zaQ (w:=wr.drew) (hrows i (by omega)).1 h1 (Nat.le_refl _)).2
  ·
   obtain⟨q1,q2,q3,q4⟩:=hrows j (by omega)
   rw[getj j hjk]
   refine⟨keep (own_below (w:=wr.drew) q1 k1 (Nat.le_refl _)),q2,q3,fun i hi hij=>?_⟩
   by_cases hik:i=k
   ·
    subst hik
    rw[getk]
    exact(zaQ (w:=wr.drew) q1 h1 (Nat.le_refl _)).1
   ·
    rw[getj i hik]
    exact q4 i (by omega) hij
 ·
  intro j hj
  rw[getj j (by omega)]
  exact hrest j (by omega)
theorem zhy {w wr : World} {rs : List (List Int)} {zs : List Int} {vs : List Value} {a1 a2 : Option Addr} {c1 c2 : Nat} (hl : vs.length = rs.length)
  (hy:wr.heap[w.heap.size+1]?=some (.cells #[.slice none 0 0,.slice none 0 0] 60 (0,0))) (hd:wr.ownsRow w.heap.size 24 1 (.slice a1 rs.length c1) rs.length vs) (hr:wr.ownsRow w.heap.size 3 1 (.slice a2 zs.length c2) zs.length (zs.map (Value.int .i64)))
  (hrows:zeZ w.heap.size wr (.slice a2 zs.length c2) rs rs.length vs) (hb:Below w.heap.size w wr):
  zee w rs zs (.returned (.agg #[.slice a1 rs.length c1,.slice a2 zs.length c2])) ((wr.setCell ⟨w.heap.size+1,0,none⟩ (.slice a1 rs.length c1)).setCell ⟨w.heap.size+1,1,none⟩ (.slice a2 zs.length c2)):=by
 have keep:∀{e:TypeId} {v:Value} {n:Nat} {xs:List Value},e≠60→wr.ownsRow w.heap.size e 1 v n xs→((wr.setCell ⟨w.heap.size+1,0,none⟩ (.slice a1 rs.length c1)).setCell ⟨w.heap.size+1,1,none⟩ (.slice a2 zs.length c2)).ownsRow w.heap.size e 1 v n xs:=fun he h=>zao (zao h (zad h hy he) _) (zad h hy he) _
 exact⟨a1,c1,a2,c2,vs,rfl,⟨hl,keep (by decide) hd,keep (by decide) hr,fun j hj=>⟨keep (by decide) (hrows j hj).1,(hrows j hj).2⟩⟩,(hb.setCell (by simp) _).setCell (by simp) _⟩
theorem zdG (v : Value) (vs : List Value) (n : Nat) (hn : vs.length = n) (w : World) (hv : SlV 5864062014634 w.heap.size w v vs) (hone : ∀ u ∈ vs, u.oneCell' = true) :
  Calls Tryd.prog 82 #[v] w fun e w' =>∃a c,e=.returned (.slice a n c)∧w'.ownsRow w.heap.size 24 1 (.slice a n c) n vs∧Below w.heap.size w w':=
 (zfY v vs w hv hone).mono fun e w' ⟨u,he,ho,hb⟩=>by
  rw[hn] at ho
  obtain⟨a,c,rfl⟩:=zaY ho
  exact⟨a,c,he,ho,hb⟩
theorem zef(v:Value)(rs:List (List Int))(zs:List Int)(w:World)(hf:FramesR w.heap.size w v rs zs):Calls Tryd.prog 76 #[v] w (zee w rs zs):=by
 obtain⟨vd,vr,rfl,hd,hr⟩:=hf
 obtain⟨vs0,hl0,hvs0,hrow0⟩:=hd.vals
 obtain⟨ad,cd,hvd,_⟩:=id hd
 obtain⟨ar,cr,hvr,_⟩:=id hr
 subst hvd hvr
 have HD:=Lib.hid hvs0
 have HR:=Lib.hid hr
 have HL:=Lib.hid hl0
 have HW:=Lib.hid hrow0
 have HO1:Hid (∀u∈vs0,u.oneCell'=true):=Lib.hid (by
  intro u hu
  obtain⟨j,hj,rfl⟩:=List.mem_iff_getElem.1 hu
  exact(hrow0 j hj (by omega)).one)
 clear hd hvs0 hl0 hrow0 hr
 go_enter Tryd.func76,Tryd.ntmps76
 go_upto_region 1 with fail
 generalize hW:(w.alloc _).alloc _=W2
 have hx1:W2.heap[w.heap.size]?=some (.cells #[.slice ad rs.length cd,.slice ar zs.length cr] 60 (0,0)):=by rw[←hW];exact(zaj (by simp)).trans (alloc_at rfl)
 have hx2:W2.heap[w.heap.size+1]?=some (.cells #[.slice none 0 0,.slice none 0 0] 60 (0,0)):=by rw[←hW];exact alloc_at (by simp)
 have hb0:Below w.heap.size w W2:=by rw[←hW];exact below_alloc2 _ _ _
 have hs0:W2.heap.size=w.heap.size+2:=by rw[←hW];simp
 clear hW
 have c00:W2.cell? ⟨w.heap.size,0,none⟩=some (.slice ad rs.length cd):=zaa hx1 0
 have c01:W2.cell? ⟨w.heap.size,1,none⟩=some (.slice ar zs.length cr):=zaa hx1 1
 have HX1:=Lib.hid hx1
 have HX2:=Lib.hid hx2
 have HS0:=Lib.hid hs0
 clear hx1 hx2 hs0
 go_cut [] (fun wx=>FCut w rs zs vs0 wx)
 case first=>
  go_region_with (first
   | (go_at_call 82;refine(zdG _ vs0 rs.length HL.out _ ?_ HO1.out).mono ?_;(exact HD.out.to (Nat.le_refl _) (by have:=HS0.out;simp;omega) (zae hb0.drew) (fun _ _ h=>h));rintro e w1 ⟨a1,cc1,rfl,hown1,hb1⟩;have HX11:=Lib.hid (zac hb1 HX1.out (by have:=HS0.out;simp;omega));have c10:w1.cell? ⟨w.heap.size,0,none⟩=some (.slice ad rs.length cd):=zaa HX11.out 0;have c11:w1.cell? ⟨w.heap.size,1,none⟩=some (.slice ar zs.length cr):=zaa HX11.out 1)
   | (go_at_call 38;refine(zbl _ zs _ ?_).mono ?_;(exact HR.out.to (by have:=HS0.out;have:=hb1.size;simp at this;omega) ((zae hb0.drew).trans ((zae hb1).mono (by have:=HS0.out;simp;omega))));rintro e w2 ⟨a2,cc2,rfl,hown2,hb2⟩;have HX12:=Lib.hid (zac hb2 HX11.out (by have:=HS0.out;have:=hb1.size;simp at this;omega));have c20:w2.cell? ⟨w.heap.size,0,none⟩=some (.slice ad rs.length cd):=zaa HX12.out 0;have c21:w2.cell? ⟨w.heap.size,1,none⟩=some (.slice ar zs.length cr):=zaa HX12.out 1;have f20:=zab HX12.out 0;have f21:=zab HX12.out 1))
  all_goals (go_wp2_with fail;go_meet)
  all_goals exact zgj rfl HS0.out hb0 HX2.out HX12.out hown1 hb1 hown2 hb2
 case rest=>
  obtain⟨a1,c1,a2,c2,hx,hy,hd,hr,hb⟩:=hcut
  have q0:wc.cell? ⟨w.heap.size,0,none⟩=some (.slice a1 rs.length c1):=zaa hx 0
  have hloop:ziO w rs zs vs0 (.slice a1 rs.length c1) (.slice a2 zs.length c2) 0 wc:=⟨vs0,HL.out,hx,hy,hd,hr,fun j hj=>absurd hj (Nat.not_lt_zero _),fun _ _=>rfl,hb⟩
  clear hx hy hd hr hb
  have hlen:rs.length≤5864062014634:=by obtain⟨_,_,_,h,_⟩:=HD.out;rw[HL.out] at h;exact h
  go_wp2
  go_loopw [15] (fun i wr =>∃k:Nat,k≤rs.length∧i=.int .i64 k∧ziO w rs zs vs0 (.slice a1 rs.length c1) (.slice a2 zs.length c2) k wr) (fun i _=>rs.length-(intOf i).toNat)
  case atStart=>exact⟨0,Nat.zero_le _,rfl,hloop⟩
  case round=>
   obtain⟨k,hk,rfl,hrel⟩:=hrel
   have HREL:=Lib.hid hrel
   obtain⟨vs,hl,hx,hy,hd,hr,hrows,hrest,hb⟩:=hrel
   by_cases hlt:k<rs.length
   ·
    obtain⟨g,cur,hga,hbg,hblk,hcap⟩:=zaF hd (by omega)
    subst hga
    have e0:wr.cell? ⟨w.heap.size,0,none⟩=some (.slice (some ⟨g,0,none⟩) rs.length c1):=zaa hx 0
    have hvk:=hrest k (Nat.le_refl _)
    have hrk:=HW.out k (by rw[HL.out];exact hlt) hlt
    rw[←zau (by rw[HL.out];exact hlt) undef,←hvk,←zau hlt []] at hrk
    obtain⟨ak,ck,hvv,_⟩:=id hrk
    rw[hvv] at hrk
    have ek:wr.cell? ⟨g,k,none⟩=some (.slice ak (rs.getD k []).length ck):=by
     rw[hd.cellAt k (by omega),←hvv,zau (by omega) undef]
     exact List.getElem?_eq_getElem (by omega)
    have HRK:=Lib.hid hrk
    have HX:=Lib.hid hx
    have HBLK:=Lib.hid hblk
    have HB:=Lib.hid hb
    have hgs:g<wr.heap.size:=(Array.getElem?_eq_some_iff.1 hblk).1
    have hws:w.heap.size<wr.heap.size:=(Array.getElem?_eq_some_iff.1 hx).1
    clear hx hy hd hr hrows hrest hvk hvv hblk hb hl hrk
    generalize hrow:rs.getD k []=row at *
    have HROW:=Lib.hid hrow
    clear hrow
    go_wp2_with fail
    go_region_with ((go_at_call 38;refine(zbl _ row _ ?_).mono ?_;(exact HRK.out.to (by simp;omega) (zae HB.out.drew));rintro e w1 ⟨b1,d1,rfl,hown1,hb1⟩;have HX1:=Lib.hid (zac hb1 HX.out (by simp;omega));have HG1:=Lib.hid (zac hb1 HBLK.out (by simp;omega));have e10:w1.cell? ⟨w.heap.size,0,none⟩=some (.slice (some ⟨g,0,none⟩) rs.length c1):=zaa HX1.out 0;have ek1:w1.cell? ⟨g,k,none⟩=some (.slice ak row.length ck):=(zae hb1 _ _ (by simp;omega)).trans ek;have fk1:=zab HG1.out k))
    all_goals go_wp2
    all_goals
     go_roundw
     case rel=>exact⟨k+1,by omega,by go_num,zgk HROW.out rfl hlt HREL.out hown1 hb1⟩
     case measure=>simp[intOf];omega
   ·
    obtain rfl:k=rs.length:=by omega
    have e0:wr.cell? ⟨w.heap.size,0,none⟩=some (.slice a1 rs.length c1):=zaa hx 0
    have e1:wr.cell? ⟨w.heap.size,1,none⟩=some (.slice a2 zs.length c2):=zaa hx 1
    have r0:wr.cell? ⟨w.heap.size+1,0,none⟩=some (.slice none 0 0):=zaa hy 0
    have r1:wr.cell? ⟨w.heap.size+1,1,none⟩=some (.slice none 0 0):=zaa hy 1
    have g0:=zab hy 0
    have g1:=zab hy 1
    have hfin:=Lib.hid (zhy hl hy hd hr hrows hb)
    clear hx hy hd hr hrows hrest hb hl
    go_wp2
    exact bodyPost_ret (v:=.agg #[.slice a1 rs.length c1,.slice a2 zs.length c2]) (by simp[results,Tryd.results76,go_sem,r0,r1]) rfl hfin.out
structure FBd(rs:List (List Int))(zs:List Int):Prop where
 row:∀row∈rs,(∀z∈row,I64 z)∧row.length≤17592186043904
 ref:∀z∈zs,I64 z
 nd:rs.length≤5864062014634
 nr:zs.length≤17592186043904
theorem FramesR.bd{B:Nat}{w:World}{v:Value}{rs:List (List Int)}{zs:List Int}(h:FramesR B w v rs zs):FBd rs zs:=by
 obtain⟨vd,vr,_,hd,hr⟩:=h
 obtain⟨_,_,_,hl,_,hc⟩:=hd
 refine⟨fun row hrow=>?_,hr.i64,hl,hr.len⟩
 obtain⟨i,hi,rfl⟩:=List.mem_iff_getElem.1 hrow
 obtain⟨_,_,_,_,_,_,hv⟩:=hc i hi
 exact⟨hv.i64,hv.len⟩
theorem FrOwn.reads{base:Nat}{w:World}{vd vr:Value}{rs:List (List Int)}{zs:List Int}{vs:List Value}(h:FrOwn base w vd vr rs zs vs)(hb:FBd rs zs):FramesR w.heap.size w (.agg #[vd,vr]) rs zs:=by
 refine⟨vd,vr,rfl,?_,zaq h.r hb.nr hb.ref⟩
 refine zbq (xs:=rs) h.d hb.nd (fun i hi hv=>?_)
 have:=(h.rows i hi).1
 rw[zau hv,zau hi] at this
 exact zaq this (hb.row _ (List.getElem_mem hi)).2 (hb.row _ (List.getElem_mem hi)).1
end Go.Proofs.YtflonfcemlfbdaaDoor
namespace Go.Proofs.YtflonfcemlfbdaaDoor
open Go Go.RowKit Go.ChangeShapes Go.WideShapes Go.Deep
set_option maxHeartbeats 2000000
set_option linter.unusedVariables false
def Kn(zs:List Int)(n:Int):Prop:=0≤n∧n<zs.length∧zs.getD n.toNat 0≠0
def KnNo(w:World)(c:Int)(e:Ending)(w':World):Prop:=e=.returned (.tuple #[.agg #[.slice none 0 0,.slice none 0 0],.int .i64 c])∧Below w.heap.size w w'
def zk8(w:World)(rs:List (List Int))(zs:List Int)(e:Ending)(w':World):Prop:=∃ad cd ar cr vs,e=.returned (.tuple #[.agg #[.slice ad rs.length cd,.slice ar zs.length cr],.int .i64 0])∧FrOwn w.heap.size w' (.slice ad rs.length cd) (.slice ar zs.length cr) rs zs vs∧Below w.heap.size w w'
theorem FrOwn.set{base g i:Nat}{w:World}{vd vr u:Value}{rs:List (List Int)}{zs:List Int}{vs:List Value}{cs:Array Value}{t:TypeId}{fr:Nat×Nat}(h:FrOwn base w vd vr rs zs vs)(hg:w.heap[g]?=some (.cells cs t fr))(h1:3≠t)(h2:24≠t):FrOwn base (w.setCell ⟨g,i,none⟩ u) vd vr rs zs vs:=
 ⟨h.len,zao h.d (zad h.d hg h2) _,zao h.r (zad h.r hg h1) _,fun j hj=>⟨zao (h.rows j hj).1 (zad (h.rows j hj).1 hg h1) _,(h.rows j hj).2⟩⟩
theorem FrOwn.base{b b':Nat}{w:World}{vd vr:Value}{rs:List (List Int)}{zs:List Int}{vs:List Value}(h:FrOwn b w vd vr rs zs vs)(hle:b'≤b):FrOwn b' w vd vr rs zs vs:=
 ⟨h.len,zar h.d hle,zar h.r hle,fun j hj=>⟨zar (h.rows j hj).1 hle,(h.rows j hj).2⟩⟩
theorem zb7(v:Value)(rs:List (List Int))(zs:List Int)(n:Int)(w:World)(hf:FramesR w.heap.size w v rs zs)(hok:FOk rs zs):(¬Kn zs n→Calls Tryd.prog 73 #[v,.int .i64 n] w (KnNo w 6))∧(Kn zs n→Calls Tryd.prog 73 #[v,.int .i64 n] w (zk8 w rs zs)):=by
 obtain⟨vd,vr,rfl,⟨a,cd,rfl,_⟩,hr⟩:=id hf
 obtain⟨a',cr,rfl,hl,hl2,hcr⟩:=hr
 have HF:=Lib.hid hf
 have HR:=Lib.hid hcr
 have HOK:=Lib.hid hok
 have hlen:zs.length≤200:=hok.2.1
 clear hf hcr hok
 constructor
 ·
  intro hk
  have HK:=Lib.hid hk
  clear hk
  go_enter Tryd.func73,Tryd.ntmps73
  go_wp2_with fail
  refine(zbO _ rs zs _ (HF.out.to (by simp;omega) (zae (below_alloc2 _ _ _)))).mono ?_
  rintro e w1 ⟨⟨_,rfl⟩|⟨hno,rfl⟩,hb1⟩
  rotate_left
  ·exact absurd HOK.out hno
  have hB:=(below_alloc2 w _ _).trans (hb1.mono (by simp;omega))
  have hx:=zac hb1 (g:=w.heap.size) ((zaj (by simp)).trans (alloc_at rfl)) (by simp;omega)
  have hy:=zac hb1 (g:=w.heap.size+1) (alloc_at (by simp)) (by simp)
  have q1:w1.cell? ⟨w.heap.size,1,none⟩=some (.slice a' zs.length cr):=zaa hx 1
  have r0:w1.cell? ⟨w.heap.size+1,0,none⟩=some (.slice none 0 0):=zaa hy 0
  have r1:w1.cell? ⟨w.heap.size+1,1,none⟩=some (.slice none 0 0):=zaa hy 1
  have g0:=zab hy 0
  have g1:=zab hy 1
  have HBB:=Lib.hid ((hB.setCell (p:=⟨w.heap.size+1,0,none⟩) (by simp) (.slice none 0 0)).setCell (p:=⟨w.heap.size+1,1,none⟩) (by simp) (.slice none 0 0))
  have HB:=Lib.hid hb1
  clear hx hy hB hb1
  by_cases hin:0≤n∧n<(zs.length:Int)
  ·
   obtain⟨k,rfl⟩:∃k:Nat,n=k:=⟨n.toNat,by omega⟩
   have hk:k<zs.length:=by omega
   obtain⟨b,off,vi,ha,hbb,hcell,hvi,hz⟩:=HR.out k hk
   subst ha hvi
   have hz0:zs[k]=0:=by
    have hzk:=zau hk 0
    rcases Decidable.em (zs[k]=0) with h|h
    ·exact h
    ·exact absurd ⟨by omega,by omega,by simp only[Int.toNat_natCast];rw[hzk];exact h⟩ HK.out
   rw[hz0] at hcell
   clear hz
   have e1:w1.cell? ⟨b,off+k,none⟩=some (.int .i64 0):=(zae HB.out _ _ (by simp;omega)).trans ((zae (below_alloc2 _ _ _) _ _ hbb).trans hcell)
   go_wp2
   exact bodyPost_ret (v:=.tuple #[.agg #[.slice none 0 0,.slice none 0 0],.int .i64 6]) (by simp[results,Tryd.results73,go_sem,r0,r1]) rfl ⟨rfl,HBB.out⟩
  ·
   rcases (show n<0∨(zs.length:Int)≤n by omega) with hn|hn
   ·
    go_wp2
    exact bodyPost_ret (v:=.tuple #[.agg #[.slice none 0 0,.slice none 0 0],.int .i64 6]) (by simp[results,Tryd.results73,go_sem,r0,r1]) rfl ⟨rfl,HBB.out⟩
   ·
    have hn':¬n<0:=by omega
    go_wp2
    exact bodyPost_ret (v:=.tuple #[.agg #[.slice none 0 0,.slice none 0 0],.int .i64 6]) (by simp[results,Tryd.results73,go_sem,r0,r1]) rfl ⟨rfl,HBB.out⟩
 ·
  intro hkn
  obtain⟨h1,h2,h3⟩:=hkn
  obtain⟨k,rfl⟩:∃k:Nat,n=k:=⟨n.toNat,by omega⟩
  have hk:k<zs.length:=by omega
  simp only[Int.toNat_natCast] at h3
  rw[zau hk] at h3
  go_enter Tryd.func73,Tryd.ntmps73
  go_wp2_with fail
  refine(zbO _ rs zs _ (HF.out.to (by simp;omega) (zae (below_alloc2 _ _ _)))).mono ?_
  rintro e w1 ⟨⟨_,rfl⟩|⟨hno,rfl⟩,hb1⟩
  rotate_left
  ·exact absurd HOK.out hno
  have s1:=hb1.size
  simp only[World.size_alloc] at s1
  have hB:=(below_alloc2 w _ _).trans (hb1.mono (by simp;omega))
  have hx:=zac hb1 (g:=w.heap.size) ((zaj (by simp)).trans (alloc_at rfl)) (by simp;omega)
  have hy:=zac hb1 (g:=w.heap.size+1) (alloc_at (by simp)) (by simp)
  have q0:w1.cell? ⟨w.heap.size,0,none⟩=some (.slice a rs.length cd):=zaa hx 0
  have q1:w1.cell? ⟨w.heap.size,1,none⟩=some (.slice a' zs.length cr):=zaa hx 1
  obtain⟨b,off,vi,ha,hbb,hcell,hvi,hz⟩:=HR.out k hk
  subst ha hvi
  have e1:w1.cell? ⟨b,off+k,none⟩=some (.int .i64 zs[k]):=(zae hb1 _ _ (by simp;omega)).trans ((zae (below_alloc2 _ _ _) _ _ hbb).trans hcell)
  generalize zs[k]=z at *
  have hzb:(z == 0)=false:=by rw[beq_eq_false_iff_ne];exact h3
  have HS:=Lib.hid hB
  have HY:=Lib.hid hy
  clear hx hy hB hb1 hz
  go_wp2_with fail
  refine(zef _ rs zs _ (HF.out.to (by omega) (zae HS.out))).mono ?_
  rintro e w2 ⟨ad2,cd2,ar2,cr2,vs,rfl,hown,hb2⟩
  have hy2:=zac hb2 HY.out (by omega)
  have r0:w2.cell? ⟨w.heap.size+1,0,none⟩=some (.slice none 0 0):=zaa hy2 0
  have r1:w2.cell? ⟨w.heap.size+1,1,none⟩=some (.slice none 0 0):=zaa hy2 1
  have g0:=zab hy2 0
  have g1:=zab hy2 1
  have HFO:=Lib.hid (((hown.base (b':=w.heap.size) (by omega)).set (i:=0) (u:=.slice ad2 rs.length cd2) hy2 (by decide) (by decide)).set (i:=1) (u:=.slice ar2 zs.length cr2) (zaf hy2 _) (by decide) (by decide))
  have HBB:=Lib.hid (((HS.out.trans (hb2.mono (by omega))).setCell (p:=⟨w.heap.size+1,0,none⟩) (by simp) (.slice ad2 rs.length cd2)).setCell (p:=⟨w.heap.size+1,1,none⟩) (by simp) (.slice ar2 zs.length cr2))
  clear hy2 hown hb2
  go_wp2
  exact bodyPost_ret (v:=.tuple #[.agg #[.slice ad2 rs.length cd2,.slice ar2 zs.length cr2],.int .i64 0]) (by simp[results,Tryd.results73,go_sem,r0,r1]) rfl ⟨ad2,cd2,ar2,cr2,vs,rfl,HFO.out,HBB.out⟩
theorem FrOwn.setRef {base g c k : Nat} {w : World} {vd : Value} {rs : List (List Int)} {zs : List Int} {vs : List Value} (h : FrOwn base w vd (.slice (some ⟨g, 0, none⟩) zs.length c) rs zs vs) (hk : k < zs.length) (z : Int) :
  FrOwn base (w.setCell ⟨g,k,none⟩ (.int .i64 z)) vd (.slice (some ⟨g,0,none⟩) zs.length c) rs (zs.set k z) vs:=by
 obtain⟨g',cur,hg',hbg,hblk,_⟩:=zaF h.r (by omega)
 simp only[Option.some.injEq,Addr.mk.injEq,and_true] at hg'
 subst hg'
 refine⟨h.len,zao h.d (zad h.d hblk (by decide)) _,?_,fun j hj=>?_⟩
 ·
  have:=(h.r.stored k (.int .i64 z)).1
  rw[List.length_set,List.map_set]
  exact this
 ·
  obtain⟨q1,q2,q3,q4⟩:=h.rows j hj
  refine⟨zao q1 ?_ _,q2,q3,q4⟩
  rcases q2 with e|e
  ·rw[e];simp
  ·exact fun e'=>e e'.symm
def zhz(w:World)(rs:List (List Int))(zs:List Int)(e:Ending)(w':World):Prop:=∃ad cd ar cr vs,e=.returned (.tuple #[.agg #[.slice ad rs.length cd,.slice ar zs.length cr],.int .i64 0])∧FrOwn w.heap.size w' (.slice ad rs.length cd) (.slice ar zs.length cr) rs zs vs∧Below w.heap.size w w'
theorem zhA(v:Value)(rs:List (List Int))(zs:List Int)(k:Nat)(z:Int)(w:World)(hf:FramesR w.heap.size w v rs zs)(hok:FOk rs zs)(hk:Kn zs k)(hz:zs.getD k 0=z):(z=200→Calls Tryd.prog 57 #[v,.int .i64 k] w (KnNo w 1))∧(z≠200→Calls Tryd.prog 57 #[v,.int .i64 k] w (zhz w rs (zs.set k (z+1)))):=by
 have HF:=Lib.hid hf
 obtain⟨a,c1,a',c2,hs⟩:=hf.shape
 subst hs
 clear hf
 have HK:=Lib.hid (fun w' (hf:FramesR w'.heap.size w' (.agg #[.slice a rs.length c1,.slice a' zs.length c2]) rs zs)=>(zb7 _ rs zs k w' hf hok).2 hk)
 have hkl:k<zs.length:=by have:=hk.2.1;omega
 have hz1:1≤z∧z≤200:=by
  have h2:=hok.2.2 k hkl
  have h3:=hk.2.2
  simp only[Int.toNat_natCast] at h3
  rw[hz] at h2 h3
  have:=h2.1;have:=h2.2.1;omega
 clear hok hk
 constructor
 all_goals intro hzz
 all_goals go_enter Tryd.func57,Tryd.ntmps57
 all_goals go_wp2_with fail
 all_goals refine(HK.out _ (HF.out.to (by simp;omega) (zae (below_alloc2 _ _ _)))).mono ?_
 all_goals rintro e w1 ⟨ad,cd,ar,cr,vs,rfl,hown,hb1⟩
 all_goals have s1:=hb1.size
 all_goals simp only[World.size_alloc] at s1
 all_goals have hB:=(below_alloc2 w _ _).trans (hb1.mono (by simp;omega))
 all_goals have hx:=zac hb1 (g:=w.heap.size) ((zaj (by simp)).trans (alloc_at rfl)) (by simp;omega)
 all_goals have hy:=zac hb1 (g:=w.heap.size+1) (alloc_at (by simp)) (by simp)
 all_goals have q0:w1.cell? ⟨w.heap.size,0,none⟩=some (.slice a rs.length c1):=zaa hx 0
 all_goals have q1:w1.cell? ⟨w.heap.size,1,none⟩=some (.slice a' zs.length c2):=zaa hx 1
 all_goals have f0:=zab hx 0
 all_goals have f1:=zab hx 1
 all_goals have r0:w1.cell? ⟨w.heap.size+1,0,none⟩=some (.slice none 0 0):=zaa hy 0
 all_goals have r1:w1.cell? ⟨w.heap.size+1,1,none⟩=some (.slice none 0 0):=zaa hy 1
 all_goals have g0:=zab hy 0
 all_goals have g1:=zab hy 1
 all_goals obtain⟨g,cur,hga,hbg,hblk,hcap⟩:=zaF hown.r (by omega)
 all_goals subst hga
 all_goals simp only[World.size_alloc] at hbg
 all_goals have hgl:g<w1.heap.size:=(Array.getElem?_eq_some_iff.1 hblk).1
 all_goals have hgx:w.heap.size≠g:=by intro e;subst e;rw[hblk] at hx;simp at hx
 all_goals have hgy:w.heap.size+1≠g:=by intro e;subst e;rw[hblk] at hy;simp at hy
 all_goals have c0:w1.cell? ⟨g,k,none⟩=some (.int .i64 z):=(by rw[hown.r.cellAt k (by omega),List.getElem?_map,List.getElem?_eq_getElem hkl,←zau hkl 0,hz];rfl)
 all_goals have c1f:=hown.r.frozenAt k
 ·
  subst hzz
  have HBB:=Lib.hid ((((hB.setCell (p:=⟨w.heap.size,0,none⟩) (by simp) (.slice ad rs.length cd)).setCell (p:=⟨w.heap.size,1,none⟩) (by simp) (.slice (some ⟨g,0,none⟩) zs.length cr)).setCell (p:=⟨w.heap.size+1,0,none⟩) (by simp) (.slice none 0 0)).setCell (p:=⟨w.heap.size+1,1,none⟩) (by simp) (.slice none 0 0))
  clear hx hy hB hb1 hown hblk
  go_wp2
  exact bodyPost_ret (v:=.tuple #[.agg #[.slice none 0 0,.slice none 0 0],.int .i64 1]) (by simp[results,Tryd.results57,go_sem,r0,r1]) rfl ⟨rfl,HBB.out⟩
 ·
  have hzb:(z == 200)=false:=by rw[beq_eq_false_iff_ne];exact hzz
  have hw:wrap64 (z+1)=z+1:=zba (by omega)
  have o1:=((hown.base (b':=w.heap.size) (by simp;omega)).set (i:=0) (u:=.slice ad rs.length cd) hx (by decide) (by decide)).set (i:=1) (u:=.slice (some ⟨g,0,none⟩) zs.length cr) (zaf hx _) (by decide) (by decide)
  have o2:=o1.setRef hkl (z+1)
  have y2:=zah (g:=g) (i:=k) (zah (g:=w.heap.size) (i:=1) (zah (g:=w.heap.size) (i:=0) hy (by omega) (.slice ad rs.length cd)) (by omega) (.slice (some ⟨g,0,none⟩) zs.length cr)) hgy (.int .i64 (z+1))
  have o3:=Lib.hid ((o2.set (i:=0) (u:=.slice ad rs.length cd) y2 (by decide) (by decide)).set (i:=1) (u:=.slice (some ⟨g,0,none⟩) zs.length cr) (zaf y2 _) (by decide) (by decide))
  have HBB:=Lib.hid (((((hB.setCell (p:=⟨w.heap.size,0,none⟩) (by simp) (.slice ad rs.length cd)).setCell (p:=⟨w.heap.size,1,none⟩) (by simp) (.slice (some ⟨g,0,none⟩) zs.length cr)).setCell (p:=⟨g,k,none⟩) (by simp;omega) (.int .i64 (z+1))).setCell (p:=⟨w.heap.size+1,0,none⟩) (by simp) (.slice ad rs.length cd)).setCell (p:=⟨w.heap.size+1,1,none⟩) (by simp) (.slice (some ⟨g,0,none⟩) zs.length cr))
  clear hx hy hB hb1 hown hblk o1 o2 y2
  go_wp2
  exact bodyPost_ret (v:=.tuple #[.agg #[.slice ad rs.length cd,.slice (some ⟨g,0,none⟩) zs.length cr],.int .i64 0]) (by simp[results,Tryd.results57,go_sem,r0,r1]) rfl ⟨ad,cd,some ⟨g,0,none⟩,cr,vs,by rw[List.length_set],by rw[List.length_set];exact o3.out,HBB.out⟩
theorem FrOwn.grown{base:Nat}{w w':World}{vd vr:Value}{rs:List (List Int)}{zs:List Int}{vs:List Value}(h:FrOwn base w vd vr rs zs vs)(hb:Below w.heap.size w w'):FrOwn base w' vd vr rs zs vs:=
 ⟨h.len,own_below h.d hb (Nat.le_refl _),own_below h.r hb (Nat.le_refl _),fun j hj=>⟨own_below (h.rows j hj).1 hb (Nat.le_refl _),(h.rows j hj).2⟩⟩
theorem FBd.setRef{rs:List (List Int)}{zs:List Int}(h:FBd rs zs)(k:Nat)(z:Int)(hz:I64 z):FBd rs (zs.set k z):=
 ⟨h.row,fun x hx=>(List.mem_or_eq_of_mem_set hx).elim (h.ref x) (fun e=>e▸hz),h.nd,by rw[List.length_set];exact h.nr⟩
end Go.Proofs.YtflonfcemlfbdaaDoor
