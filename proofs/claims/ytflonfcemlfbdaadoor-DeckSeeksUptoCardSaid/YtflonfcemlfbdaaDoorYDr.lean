/- Several texts joined, each with its own heading in the notes: Contracts of frames. Drop and DroppedOf answer alike. Contracts of slices. Owned frames: a row is put, a word is written. No condition beyond those of each row. -/
import Derived.Test.YtflonfcemlfbdaaDoorYFc
namespace Go.Proofs.YtflonfcemlfbdaaDoor
open Go Go.RowKit Go.ChangeShapes Go.WideShapes Go.Deep
set_option maxHeartbeats 2000000
set_option linter.unusedVariables false
theorem zb8(v:Value):Apart (.slice none 0 0) v∧Apart v (.slice none 0 0):=by
 refine⟨Or.inl rfl,?_⟩
 unfold Apart
 cases e:v.ownBlock with
 | none=>exact Or.inl rfl
 | some g=>exact Or.inr (by simp[Value.ownBlock])
theorem FrOwn.setNil {base g c k : Nat} {w : World} {vr : Value} {rs : List (List Int)} {zs : List Int} {vs : List Value} (h : FrOwn base w (.slice (some ⟨g, 0, none⟩) rs.length c) vr rs zs vs) (hk : k < rs.length) :
  FrOwn base (w.setCell ⟨g,k,none⟩ (.slice none 0 0)) (.slice (some ⟨g,0,none⟩) rs.length c) vr (rs.set k []) zs (vs.set k (.slice none 0 0)):=by
 obtain⟨g',cur,hg',hbg,hblk,_⟩:=zaF h.d (by omega)
 simp only[Option.some.injEq,Addr.mk.injEq,and_true] at hg'
 subst hg'
 have hl:=h.len
 have keep:∀{v:Value} {n:Nat} {xs:List Value},w.ownsRow base 3 1 v n xs→(w.setCell ⟨g,k,none⟩ (.slice none 0 0)).ownsRow base 3 1 v n xs:=fun h=>zao h (zad h hblk (by decide)) _
 have getk:(vs.set k (Value.slice none 0 0)).getD k undef=.slice none 0 0:=by simp[List.getD,hl,hk]
 have getj:∀j,j≠k→(vs.set k (Value.slice none 0 0)).getD j undef=vs.getD j undef:=fun j hj=>by simp[List.getD,Ne.symm hj]
 have rowk:(rs.set k []).getD k []=[]:=by simp[List.getD,hk]
 have rowj:∀j,j≠k→(rs.set k []).getD j []=rs.getD j []:=fun j hj=>by simp[List.getD,Ne.symm hj]
 refine⟨by simpa using hl,?_,keep h.r,?_⟩
 ·
  rw[List.length_set]
  exact(h.d.stored k _).1
 ·
  rw[List.length_set]
  intro j hj
  by_cases hjk:j=k
  ·
   subst hjk
   rw[getk,rowk]
   exact⟨⟨rfl,Or.inl ⟨rfl,rfl⟩⟩,(zb8 _).1,(zb8 _).2,fun i _ _=>(zb8 _).1⟩
  ·
   obtain⟨q1,q2,q3,q4⟩:=h.rows j hj
   rw[getj j hjk,rowj j hjk]
   refine⟨keep q1,q2,q3,fun i hi hij=>?_⟩
   by_cases hik:i=k
   ·
    subst hik
    rw[getk]
    exact(zb8 _).2
   ·
    rw[getj i hik]
    exact q4 i hi hij
theorem zfL(v:Value)(rs:List (List Int))(zs:List Int)(k:Nat)(z:Int)(w:World)(hf:FramesR w.heap.size w v rs zs)(hok:FOk rs zs)(hk:Kn zs k)(hz:zs.getD k 0=z):(z≠1→Calls Tryd.prog 54 #[v,.int .i64 k] w (zhz w rs (zs.set k (z-1))))∧(z=1→Calls Tryd.prog 54 #[v,.int .i64 k] w (zhz w (rs.set k []) (zs.set k 0))):=by
 have HF:=Lib.hid hf
 obtain⟨a,c1,a',c2,hs⟩:=hf.shape
 subst hs
 clear hf
 have HK:=Lib.hid (fun w' (hf:FramesR w'.heap.size w' (.agg #[.slice a rs.length c1,.slice a' zs.length c2]) rs zs)=>(zb7 _ rs zs k w' hf hok).2 hk)
 have hkl:k<zs.length:=by have:=hk.2.1;omega
 have hz1:1≤z∧z≤200:=by
  have h2:=hok.2.2 k hkl
  have h3:=hk.2.2
  simp only[Int.toNat_natCast] at h3
  rw[hz] at h2 h3
  have:=h2.1;have:=h2.2.1;omega
 have hkr:k<rs.length:=by rw[hok.1];exact hkl
 clear hok hk
 constructor
 all_goals intro hzz
 all_goals go_enter Tryd.func54,Tryd.ntmps54
 all_goals go_wp2_with fail
 all_goals refine(HK.out _ (HF.out.to (by simp;omega) (zae (below_alloc2 _ _ _)))).mono ?_
 all_goals rintro e w1 ⟨ad,cd,ar,cr,vs,rfl,hown,hb1⟩
 all_goals have s1:=hb1.size
 all_goals simp only[World.size_alloc] at s1
 all_goals have hB:=(below_alloc2 w _ _).trans (hb1.mono (by simp;omega))
 all_goals have hx:=zac hb1 (g:=w.heap.size) ((zaj (by simp)).trans (alloc_at rfl)) (by simp;omega)
 all_goals have hy:=zac hb1 (g:=w.heap.size+1) (alloc_at (by simp)) (by simp)
 all_goals have q0:w1.cell? ⟨w.heap.size,0,none⟩=some (.slice a rs.length c1):=zaa hx 0
 all_goals have q1:w1.cell? ⟨w.heap.size,1,none⟩=some (.slice a' zs.length c2):=zaa hx 1
 all_goals have f0:=zab hx 0
 all_goals have f1:=zab hx 1
 all_goals have r0:w1.cell? ⟨w.heap.size+1,0,none⟩=some (.slice none 0 0):=zaa hy 0
 all_goals have r1:w1.cell? ⟨w.heap.size+1,1,none⟩=some (.slice none 0 0):=zaa hy 1
 all_goals have g0:=zab hy 0
 all_goals have g1:=zab hy 1
 all_goals obtain⟨g,cur,hga,hbg,hblk,hcap⟩:=zaF hown.r (by omega)
 all_goals subst hga
 all_goals simp only[World.size_alloc] at hbg
 all_goals have hgl:g<w1.heap.size:=(Array.getElem?_eq_some_iff.1 hblk).1
 all_goals have hgx:w.heap.size≠g:=by intro e;subst e;rw[hblk] at hx;simp at hx
 all_goals have hgy:w.heap.size+1≠g:=by intro e;subst e;rw[hblk] at hy;simp at hy
 all_goals have c0:w1.cell? ⟨g,k,none⟩=some (.int .i64 z):=(by rw[hown.r.cellAt k (by omega),List.getElem?_map,List.getElem?_eq_getElem hkl,←zau hkl 0,hz];rfl)
 all_goals have c1f:=hown.r.frozenAt k
 ·
  have hzb:(z-1 == 0)=false:=by rw[beq_eq_false_iff_ne];omega
  have hw:wrap64 (z-1)=z-1:=zba (by omega)
  have o1:=((hown.base (b':=w.heap.size) (by simp;omega)).set (i:=0) (u:=.slice ad rs.length cd) hx (by decide) (by decide)).set (i:=1) (u:=.slice (some ⟨g,0,none⟩) zs.length cr) (zaf hx _) (by decide) (by decide)
  have o2:=o1.setRef hkl (z-1)
  have y2:=zah (g:=g) (i:=k) (zah (g:=w.heap.size) (i:=1) (zah (g:=w.heap.size) (i:=0) hy (by omega) (.slice ad rs.length cd)) (by omega) (.slice (some ⟨g,0,none⟩) zs.length cr)) hgy (.int .i64 (z-1))
  have o3:=Lib.hid ((o2.set (i:=0) (u:=.slice ad rs.length cd) y2 (by decide) (by decide)).set (i:=1) (u:=.slice (some ⟨g,0,none⟩) zs.length cr) (zaf y2 _) (by decide) (by decide))
  have HBB:=Lib.hid (((((hB.setCell (p:=⟨w.heap.size,0,none⟩) (by simp) (.slice ad rs.length cd)).setCell (p:=⟨w.heap.size,1,none⟩) (by simp) (.slice (some ⟨g,0,none⟩) zs.length cr)).setCell (p:=⟨g,k,none⟩) (by simp;omega) (.int .i64 (z-1))).setCell (p:=⟨w.heap.size+1,0,none⟩) (by simp) (.slice ad rs.length cd)).setCell (p:=⟨w.heap.size+1,1,none⟩) (by simp) (.slice (some ⟨g,0,none⟩) zs.length cr))
  clear hx hy hB hb1 hown hblk o1 o2 y2
  go_wp2
  exact bodyPost_ret (v:=.tuple #[.agg #[.slice ad rs.length cd,.slice (some ⟨g,0,none⟩) zs.length cr],.int .i64 0]) (by simp[results,Tryd.results54,go_sem,r0,r1]) rfl ⟨ad,cd,some ⟨g,0,none⟩,cr,vs,by rw[List.length_set],by rw[List.length_set];exact o3.out,HBB.out⟩
 ·
  subst hzz
  obtain⟨gd,curd,hgd,hbd,hblkd,hcapd⟩:=zaF hown.d (by omega)
  subst hgd
  simp only[World.size_alloc] at hbd
  have hdl:gd<w1.heap.size:=(Array.getElem?_eq_some_iff.1 hblkd).1
  have hdg:gd≠g:=by intro e;subst e;rw[hblk] at hblkd;simp at hblkd
  have hdx:w.heap.size≠gd:=by omega
  have hdy:w.heap.size+1≠gd:=by omega
  have hkv:k<vs.length:=by have:=hown.len;omega
  have d0:w1.cell? ⟨gd,k,none⟩=some (vs[k]'hkv):=(by rw[hown.d.cellAt k (by omega),List.getElem?_eq_getElem])
  have d1f:=hown.d.frozenAt k
  have o1:=((hown.base (b':=w.heap.size) (by simp;omega)).set (i:=0) (u:=.slice (some ⟨gd,0,none⟩) rs.length cd) hx (by decide) (by decide)).set (i:=1) (u:=.slice (some ⟨g,0,none⟩) zs.length cr) (zaf hx _) (by decide) (by decide)
  have o2:=(o1.setRef hkl 0).setNil hkr
  have y2:=zah (g:=gd) (i:=k) (zah (g:=g) (i:=k) (zah (g:=w.heap.size) (i:=1) (zah (g:=w.heap.size) (i:=0) hy (by omega) (.slice (some ⟨gd,0,none⟩) rs.length cd)) (by omega) (.slice (some ⟨g,0,none⟩) zs.length cr)) hgy (.int .i64 0)) hdy (.slice none 0 0)
  have o3:=Lib.hid ((o2.set (i:=0) (u:=.slice (some ⟨gd,0,none⟩) rs.length cd) y2 (by decide) (by decide)).set (i:=1) (u:=.slice (some ⟨g,0,none⟩) zs.length cr) (zaf y2 _) (by decide) (by decide))
  have HBB:=Lib.hid ((((((hB.setCell (p:=⟨w.heap.size,0,none⟩) (by simp) (.slice (some ⟨gd,0,none⟩) rs.length cd)).setCell (p:=⟨w.heap.size,1,none⟩) (by simp) (.slice (some ⟨g,0,none⟩) zs.length cr)).setCell (p:=⟨g,k,none⟩) (by simp;omega) (.int .i64 0)).setCell (p:=⟨gd,k,none⟩) (by simp;omega) (.slice none 0 0)).setCell (p:=⟨w.heap.size+1,0,none⟩) (by simp) (.slice (some ⟨gd,0,none⟩) rs.length cd)).setCell (p:=⟨w.heap.size+1,1,none⟩) (by simp) (.slice (some ⟨g,0,none⟩) zs.length cr))
  clear hx hy hB hb1 hown hblk hblkd o1 o2 y2
  go_wp2
  exact bodyPost_ret (v:=.tuple #[.agg #[.slice (some ⟨gd,0,none⟩) rs.length cd,.slice (some ⟨g,0,none⟩) zs.length cr],.int .i64 0]) (by simp[results,Tryd.results54,go_sem,r0,r1]) rfl ⟨some ⟨gd,0,none⟩,cd,some ⟨g,0,none⟩,cr,_,by rw[List.length_set,List.length_set],by rw[List.length_set,List.length_set];exact o3.out,HBB.out⟩
theorem FBd.setNil{rs:List (List Int)}{zs:List Int}(h:FBd rs zs)(k:Nat):FBd (rs.set k []) zs:=
 ⟨fun x hx=>(List.mem_or_eq_of_mem_set hx).elim (h.row x) (fun e=>e▸⟨fun z hz=>by simp at hz,by simp⟩),h.ref,by rw[List.length_set];exact h.nd,h.nr⟩
def Fz(zs:List Int)(i:Int):Prop:=(∃k:Nat,i=k∧k<zs.length∧zs.getD k 0=0∧∀j,j<k→zs.getD j 0≠0)∨(i = -1∧∀j,j<zs.length→zs.getD j 0≠0)
theorem zk9(zs:List Int):∃i,Fz zs i:=by
 have key:∀n,(∃k,k<n∧zs.getD k 0=0∧∀j,j<k→zs.getD j 0≠0)∨∀j,j<n→zs.getD j 0≠0:=by
  intro n
  induction n with
  | zero=>exact Or.inr fun j hj=>absurd hj (Nat.not_lt_zero _)
  | succ n ih=>
   rcases ih with⟨k,h1,h2⟩|h
   ·exact Or.inl ⟨k,by omega,h2⟩
   ·
    rcases Decidable.em (zs.getD n 0=0) with e|e
    ·exact Or.inl ⟨n,by omega,e,h⟩
    ·
     refine Or.inr fun j hj=>?_
     rcases Nat.lt_succ_iff_lt_or_eq.1 hj with hj|rfl
     ·exact h j hj
     ·exact e
 rcases key zs.length with⟨k,h1,h2,h3⟩|h
 ·exact⟨k,Or.inl ⟨k,rfl,h1,h2,h3⟩⟩
 ·exact⟨-1,Or.inr ⟨rfl,h⟩⟩
theorem Fz.hit{zs:List Int}{i:Int}(h:Fz zs i){k:Nat}(hk:k<zs.length)(hz:zs.getD k 0=0)(hb:∀j,j<k→zs.getD j 0≠0):i=k:=by
 rcases h with⟨k',rfl,h1,h2,h3⟩|⟨_,h⟩
 ·
  rcases Nat.lt_trichotomy k k' with h|h|h
  ·exact absurd hz (h3 _ h)
  ·rw[h]
  ·exact absurd h2 (hb _ h)
 ·exact absurd hz (h k hk)
theorem Fz.miss{zs:List Int}{i:Int}(h:Fz zs i)(hb:∀j,j<zs.length→zs.getD j 0≠0):i = -1:=by
 rcases h with⟨k',rfl,h1,h2,_⟩|⟨h,_⟩
 ·exact absurd h2 (hb _ h1)
 ·exact h
theorem zjU{zs:List Int}{k:Nat}(h:∀j,j<k→zs.getD j 0≠0)(h1:zs.getD k 0≠0):∀j,j<k+1→zs.getD j 0≠0:=by
 intro j hj
 rcases Nat.lt_succ_iff_lt_or_eq.1 hj with hj|rfl
 ·exact h j hj
 ·exact h1
theorem zb9(v:Value)(zs:List Int)(i:Int)(hi:Fz zs i)(w:World)(hf:Ints w.heap.size w v zs):Calls Tryd.prog 75 #[v,.int .i64 0] w fun e w'=>e=.returned (.int .i64 i)∧w'=w:=by
 obtain⟨ar,cr,rfl,hlr,_,hcr⟩:=hf
 have Hcr:=Lib.hid hcr
 have Hi:=Lib.hid hi
 clear hcr hi
 go_enter Tryd.func75,Tryd.ntmps75
 go_wp2
 go_loop [8] (fun i =>∃k:Nat,k≤zs.length∧i=.int .i64 k∧Hid (∀j,j<k→zs.getD j 0≠0)) (fun i=>zs.length-(intOf i).toNat)
 case atStart=>exact⟨0,Nat.zero_le _,rfl,Lib.hid fun j hj=>absurd hj (Nat.not_lt_zero _)⟩
 case round=>
  obtain⟨k,hk,rfl,hgood⟩:=hrel
  by_cases hlt:k<zs.length
  ·
   obtain⟨br,offr,vz,har,hbr,hcellr,hvz,hz⟩:=Hcr.out k hlt
   subst har hvz
   have hzz:=zau hlt 0
   generalize zs[k]=z at *
   have Hzz:=Lib.hid hzz
   clear hz hzz Hcr
   by_cases hz0:z=0
   ·
    subst hz0
    have hik:=Hi.out.hit hlt Hzz.out hgood.out
    go_wp2
    go_ret
    exact⟨rfl,rfl⟩
   ·
    have hzb:((0:Int) == z)=false:=by rw[beq_eq_false_iff_ne];exact Ne.symm hz0
    go_wp2
    go_round
    case rel=>exact⟨k+1,by omega,by go_num,Lib.hid (zjU hgood.out (by rw[Hzz.out];exact hz0))⟩
    case measure=>simp[intOf];omega
  ·
   have hik:=Hi.out.miss (fun j hj=>hgood.out j (by omega))
   go_wp2
   go_ret
   exact⟨rfl,rfl⟩
theorem FrOwn.setRow {base g c k : Nat} {w : World} {vr u : Value} {rs : List (List Int)} {zs row : List Int} {vs : List Value} (h : FrOwn base w (.slice (some ⟨g, 0, none⟩) rs.length c) vr rs zs vs) (hk : k < rs.length)
  (hu:w.ownsRow base 3 1 u row.length (row.map (Value.int .i64))) (h1:Apart u vr) (h2:Apart vr u) (h3:∀i,i<rs.length→i≠k→Apart u (vs.getD i undef)∧Apart (vs.getD i undef) u):
  FrOwn base (w.setCell ⟨g,k,none⟩ u) (.slice (some ⟨g,0,none⟩) rs.length c) vr (rs.set k row) zs (vs.set k u):=by
 obtain⟨g',cur,hg',hbg,hblk,_⟩:=zaF h.d (by omega)
 simp only[Option.some.injEq,Addr.mk.injEq,and_true] at hg'
 subst hg'
 have hl:=h.len
 have keep:∀{v:Value} {n:Nat} {xs:List Value},w.ownsRow base 3 1 v n xs→(w.setCell ⟨g,k,none⟩ u).ownsRow base 3 1 v n xs:=fun h=>zao h (zad h hblk (by decide)) _
 have getk:(vs.set k u).getD k undef=u:=by simp[List.getD,hl,hk]
 have getj:∀j,j≠k→(vs.set k u).getD j undef=vs.getD j undef:=fun j hj=>by simp[List.getD,Ne.symm hj]
 have rowk:(rs.set k row).getD k []=row:=by simp[List.getD,hk]
 have rowj:∀j,j≠k→(rs.set k row).getD j []=rs.getD j []:=fun j hj=>by simp[List.getD,Ne.symm hj]
 refine⟨by simpa using hl,?_,keep h.r,?_⟩
 ·
  rw[List.length_set]
  exact(h.d.stored k _).1
 ·
  rw[List.length_set]
  intro j hj
  by_cases hjk:j=k
  ·
   subst hjk
   rw[getk,rowk]
   refine⟨keep hu,h1,h2,fun i hi hij=>?_⟩
   rw[getj i hij]
   exact(h3 i hi hij).1
  ·
   obtain⟨q1,q2,q3,q4⟩:=h.rows j hj
   rw[getj j hjk,rowj j hjk]
   refine⟨keep q1,q2,q3,fun i hi hij=>?_⟩
   by_cases hik:i=k
   ·
    subst hik
    rw[getk]
    exact(h3 j hj hjk).2
   ·
    rw[getj i hik]
    exact q4 i hi hij
theorem FrOwn.setWord {base g c k j : Nat} {w : World} {vd vr : Value} {rs : List (List Int)} {zs row : List Int} {vs : List Value} (h : FrOwn base w vd vr rs zs vs) (hk : k < rs.length) (hrow : rs.getD k [] = row)
  (hg:vs.getD k undef=.slice (some ⟨g,0,none⟩) row.length c) (hj:j<row.length) (z:Int):
  FrOwn base (w.setCell ⟨g,j,none⟩ (.int .i64 z)) vd vr (rs.set k (row.set j z)) zs vs:=by
 obtain⟨q1,q2,q3,q4⟩:=h.rows k hk
 rw[hrow,hg] at q1
 rw[hg] at q2 q4
 obtain⟨g',cur,hg',hbg,hblk,_⟩:=zaF q1 (by omega)
 simp only[Option.some.injEq,Addr.mk.injEq,and_true] at hg'
 subst hg'
 have ne_of:∀{v:Value},Apart (.slice (some ⟨g,0,none⟩) row.length c) v→some g≠v.ownBlock:=fun {v} ha=>by
  rcases ha with e|e
  ·simp[Value.ownBlock] at e
  ·exact e
 refine⟨by simpa using h.len,?_,zao h.r (ne_of q2) _,?_⟩
 ·
  rw[List.length_set]
  exact zao h.d (zad h.d hblk (by decide)) _
 ·
  rw[List.length_set]
  intro i hi
  by_cases hik:i=k
  ·
   subst hik
   have e1:(rs.set i (row.set j z)).getD i []=row.set j z:=by simp[List.getD,hk]
   rw[e1,hg]
   refine⟨?_,q2,q3 |> fun q=>by rw[hg] at q;exact q,q4⟩
   have:=(q1.stored j (.int .i64 z)).1
   rw[List.length_set,List.map_set]
   exact this
  ·
   obtain⟨p1,p2,p3,p4⟩:=h.rows i hi
   have e1:(rs.set k (row.set j z)).getD i []=rs.getD i []:=by simp[List.getD,Ne.symm hik]
   rw[e1]
   exact⟨zao p1 (ne_of (q4 i hi hik)) _,p2,p3,p4⟩
theorem FBd.setRow{rs:List (List Int)}{zs row:List Int}(h:FBd rs zs)(k:Nat)(h1:∀z∈row,I64 z)(h2:row.length≤17592186043904):FBd (rs.set k row) zs:=
 ⟨fun x hx=>(List.mem_or_eq_of_mem_set hx).elim (h.row x) (fun e=>e▸⟨h1,h2⟩),h.ref,by rw[List.length_set];exact h.nd,h.nr⟩
theorem FBd.rowAt{rs:List (List Int)}{zs:List Int}(h:FBd rs zs)(k:Nat):(∀z∈rs.getD k [],I64 z)∧(rs.getD k []).length≤17592186043904:=by
 by_cases hk:k<rs.length
 ·
  rw[zau hk]
  exact h.row _ (List.getElem_mem hk)
 ·
  have:rs.getD k []=[]:=by simp[List.getD,List.getElem?_eq_none (Nat.le_of_not_lt hk)]
  rw[this]
  exact⟨fun z hz=>by simp at hz,by simp⟩
theorem zhB{l:List Int}(h:∀z∈l,I64 z)(j:Nat){v:Int}(hv:I64 v):∀z∈l.set j v,I64 z:=fun z hz=>(List.mem_or_eq_of_mem_set hz).elim (h z) (fun e=>e▸hv)
theorem zhC(n:Nat):∀z∈List.replicate n (0:Int),I64 z:=fun z hz=>by rw[List.eq_of_mem_replicate hz];unfold I64;omega
end Go.Proofs.YtflonfcemlfbdaaDoor
