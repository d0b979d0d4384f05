/- Several texts joined, each with its own heading in the notes: The contract of the reference's GuestNew. The contracts of cpu. What a tape's check answers, in plain Lean, and run. run. No condition beyond those of each row. -/
import Derived.Test.YtflonfcemlfbdaaDoorYRl
import Derived.Deep.AppendLies
import Derived.Test.YtflonfcemlfbdaaDoorYEv
import Derived.Test.YtflonfcemlfbdaaDoorYDe
import Derived.Test.YtflonfcemlfbdaaDoorYSu
import Derived.StillTailTactics
import Derived.Deep.CutBlock
import Derived.Deep.CutRange
import Derived.Deep.LoopGhost
namespace Go.Proofs.YtflonfcemlfbdaaDoor
open Go Go.RowKit Go.ChangeShapes Go.WideShapes Go.Deep
set_option maxHeartbeats 4000000
set_option maxRecDepth 100000
set_option linter.unusedVariables false
attribute [local go_sem ↓] Go.wp_at_zero Go.wp_at_succ
theorem zeb(v:Value)(img:List Int)(w:World)(hv:Ints w.heap.size w v img)(hb:256<img.length∨img.any oddB=true):Calls Tryd.prog 25 #[v] w (zbt w zcj (newC img)):=by
 obtain⟨a,c,rfl,hl,hl2,hc⟩:=id hv
 have HV:=Lib.hid hv
 clear hv hc
 by_cases h1:256<img.length
 ·
  have hC:newC img=1:=by unfold newC;rw[if_pos h1]
  rw[hC]
  clear hC hb
  go_enter Tryd.func25,Tryd.ntmps25
  go_wp2
  exact bodyPost_ret (v:=.tuple #[.agg #[.slice none 0 0,.int .i64 0,.int .i64 0,.bool false,.bool false,.int .i64 0,.int .i64 0,.int .i64 0,.slice none 0 0,.slice none 0 0,.int .i64 0,.int .i64 0],.int .i64 1]) (by simp[results,Tryd.results25,go_sem]) rfl (zb5 (zai _ _))
 ·
  have h2:img.any oddB=true:=by rcases hb with h|h;exact absurd h h1;exact h
  have hC:newC img=2:=by unfold newC;rw[if_neg h1,if_pos h2]
  rw[hC]
  have H2:=Lib.hid h2
  clear hC hb h2
  go_enter Tryd.func25,Tryd.ntmps25
  go_wp2_with (go_at_call 40;refine(zji (zaN _ img _ ?_)).mono ?_;(exact HV.out.to (by simp) (zaw _ _));rintro e w' (⟨rfl,ho1,n1,rfl⟩|⟨rfl,ho1,n1,rfl⟩))
  ·
   refine bodyPost_ret (v:=.tuple #[.agg #[.slice none 0 0,.int .i64 0,.int .i64 0,.bool false,.bool false,.int .i64 0,.int .i64 0,.int .i64 0,.slice none 0 0,.slice none 0 0,.int .i64 0,.int .i64 0],.int .i64 2]) (by simp[results,Tryd.results25,go_sem]) rfl (zb5 ?_)
   repeat' (refine Below.setCell ?_ (by simp) _)
   exact below_drewN (zai _ _) _
  ·exact absurd (H2.out.symm.trans ho1.out) (by decide)
structure GInv(w:World)(gb gr:Nat)(a:Option Addr)(n c:Nat)(mem:List Int)(wx:World):Prop where
 x:wx.heap[w.heap.size]?=some (.cells #[.slice none 0 0,.int .i64 0,.int .i64 0,.bool false,.bool false,.int .i64 0,.int .i64 0,.int .i64 0,.slice none 0 0,.slice none 0 0,.int .i64 0,.int .i64 0] 48 (0,0))
 y:wx.heap[gb]?=some (.cells #[.slice (some ⟨gr,0,none⟩) 8 8,.int .i64 0,.int .i64 0,.bool false,.bool false,.int .i64 (-1),.int .i64 0,.int .i64 0,.slice a n c,.slice none 0 0,.int .i64 0,.int .i64 (-1)] 48 (0,0))
 r:wx.heap[gr]?=some (.cells ((List.replicate 8 (0:Int)).map (Value.int .i64)).toArray 3 (0,0))
 m:wx.ownsRow w.heap.size 3 1 (.slice a n c) n (mem.map (Value.int .i64))
 b:Below w.heap.size w wx
 wr:w.heap.size<gr
 wb:w.heap.size<gb
 rm:some gr≠(Value.slice a n c).ownBlock
theorem zhu {w wr W1 W4 : World} {gb gr n c g4 cp4 : Nat} {a : Option Addr} {mem : List Int} {O : Obj} (hd : W1 = wr.alloc O) (h : GInv w gb gr a n c mem wr)
  (own4:W4.ownsRow w.heap.size 3 1 (.slice (some ⟨g4,0,none⟩) (n+1) cp4) (n+1) ((mem++[0]).map (Value.int .i64))) (hg4:W1.grownBy W4 (Value.slice a n c).ownBlock) (hat:(Value.slice a n c).ownBlock=some g4∨g4=W1.heap.size):
  GInv w gb gr (some ⟨g4,0,none⟩) (n+1) cp4 (mem++[0]) (W4.setCell ⟨gb,8,none⟩ (.slice (some ⟨g4,0,none⟩) (n+1) cp4)):=by
 subst hd
 have b1:=zai wr O
 have m1:=h.m.alloc O
 have x1:=zac b1 h.x (Array.getElem?_eq_some_iff.1 h.x).1
 have y1:=zac b1 h.y (Array.getElem?_eq_some_iff.1 h.y).1
 have lr:=(Array.getElem?_eq_some_iff.1 h.r).1
 have r1:=zac b1 h.r lr
 have x4:=zam hg4 x1 (zad m1 x1 (by decide))
 have y4:=zam hg4 y1 (zad m1 y1 (by decide))
 have r4:=zam hg4 r1 h.rm
 have nrb:gr≠gb:=by intro e;subst e;have:=h.y;rw[h.r] at this;simp at this
 refine⟨zah x4 (by have:=h.wb;omega) _,?_,zah r4 nrb _,zao own4 (zad own4 y4 (by decide)) _,(below_grown (h.b.trans (b1.mono h.b.size)) m1 hg4 (by have:=h.b.size;simp;omega) (Nat.le_refl _)).setCell (by simp;have:=h.wb;omega) _,h.wr,h.wb,?_⟩
 ·simpa using zaf (i:=8) y4 (.slice (some ⟨g4,0,none⟩) (n+1) cp4)
 ·
  rcases hat with e|e
  ·
   intro e'
   exact h.rm (by rw[e',e];rfl)
  ·
   simp only[Value.ownBlock,ne_eq,Option.some.injEq]
   simp at e
   omega
theorem GInv.own{w wx:World}{gb gr c:Nat}{a:Option Addr}{img:List Int}(hl:img.length≤256)(h:GInv w gb gr a 256 c (zas img).mem wx):SInv w w.heap.size (zas img) (.slice (some ⟨gr,0,none⟩) 8 8) (.slice a 256 c) (.slice none 0 0) wx:=by
 have l1:(zas img).regs.length=8:=by simp[zas]
 have l2:=zbF img hl
 have o1:=zbE (base:=w.heap.size) h.r (by have:=h.wr;omega) (n:=8) (by simp) (by omega)
 have hm:=h.m
 refine⟨⟨by rw[l1];exact o1,by rw[l2];exact hm,World.ownsRow_nil _ _ _ _,Or.inr h.rm,?_,?_,?_,Or.inl rfl,Or.inl rfl⟩,⟨_,h.x⟩,h.b⟩
 ·exact Or.inr (by simp[Value.ownBlock])
 ·
  unfold Apart
  cases e:Value.ownBlock (.slice a 256 c) with
  | none=>exact Or.inl rfl
  | some q=>exact Or.inr (by simp[Value.ownBlock])
 ·
  unfold Apart
  cases e:Value.ownBlock (.slice a 256 c) with
  | none=>exact Or.inl rfl
  | some q=>exact Or.inr (by have:=h.rm;rw[e] at this;exact fun e'=>this e'.symm)
theorem set12{w:World}{g:Nat}{t:TypeId}{a0 a1 a2 a3 a4 a5 a6 a7 a8 a9 a10 a11 b0 b1 b2 b3 b4 b5 b6 b7 b8 b9 b10 b11:Value}(h:w.heap[g]?=some (.cells #[a0,a1,a2,a3,a4,a5,a6,a7,a8,a9,a10,a11] t (0,0))):((((((((((((w.setCell ⟨g,0,none⟩ b0).setCell ⟨g,1,none⟩ b1).setCell ⟨g,2,none⟩ b2).setCell ⟨g,3,none⟩ b3).setCell ⟨g,4,none⟩ b4).setCell ⟨g,5,none⟩ b5).setCell ⟨g,6,none⟩ b6).setCell ⟨g,7,none⟩ b7).setCell ⟨g,8,none⟩ b8).setCell ⟨g,9,none⟩ b9).setCell ⟨g,10,none⟩ b10).setCell ⟨g,11,none⟩ b11).heap[g]?=some (.cells #[b0,b1,b2,b3,b4,b5,b6,b7,b8,b9,b10,b11] t (0,0)):=by
 simpa using(zaf (i:=11) (zaf (i:=10) (zaf (i:=9) (zaf (i:=8) (zaf (i:=7) (zaf (i:=6) (zaf (i:=5) (zaf (i:=4) (zaf (i:=3) (zaf (i:=2) (zaf (i:=1) (zaf (i:=0) h b0) b1) b2) b3) b4) b5) b6) b7) b8) b9) b10) b11)
abbrev gbox (gr:Nat) (a2:Option Addr) (n c2:Nat):Obj:=.cells #[.slice (some ⟨gr,0,none⟩) 8 8,.int .i64 0,.int .i64 0,.bool false,.bool false,.int .i64 (-1),.int .i64 0,.int .i64 0,.slice a2 n c2,.slice none 0 0,.int .i64 0,.int .i64 (-1)] 48 (0,0)
abbrev gsets (w:World) (g gr:Nat) (a2:Option Addr) (n c2:Nat):World:=((((((((((((w.setCell ⟨g,0,none⟩ (.slice (some ⟨gr,0,none⟩) 8 8)).setCell ⟨g,1,none⟩ (.int .i64 0)).setCell ⟨g,2,none⟩ (.int .i64 0)).setCell ⟨g,3,none⟩ (.bool false)).setCell ⟨g,4,none⟩ (.bool false)).setCell ⟨g,5,none⟩ (.int .i64 (-1))).setCell ⟨g,6,none⟩ (.int .i64 0)).setCell ⟨g,7,none⟩ (.int .i64 0)).setCell ⟨g,8,none⟩ (.slice a2 n c2)).setCell ⟨g,9,none⟩ (.slice none 0 0)).setCell ⟨g,10,none⟩ (.int .i64 0)).setCell ⟨g,11,none⟩ (.int .i64 (-1)))
abbrev zobj:Obj:=.cells #[.slice none 0 0,.int .i64 0,.int .i64 0,.bool false,.bool false,.int .i64 0,.int .i64 0,.int .i64 0,.slice none 0 0,.slice none 0 0,.int .i64 0,.int .i64 0] 48 (0,0)
structure GPre(w w2:World)(lo:Nat)(a2:Option Addr)(n c2:Nat)(img:List Int):Prop where
 x:w2.heap[w.heap.size]?=some zobj
 b:Below w.heap.size w w2
 o:w2.ownsRow w.heap.size 3 1 (.slice a2 n c2) n (img.map (Value.int .i64))
 l:∀k,(Value.slice a2 n c2).ownBlock=some k→lo≤k∧k<w2.heap.size
 s:lo≤w2.heap.size
 p:w.heap.size<lo
theorem zdD{w:World}{g gr n c2 k:Nat}{a2:Option Addr}{o:Obj}(h:w.heap[k]?=some o)(hne:k≠g):(gsets w g gr a2 n c2).heap[k]?=some o:=by
 simp only[gsets]
 repeat (refine zah ?_ hne _)
 exact h
theorem zec{w:World}{g gr n c2 m base:Nat}{a2:Option Addr}{v:Value}{xs:List Value}(h:w.ownsRow base 3 1 v m xs)(hne:some g≠v.ownBlock):(gsets w g gr a2 n c2).ownsRow base 3 1 v m xs:=by
 simp only[gsets]
 repeat (refine zao ?_ hne _)
 exact h
theorem zcW{w0 w:World}{B g gr n c2:Nat}{a2:Option Addr}(h:Below B w0 w)(hg:B≤g):Below B w0 (gsets w g gr a2 n c2):=by
 simp only[gsets]
 repeat (refine Below.setCell ?_ (by simpa using hg) _)
 exact h
theorem zbN(w:World)(g gr n c2:Nat)(a2:Option Addr):(gsets w g gr a2 n c2).heap.size=w.heap.size:=by simp[gsets]
theorem zreg(w:World)(g:Nat)(h:w.heap[g]?=some (.cells (zay 8) 3 (0,0))):w.heap[g]?=some (.cells ((List.replicate 8 (0:Int)).map (Value.int .i64)).toArray 3 (0,0)):=by rw[←zbg];exact h
theorem zjO{w w2:World}{lo gr n c2:Nat}{a2:Option Addr}{img:List Int}(h:GPre w w2 lo a2 n c2 img)(hr:w2.heap[gr]?=some (.cells (zay 8) 3 (0,0)))(h1:w.heap.size<gr)(h2:gr<lo):GInv w w2.heap.size gr a2 n c2 img (w2.alloc (gbox gr a2 n c2)):=
 ⟨(zaj (by have:=h.p;have:=h.s;omega)).trans h.x,alloc_at rfl,zreg _ _ ((zaj (by have:=h.s;omega)).trans hr),h.o.alloc _,h.b.alloc h.b.size _,h1,by have:=h.s;omega,fun e=>by have:=h.l gr e.symm;omega⟩
theorem zhv{w w2:World}{lo g gr n c2:Nat}{a2:Option Addr}{img:List Int}(h:GPre w w2 lo a2 n c2 img)(hr:w2.heap[gr]?=some (.cells (zay 8) 3 (0,0)))(hg:w2.heap[g]?=some zobj)(h1:w.heap.size<gr)(h2:gr<lo)(h3:w.heap.size<g)(h4:g<lo):GInv w g gr a2 n c2 img (gsets w2 g gr a2 n c2):=
 ⟨zdD h.x (by omega),set12 hg,zreg _ _ (zdD hr (by intro e;subst e;rw[hg] at hr;simp at hr)),zec h.o (fun e=>by have:=h.l g e.symm;omega),zcW h.b (by omega),h1,h3,fun e=>by have:=h.l gr e.symm;omega⟩
theorem zjP{w w2:World}{lo n c2:Nat}{a2:Option Addr}{img:List Int}(h:GPre w w2 lo a2 n c2 img):GInv w (w2.heap.size+1) w2.heap.size a2 n c2 img ((w2.alloc (.cells (zay 8) 3)).alloc (gbox w2.heap.size a2 n c2)):=
 ⟨(zaj (by have:=h.p;have:=h.s;simp;omega)).trans ((zaj (by have:=h.p;have:=h.s;omega)).trans h.x),alloc_at (by simp),zreg _ _ ((zaj (by simp)).trans (alloc_at rfl)),(h.o.alloc _).alloc _,(h.b.alloc h.b.size _).alloc (by have:=h.b.size;simp;omega) _,by have:=h.s;have:=h.p;omega,by have:=h.s;have:=h.p;omega,fun e=>by have:=h.l _ e.symm;omega⟩
theorem zjQ{w w2:World}{lo n c2:Nat}{a2:Option Addr}{img:List Int}(h:GPre w w2 lo a2 n c2 img):GInv w w2.heap.size (w2.heap.size+1) a2 n c2 img ((w2.alloc (gbox (w2.heap.size+1) a2 n c2)).alloc (.cells (zay 8) 3)):=
 ⟨(zaj (by have:=h.p;have:=h.s;simp;omega)).trans ((zaj (by have:=h.p;have:=h.s;omega)).trans h.x),(zaj (by simp)).trans (alloc_at rfl),zreg _ _ (alloc_at (by simp)),(h.o.alloc _).alloc _,(h.b.alloc h.b.size _).alloc (by have:=h.b.size;simp;omega) _,by have:=h.s;have:=h.p;omega,by have:=h.s;have:=h.p;omega,fun e=>by have:=h.l _ e.symm;omega⟩
theorem zjR{w w2:World}{lo g n c2:Nat}{a2:Option Addr}{img:List Int}(h:GPre w w2 lo a2 n c2 img)(hg:w2.heap[g]?=some zobj)(h3:w.heap.size<g)(h4:g<lo):GInv w g w2.heap.size a2 n c2 img ((gsets w2 g w2.heap.size a2 n c2).alloc (.cells (zay 8) 3)):=
 ⟨(zaj (by rw[zbN];have:=h.p;have:=h.s;omega)).trans (zdD h.x (by omega)),(zaj (by rw[zbN];have:=h.s;omega)).trans (set12 hg),zreg _ _ (alloc_at (by rw[zbN])),(zec h.o (fun e=>by have:=h.l g e.symm;omega)).alloc _,(zcW h.b (by omega)).alloc (by rw[zbN];exact h.b.size) _,by have:=h.s;have:=h.p;omega,h3,fun e=>by have:=h.l _ e.symm;omega⟩
theorem zgi(v:Value)(img:List Int)(w:World)(hv:Ints w.heap.size w v img)(h1:img.length≤256)(h2:img.any oddB=false):Calls Tryd.prog 25 #[v] w (zbt w (zas img) 0):=by
 obtain⟨a,c,rfl,hl,hl2,hc⟩:=id hv
 have HV:=Lib.hid hv
 have H2:=Lib.hid h2
 have hmk8:=mk8
 clear hv hc h2
 go_enter Tryd.func25,Tryd.ntmps25
 go_wp2_with (go_at_call 40;refine(zji (zaN _ img _ ?_)).mono ?_;(exact HV.out.to (by simp) (zaw _ _));rintro e w' (⟨rfl,ho1,n1,rfl⟩|⟨rfl,ho1,n1,rfl⟩))
 ·exact absurd (H2.out.symm.trans ho1.out) (by decide)
 clear ho1
 have hB0:Below w.heap.size w ((w.alloc (.cells #[.slice none 0 0,.int .i64 0,.int .i64 0,.bool false,.bool false,.int .i64 0,.int .i64 0,.int .i64 0,.slice none 0 0,.slice none 0 0,.int .i64 0,.int .i64 0] 48)).drewN n1):=below_drewN (zai w _) _
 have hX0:((w.alloc (.cells #[.slice none 0 0,.int .i64 0,.int .i64 0,.bool false,.bool false,.int .i64 0,.int .i64 0,.int .i64 0,.slice none 0 0,.slice none 0 0,.int .i64 0,.int .i64 0] 48)).drewN n1).heap[w.heap.size]?=some (.cells #[.slice none 0 0,.int .i64 0,.int .i64 0,.bool false,.bool false,.int .i64 0,.int .i64 0,.int .i64 0,.slice none 0 0,.slice none 0 0,.int .i64 0,.int .i64 0] 48 (0,0)):=alloc_at rfl
 go_upto_region 5 with fail
 generalize World.drewN _ _=W0 at hB0 hX0 ⊢
 have s0:=(Array.getElem?_eq_some_iff.1 hX0).1
 have HB0:=Lib.hid hB0
 have HX0:=Lib.hid hX0
 clear hB0 hX0
 go_cut [4] (fun s4 wx =>∃gb gr a c,s4=.pointer (some ⟨gb,0,none⟩)∧GInv w gb gr a img.length c img wx)
 case first=>
  go_region_with ((go_at_call 28;refine(zbJ _ img _ ?_).mono ?_;(first|exact HV.out.to (by simp;omega) (zae HB0.out.drew)|exact HV.out.to (by simp;omega) (zae (HB0.out.drew.alloc (by simp;omega) _))|exact HV.out.to (by simp;omega) (zae ((HB0.out.drew.alloc (by simp;omega) _).alloc (by simp;omega) _)));rintro e w2 ⟨a2,cc2,rfl,hown2,hb2⟩;(first|(have s2:W0.heap.size+1+1≤w2.heap.size:=(by have:=hb2.size;simpa using this);have HR:=Lib.hid (show w2.heap[W0.heap.size]?=some (.cells (zay 8) 3 (0,0)) from zac hb2 ((zaj (by simp)).trans (alloc_at rfl)) (by simp;omega));have HA:=Lib.hid (show w2.heap[(W0.heap.size+1)]?=some zobj from zac hb2 (alloc_at (by simp)) (by simp));have lA:=(Array.getElem?_eq_some_iff.1 HA.out).1;have c0:w2.cell? ⟨(W0.heap.size+1),0,none⟩=some (.slice none 0 0):=zaa HA.out 0;have f0:=zab HA.out 0;have c1:w2.cell? ⟨(W0.heap.size+1),1,none⟩=some (.int .i64 0):=zaa HA.out 1;have f1:=zab HA.out 1;have c2:w2.cell? ⟨(W0.heap.size+1),2,none⟩=some (.int .i64 0):=zaa HA.out 2;have f2:=zab HA.out 2;have c3:w2.cell? ⟨(W0.heap.size+1),3,none⟩=some (.bool false):=zaa HA.out 3;have f3:=zab HA.out 3;have c4:w2.cell? ⟨(W0.heap.size+1),4,none⟩=some (.bool false):=zaa HA.out 4;have f4:=zab HA.out 4;have c5:w2.cell? ⟨(W0.heap.size+1),5,none⟩=some (.int .i64 0):=zaa HA.out 5;have f5:=zab HA.out 5;have c6:w2.cell? ⟨(W0.heap.size+1),6,none⟩=some (.int .i64 0):=zaa HA.out 6;have f6:=zab HA.out 6;have c7:w2.cell? ⟨(W0.heap.size+1),7,none⟩=some (.int .i64 0):=zaa HA.out 7;have f7:=zab HA.out 7;have c8:w2.cell? ⟨(W0.heap.size+1),8,none⟩=some (.slice none 0 0):=zaa HA.out 8;have f8:=zab HA.out 8;have c9:w2.cell? ⟨(W0.heap.size+1),9,none⟩=some (.slice none 0 0):=zaa HA.out 9;have f9:=zab HA.out 9;have c10:w2.cell? ⟨(W0.heap.size+1),10,none⟩=some (.int .i64 0):=zaa HA.out 10;have f10:=zab HA.out 10;have c11:w2.cell? ⟨(W0.heap.size+1),11,none⟩=some (.int .i64 0):=zaa HA.out 11;have f11:=zab HA.out 11;have GP:=Lib.hid (show GPre w w2 (W0.heap.size+1+1) a2 img.length cc2 img from ⟨zac hb2 ((zaj (by simp;omega)).trans ((zaj s0).trans HX0.out)) (by simp;omega),((HB0.out.drew.alloc (by simp;omega) _).alloc (by simp;omega) _).trans (hb2.mono (by simp;omega)),zar hown2 (by simp;omega),(fun k h=>(by have h':=hown2.lt k h;simpa using h')),s2,(by omega)⟩))|(have s2:W0.heap.size+1+1≤w2.heap.size:=(by have:=hb2.size;simpa using this);have HA:=Lib.hid (show w2.heap[W0.heap.size]?=some zobj from zac hb2 ((zaj (by simp)).trans (alloc_at rfl)) (by simp;omega));have lA:=(Array.getElem?_eq_some_iff.1 HA.out).1;have c0:w2.cell? ⟨W0.heap.size,0,none⟩=some (.slice none 0 0):=zaa HA.out 0;have f0:=zab HA.out 0;have c1:w2.cell? ⟨W0.heap.size,1,none⟩=some (.int .i64 0):=zaa HA.out 1;have f1:=zab HA.out 1;have c2:w2.cell? ⟨W0.heap.size,2,none⟩=some (.int .i64 0):=zaa HA.out 2;have f2:=zab HA.out 2;have c3:w2.cell? ⟨W0.heap.size,3,none⟩=some (.bool false):=zaa HA.out 3;have f3:=zab HA.out 3;have c4:w2.cell? ⟨W0.heap.size,4,none⟩=some (.bool false):=zaa HA.out 4;have f4:=zab HA.out 4;have c5:w2.cell? ⟨W0.heap.size,5,none⟩=some (.int .i64 0):=zaa HA.out 5;have f5:=zab HA.out 5;have c6:w2.cell? ⟨W0.heap.size,6,none⟩=some (.int .i64 0):=zaa HA.out 6;have f6:=zab HA.out 6;have c7:w2.cell? ⟨W0.heap.size,7,none⟩=some (.int .i64 0):=zaa HA.out 7;have f7:=zab HA.out 7;have c8:w2.cell? ⟨W0.heap.size,8,none⟩=some (.slice none 0 0):=zaa HA.out 8;have f8:=zab HA.out 8;have c9:w2.cell? ⟨W0.heap.size,9,none⟩=some (.slice none 0 0):=zaa HA.out 9;have f9:=zab HA.out 9;have c10:w2.cell? ⟨W0.heap.size,10,none⟩=some (.int .i64 0):=zaa HA.out 10;have f10:=zab HA.out 10;have c11:w2.cell? ⟨W0.heap.size,11,none⟩=some (.int .i64 0):=zaa HA.out 11;have f11:=zab HA.out 11;have HR:=Lib.hid (show w2.heap[(W0.heap.size+1)]?=some (.cells (zay 8) 3 (0,0)) from zac hb2 (alloc_at (by simp)) (by simp));have GP:=Lib.hid (show GPre w w2 (W0.heap.size+1+1) a2 img.length cc2 img from ⟨zac hb2 ((zaj (by simp;omega)).trans ((zaj s0).trans HX0.out)) (by simp;omega),((HB0.out.drew.alloc (by simp;omega) _).alloc (by simp;omega) _).trans (hb2.mono (by simp;omega)),zar hown2 (by simp;omega),(fun k h=>(by have h':=hown2.lt k h;simpa using h')),s2,(by omega)⟩))|(have s2:W0.heap.size+1≤w2.heap.size:=(by have:=hb2.size;simpa using this);have HR:=Lib.hid (show w2.heap[W0.heap.size]?=some (.cells (zay 8) 3 (0,0)) from zac hb2 (alloc_at rfl) (by simp));have GP:=Lib.hid (show GPre w w2 (W0.heap.size+1) a2 img.length cc2 img from ⟨zac hb2 ((zaj s0).trans HX0.out) (by simp;omega),(HB0.out.drew.alloc (by simp;omega) _).trans (hb2.mono (by simp;omega)),zar hown2 (by simp;omega),(fun k h=>(by have h':=hown2.lt k h;simpa using h')),s2,(by omega)⟩))|(have s2:W0.heap.size+1≤w2.heap.size:=(by have:=hb2.size;simpa using this);have HA:=Lib.hid (show w2.heap[W0.heap.size]?=some zobj from zac hb2 (alloc_at rfl) (by simp));have lA:=(Array.getElem?_eq_some_iff.1 HA.out).1;have c0:w2.cell? ⟨W0.heap.size,0,none⟩=some (.slice none 0 0):=zaa HA.out 0;have f0:=zab HA.out 0;have c1:w2.cell? ⟨W0.heap.size,1,none⟩=some (.int .i64 0):=zaa HA.out 1;have f1:=zab HA.out 1;have c2:w2.cell? ⟨W0.heap.size,2,none⟩=some (.int .i64 0):=zaa HA.out 2;have f2:=zab HA.out 2;have c3:w2.cell? ⟨W0.heap.size,3,none⟩=some (.bool false):=zaa HA.out 3;have f3:=zab HA.out 3;have c4:w2.cell? ⟨W0.heap.size,4,none⟩=some (.bool false):=zaa HA.out 4;have f4:=zab HA.out 4;have c5:w2.cell? ⟨W0.heap.size,5,none⟩=some (.int .i64 0):=zaa HA.out 5;have f5:=zab HA.out 5;have c6:w2.cell? ⟨W0.heap.size,6,none⟩=some (.int .i64 0):=zaa HA.out 6;have f6:=zab HA.out 6;have c7:w2.cell? ⟨W0.heap.size,7,none⟩=some (.int .i64 0):=zaa HA.out 7;have f7:=zab HA.out 7;have c8:w2.cell? ⟨W0.heap.size,8,none⟩=some (.slice none 0 0):=zaa HA.out 8;have f8:=zab HA.out 8;have c9:w2.cell? ⟨W0.heap.size,9,none⟩=some (.slice none 0 0):=zaa HA.out 9;have f9:=zab HA.out 9;have c10:w2.cell? ⟨W0.heap.size,10,none⟩=some (.int .i64 0):=zaa HA.out 10;have f10:=zab HA.out 10;have c11:w2.cell? ⟨W0.heap.size,11,none⟩=some (.int .i64 0):=zaa HA.out 11;have f11:=zab HA.out 11;have GP:=Lib.hid (show GPre w w2 (W0.heap.size+1) a2 img.length cc2 img from ⟨zac hb2 ((zaj s0).trans HX0.out) (by simp;omega),(HB0.out.drew.alloc (by simp;omega) _).trans (hb2.mono (by simp;omega)),zar hown2 (by simp;omega),(fun k h=>(by have h':=hown2.lt k h;simpa using h')),s2,(by omega)⟩))|(have s2:W0.heap.size≤w2.heap.size:=(by have:=hb2.size;simpa using this);have GP:=Lib.hid (show GPre w w2 W0.heap.size a2 img.length cc2 img from ⟨zac hb2 (HX0.out) (by simp;omega),HB0.out.drew.trans (hb2.mono (by simp;omega)),zar hown2 (by simp;omega),(fun k h=>(by have h':=hown2.lt k h;simpa using h')),s2,(by omega)⟩)))))
  all_goals (go_wp2_with fail;go_meet)
  ·exact⟨_,_,a2,cc2,rfl,zjO GP.out HR.out (by omega) (by omega)⟩
  ·exact⟨_,_,a2,cc2,rfl,zhv GP.out HR.out HA.out (by omega) (by omega) (by omega) (by omega)⟩
  ·exact⟨_,_,a2,cc2,rfl,zjP GP.out⟩
  ·exact⟨_,_,a2,cc2,rfl,zjQ GP.out⟩
  ·exact⟨_,_,a2,cc2,rfl,zhv GP.out HR.out HA.out (by omega) (by omega) (by omega) (by omega)⟩
  ·exact⟨_,_,a2,cc2,rfl,zjR GP.out HA.out (by omega) (by omega)⟩
 case rest=>
  obtain⟨gb,gr,a2,c2,rfl,hG⟩:=hcut
  have HG:=Lib.hid (show GInv w gb gr a2 img.length c2 (img++List.replicate (img.length-img.length) 0) wc by simpa using hG)
  clear hG HV H2 HB0 HX0 s0 hmk8
  go_wp2
  go_loopg [17] 256 (fun gg _ wr =>∃(n:Nat) (a:Option Addr) (c:Nat),img.length≤n∧n≤256∧256-n≤gg∧GInv w gb gr a n c (img++List.replicate (n-img.length) 0) wr)
  case atStart=>exact⟨img.length,a2,c2,Nat.le_refl _,h1,by omega,HG.out⟩
  case round=>
   obtain⟨n,a3,c3,hn1,hn2,hgg,hG⟩:=hrel
   by_cases hlt:n<256
   ·
    have e8:wr.cell? ⟨gb,8,none⟩=some (.slice a3 n c3):=zaa hG.y 8
    have lgb:gb<wr.heap.size:=(Array.getElem?_eq_some_iff.1 hG.y).1
    have hwb:w.heap.size≤wr.heap.size:=hG.b.size
    have hm:=hG.m
    have HY:=Lib.hid hG.y
    have HM:=Lib.hid hm
    have HGG:=Lib.hid hG
    obtain⟨i0,hi0,hz0,hz1,hz2⟩:=info_parts zbh
    clear hm hG
    have hlt':(n:Int)<256:=by omega
    go_wp2_with (at_builtin;go_loud (refine wpList_append_lies _ rfl (.tmp 22) (.tmp 23) 24 rfl w.heap.size 3 i0 (.int .i64 0) 1 8 Tryd.underlying24 hi0 hz0 hz1 hz2 rfl (by decide) (.slice a3 n c3) n _ (by rfl) (HM.out.alloc _) ⟨wr.heap.size,0,none⟩ 1 1 [.int .i64 0] (by rfl) rfl (World.news_of_block (heap_alloc_new wr _)) (by simp[Value.oneCell']) (by omega) (by unfold maxLen;omega) (by omega) (by simp;omega) _ rfl ?_);intro g4 cp4 w4 hown4 hgrow4 hat4 hlt4;have HG4:=Lib.hid (zam hgrow4 ((zaj lgb).trans HY.out) (zad HM.out HY.out (by decide)));have eb4:w4.cell? ⟨gb,8,none⟩=some (.slice a3 n c3):=zaa HG4.out 8;have fb4:=zab HG4.out 8)
    go_roundg (256-(n+1))
    case measure=>omega
    case rel=>exact⟨n+1,_,_,by omega,by omega,by omega,by
     have hs:=zhu (O:=.cells #[.int .i64 0] 3) rfl HGG.out (by simpa using hown4) hgrow4 hat4
     rw[List.append_assoc,←List.replicate_succ'] at hs
     rw[show n+1-img.length=n-img.length+1 by omega]
     exact hs⟩
   ·
    obtain rfl:n=256:=by omega
    have hS:=hG.own h1
    first|(obtain⟨r0,r1,r2,r3,r4,r5,r6,r7,r8,r9,r10,r11⟩:=zaz hG.x)|(obtain⟨r0,r1,r2,r3,r4,r5,r6,r7,r8,r9,r10,r11⟩:=zaA hG.x)
    have f0:=zab hG.x 0
    have f1:=zab hG.x 1
    have f2:=zab hG.x 2
    have f3:=zab hG.x 3
    have f4:=zab hG.x 4
    have f5:=zab hG.x 5
    have f6:=zab hG.x 6
    have f7:=zab hG.x 7
    have f8:=zab hG.x 8
    have f9:=zab hG.x 9
    have f10:=zab hG.x 10
    have f11:=zab hG.x 11
    first|(obtain⟨q0,q1,q2,q3,q4,q5,q6,q7,q8,q9,q10,q11⟩:=zaz hG.y)|(obtain⟨q0,q1,q2,q3,q4,q5,q6,q7,q8,q9,q10,q11⟩:=zaA hG.y)
    have HS:=Lib.hid hS
    clear hS hG HG
    go_wp2
    refine bodyPost_ret (v:=.tuple #[(zas img).agg (.slice (some ⟨gr,0,none⟩) 8 8) (.slice a3 256 c3) (.slice none 0 0),.int .i64 0]) ?_ rfl ?_
    ·simp[results,Tryd.results25,go_sem,Mach.agg,zas,r0,r1,r2,r3,r4,r5,r6,r7,r8,r9,r10,r11]
    ·
     have l1:(zas img).regs.length=8:=by simp[zas]
     have l2:=zbF img h1
     refine SInv.post' (g:=w.heap.size) l1.symm l2.symm rfl ?_
     repeat' (refine SInv.step (Nat.le_refl _) _ _ ?_)
     exact HS.out
end Go.Proofs.YtflonfcemlfbdaaDoor
namespace Go.Proofs.YtflonfcemlfbdaaDoor
open Go Go.RowKit Go.ChangeShapes Go.WideShapes Go.ChangeAt
set_option maxHeartbeats 4000000
set_option maxRecDepth 100000
set_option linter.unusedVariables false
theorem zdE(v:Value)(img:List Int)(w:World)(hv:Ints w.heap.size w v img):Calls Tryd.prog 30 #[v] w (zbt w (newM img) (newC img)):=by
 by_cases h1:256<img.length
 ·
  have e:newM img=zcj:=by unfold newM;rw[if_pos h1]
  rw[e];exact zht v img w hv (Or.inl h1)
 ·
  cases h2:img.any oddB with
  | true=>
   have e:newM img=zcj:=by unfold newM;rw[if_neg h1,if_pos h2]
   rw[e];exact zht v img w hv (Or.inr h2)
  | false=>
   have e:newM img=zas img:=by unfold newM;rw[if_neg h1,if_neg (by rw[h2];decide)]
   have e':newC img=0:=by unfold newC;rw[if_neg h1,if_neg (by rw[h2];decide)]
   rw[e,e'];exact ziN v img w hv (by omega) h2
theorem zcs(v:Value)(img:List Int)(w:World)(hv:Ints w.heap.size w v img):Calls Tryd.prog 25 #[v] w (zbt w (newM img) (newC img)):=by
 by_cases h1:256<img.length
 ·
  have e:newM img=zcj:=by unfold newM;rw[if_pos h1]
  rw[e];exact zeb v img w hv (Or.inl h1)
 ·
  cases h2:img.any oddB with
  | true=>
   have e:newM img=zcj:=by unfold newM;rw[if_neg h1,if_pos h2]
   rw[e];exact zeb v img w hv (Or.inr h2)
  | false=>
   have e:newM img=zas img:=by unfold newM;rw[if_neg h1,if_neg (by rw[h2];decide)]
   have e':newC img=0:=by unfold newC;rw[if_neg h1,if_neg (by rw[h2];decide)]
   rw[e,e'];exact zgi v img w hv (by omega) h2
def ChkR(img:List Int)(b:List UInt8)(cnt c:Int)(l:List Ev):Prop:=
 (newC img≠0∧c=newC img∧l=[]) ∨
 (newC img=0∧(cnt<0∨3000<cnt)∧c=2∧l=[]) ∨
 (newC img=0∧0≤cnt∧cnt≤3000∧∃d m,DecR b d m∧((d≠0∧c=d∧l=[])∨(d=0∧(∃(i:Nat) (h:i<m.length),cnt≤m[i].at_)∧c=9∧l=[])∨(d=0∧(∀(i:Nat) (h:i<m.length),m[i].at_<cnt)∧c=0∧l=m)))
theorem ChkR.det{img:List Int}{b:List UInt8}{cnt c d:Int}{l m:List Ev}(h:ChkR img b cnt c l)(k:ChkR img b cnt d m):c=d∧l=m:=by
 rcases h with⟨h1,rfl,rfl⟩|⟨h1,h2,rfl,rfl⟩|⟨h1,h2,h3,e,x,hd,h⟩<;>rcases k with⟨k1,rfl,rfl⟩|⟨k1,k2,rfl,rfl⟩|⟨k1,k2,k3,e',x',hd',k⟩
 ·exact⟨rfl,rfl⟩
 ·exact absurd k1 h1
 ·exact absurd k1 h1
 ·exact absurd h1 k1
 ·exact⟨rfl,rfl⟩
 ·
  rcases h2 with h2|h2
  ·exact absurd k2 (Int.not_le.2 h2)
  ·exact absurd k3 (Int.not_le.2 h2)
 ·exact absurd h1 k1
 ·
  rcases k2 with k2|k2
  ·exact absurd h2 (Int.not_le.2 k2)
  ·exact absurd h3 (Int.not_le.2 k2)
 ·
  obtain⟨rfl,rfl⟩:=hd.det hd'
  rcases h with⟨h4,rfl,rfl⟩|⟨h4,⟨i,hi,h5⟩,rfl,rfl⟩|⟨h4,h5,rfl,rfl⟩<;>rcases k with⟨k4,rfl,rfl⟩|⟨k4,⟨j,hj,k5⟩,rfl,rfl⟩|⟨k4,k5,rfl,rfl⟩
  ·exact⟨rfl,rfl⟩
  ·exact absurd k4 h4
  ·exact absurd k4 h4
  ·exact absurd h4 k4
  ·exact⟨rfl,rfl⟩
  ·exact absurd h5 (Int.not_le.2 (k5 i hi))
  ·exact absurd h4 k4
  ·exact absurd k5 (Int.not_le.2 (h5 j hj))
  ·exact⟨rfl,rfl⟩
theorem zjS{l:List Ev}(h:EvOk l){i:Nat}(hi:i<l.length):∀(j:Nat) (hj:j<l.length),i≤j→l[i].at_≤l[j].at_:=by
 intro j
 induction j with
 | zero=>
  intro hj hij
  obtain rfl:i=0:=by omega
  exact Int.le_refl _
 | succ k ih=>
  intro hj hij
  by_cases he:i=k+1
  ·subst he;exact Int.le_refl _
  ·
   have h1:=ih (by omega) (by omega)
   have h2:=(zjA h hj).2.2.2.2.2.2.2
   rw[zcI (by omega)] at h2
   omega
theorem zfJ{b:List UInt8}{l:List Ev}(h:DecR b 0 l){i:Nat}(hi:i<l.length):l[i].at_≤(l[l.length-1]'(by omega)).at_:=
 zjS (zb2 h).2.ok.1 hi _ (by omega) (by omega)
def ChkPost(img:List Int)(b:List UInt8)(cnt:Int)(w:World)(en:Ending)(w':World):Prop:=∃c l vo,ChkR img b cnt c l∧en=.returned (.tuple #[vo,.int .i64 c])∧EvsR w'.heap.size w' vo l∧Below w.heap.size w w'
theorem ChkPost.no{img:List Int}{b:List UInt8}{cnt:Int}{w w':World}{c:Int}(h:ChkR img b cnt c [])(hb:Below w.heap.size w w'):ChkPost img b cnt w (.returned (.tuple #[.slice none 0 0,.int .i64 c])) w':=⟨c,[],_,h,rfl,SlN.nil _ _ _ _ _,hb⟩
def ChkNew(img:List Int)(b:List UInt8)(cnt:Int)(w:World)(en:Ending)(w':World):Prop:=∃c l vo,ChkR img b cnt c l∧en=.returned (.tuple #[vo,.int .i64 c])∧EvsN w.heap.size w' vo l∧Below w.heap.size w w'
theorem ChkNew.no{img:List Int}{b:List UInt8}{cnt:Int}{w w':World}{c:Int}(h:ChkR img b cnt c [])(hb:Below w.heap.size w w'):ChkNew img b cnt w (.returned (.tuple #[.slice none 0 0,.int .i64 c])) w':=⟨c,[],_,h,rfl,EvsN.nil _ _,hb⟩
theorem ChkNew.post{img:List Int}{b:List UInt8}{cnt:Int}{w w':World}{en:Ending}(h:ChkNew img b cnt w en w'):ChkPost img b cnt w en w':=by
 obtain⟨c,l,vo,h1,h2,h3,h4⟩:=h
 exact⟨c,l,vo,h1,h2,h3.1,h4⟩
theorem zed(vi ve:Value)(img:List Int)(b:List UInt8)(cnt:Int)(w:World)(ht:Tab w)(hi:Ints w.heap.size w vi img)(hb:BytesR w.heap.size w ve b)(hc:I64 cnt):Calls Tryd.prog 18 #[.agg #[vi,ve,.int .i64 cnt]] w (ChkNew img b cnt w):=by
 have HI:=Lib.hid hi
 have HB:=Lib.hid hb
 have HT:=Lib.hid ht
 obtain⟨ai,ci,rfl,_⟩:=id hi
 obtain⟨ae,ce,rfl,_⟩:=id hb
 clear hi hb ht
 have hnc:newC img=0∨newC img≠0:=by omega
 generalize hcc:newC img=nc at hnc
 go_enter Tryd.func18,Tryd.ntmps18
 go_wp2_with fail
 refine(zdE _ img _ (HI.out.to (by simp) (zaw _ _))).mono ?_
 rintro e w1 ⟨ar,cr,am,cm,ao,co,he,hown,hb1⟩
 rw[Mach.agg] at he
 rw[hcc] at he
 subst he
 have hx:=zac hb1 (g:=w.heap.size) (alloc_at rfl) (by simp)
 have lt1:w.heap.size<w1.heap.size:=by have:=hb1.size;simp at this;omega
 have q0:w1.cell? ⟨w.heap.size,0,none⟩=some (.slice ai img.length ci):=zaa hx 0
 have q1:w1.cell? ⟨w.heap.size,1,none⟩=some (.slice ae b.length ce):=zaa hx 1
 have q2:w1.cell? ⟨w.heap.size,2,none⟩=some (.int .i64 cnt):=zaa hx 2
 have HB1:=Lib.hid ((zai w _).trans (hb1.mono (by simp)))
 have HBA:=Lib.hid (fun O=>(HB1.out).alloc (Nat.le_of_lt lt1) O)
 have HX:=Lib.hid hx
 have HNC:=Lib.hid hnc
 clear hx hb1 hown
 rcases HNC.out with h0|h0
 ·
  subst h0
  by_cases hr:0≤cnt∧cnt≤3000
  ·
   have r1:decide (cnt<0)=false:=decide_eq_false (by omega)
   have r2:decide (3000<cnt)=false:=decide_eq_false (by omega)
   have HR:=Lib.hid hr
   clear hr
   go_wp2_with fail
   refine(zd4 _ b _ (HB.out.to (HBA.out _).size (zae (HBA.out _))) (HT.out.to (HBA.out _))).mono ?_
   rintro e w2 ⟨d,l,vo,hdec,rfl,hev,hb2⟩
   have hx2:=zac hb2 (g:=w.heap.size) ((zaj lt1).trans HX.out) (by simp;omega)
   have lt2:w.heap.size<w2.heap.size:=by have:=hb2.size;simp at this;omega
   have p2:w2.cell? ⟨w.heap.size,2,none⟩=some (.int .i64 cnt):=zaa hx2 2
   have HB2:=Lib.hid ((HBA.out _).trans (hb2.mono (by simp;omega)))
   have HEV:=Lib.hid (hev.le (HBA.out _).size)
   have HDE:=Lib.hid hdec
   clear hx2 hb2 q0 q1 q2
   by_cases hd:d=0
   ·
    subst hd
    have HMO:=Lib.hid (fun i hi=>zfJ hdec (i:=i) hi)
    have HLEN:=Lib.hid (zb2 hdec).2.ok.2
    clear hdec
    obtain⟨al,cl,rfl,hll,_,hcell⟩:=hev.1
    have HC:=Lib.hid hcell
    clear hcell
    by_cases hl:l=[]
    ·
     subst hl
     have HP:=Lib.hid (show ChkR img b cnt 0 [] from Or.inr (Or.inr ⟨hcc,HR.out.1,HR.out.2,0,_,HDE.out,Or.inr (Or.inr ⟨rfl,fun i hi=>absurd hi (Nat.not_lt_zero _),rfl,rfl⟩)⟩))
     go_wp2_with fail
     go_quiet (fail)
     go_wp2
     go_ret2
     exact⟨0,[],_,HP.out,rfl,HEV.out.below (below_drewN (Below.refl _ _) _),below_drewN HB2.out _⟩
    ·
     obtain⟨n,hn⟩:∃n,l.length=n+1:=⟨l.length-1,by have:=List.length_pos_iff.2 hl;omega⟩
     have hnl:n<l.length:=by omega
     obtain⟨bb,off,cs,ha,hbb,hcs,hcell,dd,cd,hcs2,i1,i2,hint⟩:=HC.out n hnl
     subst ha hcs2
     have k0:w2.cell? ⟨bb,off+n*3,none⟩=some (.int .i64 l[n].at_):=hcell 0 (by simp)
     have HMX:Hid (∀(i:Nat) (hi:i<l.length),l[i].at_≤l[n].at_):=Lib.hid (fun (i:Nat) (hi:i<l.length)=>by
      have h:=HMO.out i hi
      have e:l.length-1=n:=by omega
      simp only[e] at h
      exact h)
     have hlc:(0:Int)<(l.length:Int):=by omega
     have hsub:(l.length:Int)-1=(n:Int):=by omega
     have hwn:IntKind.i64.wrap (n:Int)=(n:Int):=IntWalk.i64_in _ (by have:=HLEN.out;omega)
     have hw41:IntKind.i64.wrap ((l.length:Int)-1)=(n:Int):=by rw[hsub];exact hwn
     have hn0:(0:Int)≤(n:Int):=by omega
     have hgd:decide (0<l.length)=true:=decide_eq_true (by omega)
     have hnl2:(n:Int)<(l.length:Int):=by omega
     have HN:=Lib.hid hn
     have HL:=Lib.hid hnl
     by_cases hge:cnt≤l[n].at_
     ·
      have HP:=Lib.hid (show ChkR img b cnt 9 [] from Or.inr (Or.inr ⟨hcc,HR.out.1,HR.out.2,0,_,HDE.out,Or.inr (Or.inl ⟨rfl,⟨n,hnl,hge⟩,rfl,rfl⟩)⟩))
      have hged:decide (cnt≤l[n].at_)=true:=decide_eq_true hge
      generalize l[n]=x at *
      clear hcell hcs hint hge hn hl
      go_wp2_with fail
      go_quiet (fail)
      go_wp2
      go_ret2
      exact ChkNew.no HP.out (below_drewN HB2.out _)
     ·
      have HP:=Lib.hid (show ChkR img b cnt 0 l from Or.inr (Or.inr ⟨hcc,HR.out.1,HR.out.2,0,_,HDE.out,Or.inr (Or.inr ⟨rfl,fun i hi=>by have:=HMX.out i hi;omega,rfl,rfl⟩)⟩))
      have hged:decide (cnt≤l[n].at_)=false:=decide_eq_false hge
      clear HMX HMO
      generalize l[n]=x at *
      clear hcell hcs hint hge hn hl
      go_wp2_with fail
      go_quiet (fail)
      go_wp2
      go_ret2
      exact⟨0,l,_,HP.out,rfl,HEV.out.below (below_drewN (Below.refl _ _) _),below_drewN HB2.out _⟩
   ·
    have hl0:=zg5 hdec hd
    subst hl0
    have HP:=Lib.hid (show ChkR img b cnt d [] from Or.inr (Or.inr ⟨hcc,HR.out.1,HR.out.2,d,_,HDE.out,Or.inl ⟨hd,rfl,rfl⟩⟩))
    have hd1:(d != 0)=true:=by rw[bne_iff_ne];exact hd
    clear hd hdec hev
    go_wp2
    go_ret2
    exact ChkNew.no HP.out HB2.out
  ·
   have HP:=Lib.hid (show ChkR img b cnt 2 [] from Or.inr (Or.inl ⟨hcc,by omega,rfl,rfl⟩))
   go_wp2
   all_goals (go_ret2;exact ChkNew.no HP.out (HBA.out _))
 ·
  have HP:=Lib.hid (show ChkR img b cnt nc [] from Or.inl ⟨by rw[hcc];exact h0,hcc.symm,rfl⟩)
  have hd1:(nc != 0)=true:=by rw[bne_iff_ne];exact h0
  clear h0
  go_wp2
  go_ret2
  exact ChkNew.no HP.out (HBA.out _)
end Go.Proofs.YtflonfcemlfbdaaDoor
namespace Go.Proofs.YtflonfcemlfbdaaDoor
open Go Go.RowKit Go.ChangeShapes Go.WideShapes Go.Deep
set_option linter.unusedVariables false
attribute [local go_sem ↓] Go.wp_at_zero Go.wp_at_succ
theorem zcX{zs:List Int}(h:newC zs=0):MOk (zas zs)∧newM zs=zas zs:=by
 by_cases h1:256<zs.length
 ·unfold newC at h;rw[if_pos h1] at h;cases h
 ·
  by_cases h2:zs.any oddB=true
  ·unfold newC at h;rw[if_neg h1,if_pos h2] at h;cases h
  ·
   refine⟨⟨rfl,zbF _ (by omega),Nat.zero_le _,rfl,?_,rfl,?_,?_,?_,?_,?_,?_,?_⟩,by unfold newM;rw[if_neg h1,if_neg h2]⟩
   ·
    refine zbL (fun z hz=>?_)
    have hz':z∈zs++List.replicate (256-zs.length) (0:Int):=hz
    rcases List.mem_append.1 hz' with hz|hz
    ·exact zaE (by simpa using h2) z hz
    ·rw[List.eq_of_mem_replicate hz];unfold WordZ;omega
   all_goals (show _∧_;simp[zas])
def RepR(img:List Int)(b:List UInt8)(cnt n:Int)(m:Mach)(c:Int):Prop:=
 ∃d l,ChkR img b cnt d l∧((d≠0∧c=d∧m=zcj)∨(d=0∧(n<0∨cnt<n)∧c=2∧m=zcj)∨(d=0∧0≤n∧n≤cnt∧c=0∧m=runM l (zas img) n.toNat))
theorem RepR.det{img:List Int}{b:List UInt8}{cnt n c d:Int}{m q:Mach}(h:RepR img b cnt n m c)(k:RepR img b cnt n q d):c=d∧m=q:=by
 obtain⟨e,l,h1,h⟩:=h
 obtain⟨f,l2,k1,k⟩:=k
 obtain⟨rfl,rfl⟩:=h1.det k1
 rcases h with⟨h2,rfl,rfl⟩|⟨h2,h3,rfl,rfl⟩|⟨h2,h3,h4,rfl,rfl⟩<;>rcases k with⟨k2,rfl,rfl⟩|⟨k2,k3,rfl,rfl⟩|⟨k2,k3,k4,rfl,rfl⟩
 ·exact⟨rfl,rfl⟩
 ·exact absurd k2 h2
 ·exact absurd k2 h2
 ·exact absurd h2 k2
 ·exact⟨rfl,rfl⟩
 ·omega
 ·exact absurd h2 k2
 ·omega
 ·exact⟨rfl,rfl⟩
theorem zdF{img:List Int}{b:List UInt8}{cnt:Int}{l:List Ev}(h:ChkR img b cnt 0 l):newC img=0∧0≤cnt∧cnt≤3000∧EvL l∧l.length≤1000∧∀(i:Nat) (h:i<l.length),l[i].at_<cnt:=by
 rcases h with⟨h1,h2,_⟩|⟨_,_,h2,_⟩|⟨h1,h2,h3,d,m,hd,h⟩
 ·exact absurd h2.symm h1
 ·cases h2
 ·
  rcases h with⟨h4,h5,_⟩|⟨_,_,h5,_⟩|⟨rfl,h5,_,rfl⟩
  ·exact absurd h5.symm h4
  ·cases h5
  ·
   have k:=(zb2 hd).2.ok
   exact⟨h1,h2,h3,zks k.1,k.2,h5⟩
end Go.Proofs.YtflonfcemlfbdaaDoor
