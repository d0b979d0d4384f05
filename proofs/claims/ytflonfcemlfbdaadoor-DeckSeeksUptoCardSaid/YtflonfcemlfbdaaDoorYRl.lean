/- Several texts joined, each with its own heading in the notes: The contract of cpu. The reading of a slice of raw things. No condition beyond those of each row. -/
import Derived.Test.YtflonfcemlfbdaaDoorYCm
import Derived.Laws.CopyOwn
import Derived.Test.YtflonfcemlfbdaaDoorYEv
namespace Go.Proofs.YtflonfcemlfbdaaDoor
open Go Go.RowKit Go.ChangeShapes Go.WideShapes Go.Deep
set_option maxHeartbeats 400000
set_option maxRecDepth 100000
set_option linter.unusedVariables false
def zcj:Mach:=⟨[],0,0,false,false,0,0,0,[],[],0,0⟩
def zas(img:List Int):Mach:=⟨List.replicate 8 0,0,0,false,false,-1,0,0,img++List.replicate (256-img.length) 0,[],0,-1⟩
def newC(img:List Int):Int:=if 256<img.length then 1 else if img.any oddB=true then 2 else 0
def newM(img:List Int):Mach:=if 256<img.length then zcj else if img.any oddB=true then zcj else zas img
def zbt(w:World)(m:Mach)(c:Int)(e:Ending)(w':World):Prop:=∃ar cr am cm ao co,e=.returned (.tuple #[m.agg (.slice ar m.regs.length cr) (.slice am m.mem.length cm) (.slice ao m.out.length co),.int .i64 c])∧MachOwn w.heap.size w' m (.slice ar m.regs.length cr) (.slice am m.mem.length cm) (.slice ao m.out.length co)∧Below w.heap.size w w'
theorem zhs(base:Nat)(w:World):MachOwn base w zcj (.slice none 0 0) (.slice none 0 0) (.slice none 0 0):=
 ⟨World.ownsRow_nil _ _ _ _,World.ownsRow_nil _ _ _ _,World.ownsRow_nil _ _ _ _,Or.inl rfl,Or.inl rfl,Or.inl rfl,Or.inl rfl,Or.inl rfl,Or.inl rfl⟩
theorem zb5{w w':World}{c:Int}(h:Below w.heap.size w w'):zbt w zcj c (.returned (.tuple #[.agg #[.slice none 0 0,.int .i64 0,.int .i64 0,.bool false,.bool false,.int .i64 0,.int .i64 0,.int .i64 0,.slice none 0 0,.slice none 0 0,.int .i64 0,.int .i64 0],.int .i64 c])) w':=
 ⟨none,0,none,0,none,0,rfl,zhs _ _,h⟩
theorem zbg(n:Nat):zay n=((List.replicate n (0:Int)).map (Value.int .i64)).toArray:=by
 rw[List.map_replicate,←zbX,Array.toArray_toList]
theorem zbE{w:World}{g base n:Nat}{zs:List Int}(h:w.heap[g]?=some (.cells (zs.map (Value.int .i64)).toArray 3 (0,0)))(hb:base≤g)(hn:zs.length=n)(hm:n≤1000000):w.ownsRow base 3 1 (.slice (some ⟨g,0,none⟩) n n) n (zs.map (Value.int .i64)):=
 ⟨by simp[hn],.inr ⟨g,n,_,rfl,hb,h,Nat.le_refl _,by unfold maxLen;omega,by simp[hn],by rw[←hn];simp[List.take_of_length_le]⟩⟩
theorem zjN:zfp 47 oddB:=by
 intro z W h1 h2
 have HW:=Lib.hid (zio z)
 go_enter Tryd.func47,Tryd.ntmps47
 go_wp2_with (go_at_call 48;refine(HW.out _).mono ?_;rintro e w' ⟨rfl,rfl⟩)
 go_ret
 exact⟨zaZ (by simp),rfl⟩
theorem zb6(v:Value)(zs:List Int)(w:World)(hf:Ints w.heap.size w v zs):Calls Tryd.prog 46 #[v,.func (.func 47) #[] #[]] w (zjh zs w):=
 zjK (zbZ _ oddB (enters_of Tryd.func47 (by kernel_rfl) rfl) zjN v zs w hf)
theorem mk8(w:World):(Instr.makeSlice 24 (.int .i64 8) (.int .i64 8)).run Tryd.prog w=.ok (.slice (some ⟨w.heap.size,0,none⟩) 8 8) (w.alloc (.cells (zay 8) 3)):=zcF 8 (by omega) (by omega) w
theorem zk7(w:World):(Instr.makeSlice 24 (.int .i64 256) (.int .i64 256)).run Tryd.prog w=.ok (.slice (some ⟨w.heap.size,0,none⟩) 256 256) (w.alloc (.cells (zay 256) 3)):=zcF 256 (by omega) (by omega) w
structure NewCut(w:World)(gb gr gm:Nat)(mem:List Int)(wx:World):Prop where
 x:wx.heap[w.heap.size]?=some (.cells #[.slice none 0 0,.int .i64 0,.int .i64 0,.bool false,.bool false,.int .i64 0,.int .i64 0,.int .i64 0,.slice none 0 0,.slice none 0 0,.int .i64 0,.int .i64 0] 48 (0,0))
 y:wx.heap[gb]?=some (.cells #[.slice (some ⟨gr,0,none⟩) 8 8,.int .i64 0,.int .i64 0,.bool false,.bool false,.int .i64 (-1),.int .i64 0,.int .i64 0,.slice (some ⟨gm,0,none⟩) 256 256,.slice none 0 0,.int .i64 0,.int .i64 (-1)] 48 (0,0))
 r:wx.heap[gr]?=some (.cells ((List.replicate 8 (0:Int)).map (Value.int .i64)).toArray 3 (0,0))
 m:wx.heap[gm]?=some (.cells (mem.map (Value.int .i64)).toArray 3 (0,0))
 b:Below w.heap.size w wx
 wr:w.heap.size<gr
 wm:w.heap.size<gm
 rm:gr≠gm
structure SInv(w0:World)(g:Nat)(m:Mach)(vr vm vo:Value)(w:World):Prop where
 own:MachOwn w0.heap.size w m vr vm vo
 box:∃cs,w.heap[g]?=some (.cells cs 48 (0,0))
 below:Below w0.heap.size w0 w
theorem SInv.step{w0 w:World}{g:Nat}{m:Mach}{vr vm vo:Value}(hg:w0.heap.size≤g)(i:Nat)(u:Value)(h:SInv w0 g m vr vm vo w):SInv w0 g m vr vm vo (w.setCell ⟨g,i,none⟩ u):=by
 obtain⟨ho,⟨cs,hb⟩,hB⟩:=h
 exact⟨ho.set hb (by decide),⟨_,zaf hb u⟩,hB.setCell (by simpa using hg) u⟩
theorem SInv.post{w0 w:World}{g:Nat}{m:Mach}{ar am ao:Option Addr}{cr cm co:Nat}{c:Int}(h:SInv w0 g m (.slice ar m.regs.length cr) (.slice am m.mem.length cm) (.slice ao m.out.length co) w):zbt w0 m c (.returned (.tuple #[m.agg (.slice ar m.regs.length cr) (.slice am m.mem.length cm) (.slice ao m.out.length co),.int .i64 c])) w:=
 ⟨ar,cr,am,cm,ao,co,rfl,h.own,h.below⟩
theorem SInv.post'{w0 w:World}{g n1 n2 n3:Nat}{m:Mach}{ar am ao:Option Addr}{cr cm co:Nat}{c:Int}(e1:n1=m.regs.length)(e2:n2=m.mem.length)(e3:n3=m.out.length)(h:SInv w0 g m (.slice ar n1 cr) (.slice am n2 cm) (.slice ao n3 co) w):zbt w0 m c (.returned (.tuple #[m.agg (.slice ar n1 cr) (.slice am n2 cm) (.slice ao n3 co),.int .i64 c])) w:=by
 subst e1 e2 e3
 exact h.post
theorem zbF(img:List Int)(h:img.length≤256):(zas img).mem.length=256:=by simp[zas];omega
theorem NewCut.own{w wx:World}{gb gr gm:Nat}{img:List Int}(hl:img.length≤256)(h:NewCut w gb gr gm (zas img).mem wx):SInv w w.heap.size (zas img) (.slice (some ⟨gr,0,none⟩) 8 8) (.slice (some ⟨gm,0,none⟩) 256 256) (.slice none 0 0) wx:=by
 have l1:(zas img).regs.length=8:=by simp[zas]
 have l2:=zbF img hl
 have o1:=zbE (base:=w.heap.size) h.r (by have:=h.wr;omega) (n:=8) (by simp) (by omega)
 have o2:=zbE (base:=w.heap.size) h.m (by have:=h.wm;omega) (n:=256) l2 (by omega)
 refine⟨⟨by rw[l1];exact o1,by rw[l2];exact o2,World.ownsRow_nil _ _ _ _,?_,?_,?_,?_,?_,?_⟩,⟨_,h.x⟩,h.b⟩
 ·exact Or.inr (by simp[Value.ownBlock];exact h.rm)
 ·exact Or.inr (by simp[Value.ownBlock])
 ·exact Or.inr (by simp[Value.ownBlock])
 ·exact Or.inr (by simp[Value.ownBlock];exact fun e=>h.rm e.symm)
 ·exact Or.inl rfl
 ·exact Or.inl rfl
theorem zht(v:Value)(img:List Int)(w:World)(hv:Ints w.heap.size w v img)(hb:256<img.length∨img.any oddB=true):Calls Tryd.prog 30 #[v] w (zbt w zcj (newC img)):=by
 obtain⟨a,c,rfl,hl,hl2,hc⟩:=id hv
 have HV:=Lib.hid hv
 clear hv hc
 by_cases h1:256<img.length
 ·
  have hC:newC img=1:=by unfold newC;rw[if_pos h1]
  rw[hC]
  clear hC hb
  go_enter Tryd.func30,Tryd.ntmps30
  go_wp2
  exact bodyPost_ret (v:=.tuple #[.agg #[.slice none 0 0,.int .i64 0,.int .i64 0,.bool false,.bool false,.int .i64 0,.int .i64 0,.int .i64 0,.slice none 0 0,.slice none 0 0,.int .i64 0,.int .i64 0],.int .i64 1]) (by simp[results,Tryd.results30,go_sem]) rfl (zb5 (zai _ _))
 ·
  have h2:img.any oddB=true:=by rcases hb with h|h;exact absurd h h1;exact h
  have hC:newC img=2:=by unfold newC;rw[if_neg h1,if_pos h2]
  rw[hC]
  have H2:=Lib.hid h2
  clear hC hb h2
  go_enter Tryd.func30,Tryd.ntmps30
  go_wp2_with (go_at_call 46;refine(zb6 _ img _ ?_).mono ?_;(exact HV.out.to (by simp) (zaw _ _));rintro e w' (⟨rfl,ho1,n1,rfl⟩|⟨rfl,ho1,n1,rfl⟩))
  ·
   refine bodyPost_ret (v:=.tuple #[.agg #[.slice none 0 0,.int .i64 0,.int .i64 0,.bool false,.bool false,.int .i64 0,.int .i64 0,.int .i64 0,.slice none 0 0,.slice none 0 0,.int .i64 0,.int .i64 0],.int .i64 2]) (by simp[results,Tryd.results30,go_sem]) rfl (zb5 ?_)
   repeat' (refine Below.setCell ?_ (by simp) _)
   exact below_drewN (zai _ _) _
  ·exact absurd (H2.out.symm.trans ho1.out) (by decide)
theorem ziM(n:Nat)(img:List Int):((((List.replicate n (0:Int)).map (Value.int .i64)).toArray.toList.take 0)++(img.map (Value.int .i64)++((List.replicate n (0:Int)).map (Value.int .i64)).toArray.toList.drop (0+(img.map (Value.int .i64)).length))).toArray=((img++List.replicate (n-img.length) 0).map (Value.int .i64)).toArray:=by
 simp
theorem zgh(img:List Int):((((List.replicate 256 (0:Int)).map (Value.int .i64)).toArray.toList.take 0)++(img.map (Value.int .i64)++((List.replicate 256 (0:Int)).map (Value.int .i64)).toArray.toList.drop (0+(img.map (Value.int .i64)).length))).toArray=((zas img).mem.map (Value.int .i64)).toArray:=ziM 256 img
theorem NewCut.row {w wx : World} {gb gr gm : Nat} {img : List Int} (h : NewCut w gb gr gm (List.replicate 256 0) wx) (ngb : gb ≠ gm) :
  NewCut w gb gr gm (zas img).mem (wx.setRow gm ((((List.replicate 256 (0:Int)).map (Value.int .i64)).toArray.toList.take 0)++(img.map (Value.int .i64)++((List.replicate 256 (0:Int)).map (Value.int .i64)).toArray.toList.drop (0+(img.map (Value.int .i64)).length))).toArray):=by
 rw[zgh]
 exact⟨(setRow_other _ _ _ _ (by have:=h.wm;omega)).trans h.x,(setRow_other _ _ _ _ ngb).trans h.y,(setRow_other _ _ _ _ h.rm).trans h.r,setRow_heap _ _ _ _ _ _ h.m,below_setRow h.b (by have:=h.wm;omega) _,h.wr,h.wm,h.rm⟩
theorem ziN(v:Value)(img:List Int)(w:World)(hv:Ints w.heap.size w v img)(h1:img.length≤256)(h2:img.any oddB=false):Calls Tryd.prog 30 #[v] w (zbt w (zas img) 0):=by
 obtain⟨a,c,rfl,hl,hl2,hc⟩:=id hv
 have HV:=Lib.hid hv
 have HC:=Lib.hid hc
 have H2:=Lib.hid h2
 have hmk8:=mk8
 have hmk256:=zk7
 clear hv hc h2
 go_enter Tryd.func30,Tryd.ntmps30
 go_wp2_with (go_at_call 46;refine(zb6 _ img _ ?_).mono ?_;(exact HV.out.to (by simp) (zaw _ _));rintro e w' (⟨rfl,ho1,n1,rfl⟩|⟨rfl,ho1,n1,rfl⟩))
 ·exact absurd (H2.out.symm.trans ho1.out) (by decide)
 clear ho1
 go_cut [4] (fun s4 wx =>∃gb gr gm,s4=.pointer (some ⟨gb,0,none⟩)∧NewCut w gb gr gm (List.replicate 256 0) wx)
 case first=>
  go_region
  all_goals (go_wp2_with fail;go_meet)
  all_goals
   apply Exists.intro
   apply Exists.intro
   apply Exists.intro
   apply And.intro
   ·exact rfl
   apply NewCut.mk
   ·(repeat (first|exact alloc_at (by simp;done)|exact alloc_at (w:=w) rfl|refine(zaj (by (first|(simp;done)|(simp;omega)))).trans ?_))
   ·(repeat (first|exact alloc_at (by simp;done)|exact alloc_at (w:=w) rfl|refine(zaj (by (first|(simp;done)|(simp;omega)))).trans ?_))
   ·rw[←zbg];(repeat (first|exact alloc_at (by simp;done)|exact alloc_at (w:=w) rfl|refine(zaj (by (first|(simp;done)|(simp;omega)))).trans ?_))
   ·rw[←zbg];(repeat (first|exact alloc_at (by simp;done)|exact alloc_at (w:=w) rfl|refine(zaj (by (first|(simp;done)|(simp;omega)))).trans ?_))
   ·(repeat' (refine Below.alloc ?_ (by (first|(simp;done)|(simp;omega))) _));exact below_drewN (zai w _) _
   ·omega
   ·omega
   ·omega
 case rest=>
  obtain⟨gb,gr,gm,rfl,hn⟩:=hcut
  have y8:wc.cell? ⟨gb,8,none⟩=some (.slice (some ⟨gm,0,none⟩) 256 256):=zaa hn.y 8
  have HN:=Lib.hid hn
  have ngb:w.heap.size≠gb:=by
   intro e;subst e
   have h1:=hn.x;have h2:=hn.y
   rw[h1] at h2;simp at h2
  have NGB:Hid (gb≠gm):=Lib.hid (by intro e;have h1:=hn.y;have h2:=hn.m;rw[e,h2] at h1;simp at h1)
  clear hn
  go_upto_region 6 with fail
  go_cut [] (fun wx=>NewCut w gb gr gm (zas img).mem wx)
  case first=>
   cases a with
   | none=>
    have h0:img=[]:=by
     rcases Nat.eq_zero_or_pos img.length with h|h
     ·exact List.eq_nil_of_length_eq_zero h
     ·obtain⟨_,_,_,hh,_⟩:=HC.out 0 h;cases hh
    subst h0
    go_wp2_with (with_reducible refine wpList_copy_nothing rfl (.tmp 16) (.tmp 17) 24 24 rfl 3 Tryd.underlying24 (by kernel_rfl) _ _ _ _ _ _ rfl rfl rfl ?_)
    go_meet
    exact HN.out
   | some ad=>
    go_wp2_with (with_reducible refine wpList_copy_own rfl (.tmp 16) (.tmp 17) 24 24 rfl 3 Tryd.underlying24 (by kernel_rfl) gm 0 256 256 ad _ _ rfl rfl _ _ HN.out.m (img.map (Value.int .i64)) ?_ ?_ ?_ ?_ ?_)
    ·rw[List.length_map];exact(Nat.min_eq_left h1).symm
    ·
     intro j u hj
     have hjl:j<img.length:=by
      rcases Nat.lt_or_ge j img.length with h|h
      ·exact h
      ·rw[List.getElem?_eq_none (by simpa using h)] at hj;cases hj
     obtain⟨b,off,vi,ha,hb,hcell,hvi,_⟩:=HC.out j hjl
     simp only[Option.some.injEq] at ha
     subst ha hvi
     rw[add_plain,zae HN.out.b _ _ hb,hcell,←hj]
     simp[hjl]
    ·simp;omega
    ·exact zdv img
    ·
     go_meet
     exact HN.out.row NGB.out
  case rest=>
   have hN:=hcut
   first|(obtain⟨r0,r1,r2,r3,r4,r5,r6,r7,r8,r9,r10,r11⟩:=zaz hN.x)|(obtain⟨r0,r1,r2,r3,r4,r5,r6,r7,r8,r9,r10,r11⟩:=zaA hN.x)
   have f0:=zab hN.x 0
   have f1:=zab hN.x 1
   have f2:=zab hN.x 2
   have f3:=zab hN.x 3
   have f4:=zab hN.x 4
   have f5:=zab hN.x 5
   have f6:=zab hN.x 6
   have f7:=zab hN.x 7
   have f8:=zab hN.x 8
   have f9:=zab hN.x 9
   have f10:=zab hN.x 10
   have f11:=zab hN.x 11
   first|(obtain⟨q0,q1,q2,q3,q4,q5,q6,q7,q8,q9,q10,q11⟩:=zaz hN.y)|(obtain⟨q0,q1,q2,q3,q4,q5,q6,q7,q8,q9,q10,q11⟩:=zaA hN.y)
   have HS:=Lib.hid (hN.own h1)
   clear hN hcut HN HC HV H2 hmk8 hmk256 NGB ngb
   go_wp2
   refine bodyPost_ret (v:=.tuple #[(zas img).agg (.slice (some ⟨gr,0,none⟩) 8 8) (.slice (some ⟨gm,0,none⟩) 256 256) (.slice none 0 0),.int .i64 0]) ?_ rfl ?_
   ·simp[results,Tryd.results30,go_sem,Mach.agg,zas,r0,r1,r2,r3,r4,r5,r6,r7,r8,r9,r10,r11]
   ·
    have l1:(zas img).regs.length=8:=by simp[zas]
    have l2:=zbF img h1
    refine SInv.post' (g:=w.heap.size) l1.symm l2.symm rfl ?_
    repeat' (refine SInv.step (Nat.le_refl _) _ _ ?_)
    exact HS.out
structure Rw where
 k:Int
 a:Int
 b:Int
 c:Int
def RawC(cs:List Value)(x:Rw):Prop:=cs=[.int .i64 x.k,.int .i64 x.a,.int .i64 x.b,.int .i64 x.c]∧I64 x.k∧I64 x.a∧I64 x.b∧I64 x.c
def RawsR(B:Nat)(w:World)(v:Value)(xs:List Rw):Prop:=SlN 4 4398046510976 B w RawC v xs
theorem RawsR.to{B B':Nat}{w w':World}{v:Value}{xs:List Rw}(hB:B≤B')(hw:Same B w w')(h:RawsR B w v xs):RawsR B' w' v xs:=SlN.to (Nat.le_refl _) hB hw (fun _ _ h=>h) h
section
variable {H:Type} {enc:TypeId × Value→H} {w:World} {held:Bool}
end
end Go.Proofs.YtflonfcemlfbdaaDoor
