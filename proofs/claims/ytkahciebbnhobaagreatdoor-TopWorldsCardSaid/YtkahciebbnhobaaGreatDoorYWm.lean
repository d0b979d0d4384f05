/- Several texts joined, each with its own heading in the notes: The keep's World: the lists of the raw things. The keep's recorded, of the image and the world of the raw things. No condition beyond those of each row. -/
import Derived.Test.YtkahciebbnhobaaGreatDoorYWa
import Derived.Deep.LoopGhost
import Derived.Handy
import Derived.StillTailTactics
import Derived.Deep.RegionWith
import Derived.Deep.RegionLaw
import Derived.Deep.CutBlock
import Derived.Deep.CutRange
import Derived.Deep.RegionHeld3
import Derived.Test.YtkahciebbnhobaaGreatDoorYPs
import Derived.Test.YtkahciebbnhobaaGreatDoorYQh
import Derived.Test.YtkahciebbnhobaaGreatDoorYKr
import Derived.Test.YtkahciebbnhobaaGreatDoorYJg
namespace Go.Proofs.YtkahciebbnhobaaGreatDoor
open Go Go.RowKit Go.ChangeShapes Go.WideShapes Go.Deep
set_option maxHeartbeats 8000000
set_option maxRecDepth 100000
set_option linter.unusedVariables false
attribute [local go_sem ↓] Go.wp_at_zero Go.wp_at_succ
def wI (xs:List Rw) (i:Nat):List Int:=(xs.take i).map (fun x=>pickZ x.a 300)
def wV (xs:List Rw) (i:Nat):List Int:=(xs.take i).map (fun x=>pickZ x.b 100 - 50)
def wD (xs:List Rw) (i:Nat):List Int:=(xs.take i).map (fun x=>pickZ x.c 20)
def blkZ (c:Int) (q:Nat):List Int:=(List.range q).map (fun k:Nat=>pickZ (c.tdiv ((k:Int) / 4+1)) 9)
def wB (xs:List Rw) (i:Nat):List (List Int):=((xs.take i).filter (fun x=>decide (pickZ x.k 3=0))).map (fun x=>blkZ x.c 16)
def WorldAt (xs:List Rw) (w:World) (e:Ending) (w':World):Prop:=∃ a0 a1 a2 a3 c0 c1 c2 c3,e=.returned (.agg #[.slice a0 (wI xs 20).length c0,.slice a1 (wV xs 20).length c1,.slice a2 (wB xs 20).length c2,.slice a3 (wD xs 20).length c3])∧Ints w'.heap.size w' (.slice a0 (wI xs 20).length c0) (wI xs 20)∧Ints w'.heap.size w' (.slice a1 (wV xs 20).length c1) (wV xs 20)∧RowsR w'.heap.size w' (.slice a2 (wB xs 20).length c2) (wB xs 20)∧Ints w'.heap.size w' (.slice a3 (wD xs 20).length c3) (wD xs 20)∧W20 (wI xs 20) (wV xs 20) (wB xs 20) (wD xs 20)∧Below w.heap.size w w'
structure WX (xs:List Rw) (i j:Nat) (is vs:List Int) (bs:List (List Int)) (ds:List Int):Prop where
 fi:is=wI xs i
 fv:vs=wV xs i
 fb:bs=wB xs j
 fd:ds=wD xs i
theorem w_next {xs:List Rw} {i:Nat} (h:i < xs.length):wI xs (i+1)=wI xs i ++ [pickZ xs[i].a 300]∧wV xs (i+1)=wV xs i ++ [pickZ xs[i].b 100 - 50]∧wD xs (i+1)=wD xs i ++ [pickZ xs[i].c 20]∧(pickZ xs[i].k 3=0→wB xs (i+1)=wB xs i ++ [blkZ xs[i].c 16])∧(pickZ xs[i].k 3≠0→wB xs (i+1)=wB xs i):=by
 have e:=List.take_succ_eq_append_getElem h
 refine⟨?_,?_,?_,fun hk=>?_,fun hk=>?_⟩
 · unfold wI;rw [e,List.map_append];rfl
 · unfold wV;rw [e,List.map_append];rfl
 · unfold wD;rw [e,List.map_append];rfl
 · unfold wB;rw [e,List.filter_append,List.map_append];simp [hk]
 · unfold wB;rw [e,List.filter_append,List.map_append];simp [hk]
theorem w_all {xs:List Rw} {i:Nat} (h:xs.length≤i∨i=20) (h2:i≤20):wI xs 20=wI xs i∧wV xs 20=wV xs i∧wB xs 20=wB xs i∧wD xs 20=wD xs i:=by
 have e:xs.take 20=xs.take i:=by
  rcases h with h | rfl
  · rw [List.take_of_length_le h,List.take_of_length_le (by omega)]
  · rfl
 unfold wI wV wB wD
 rw [e]
 exact⟨rfl,rfl,rfl,rfl⟩
theorem blk_next (c:Int) (q:Nat):blkZ c (q+1)=blkZ c q ++ [pickZ (c.tdiv ((q:Int) / 4+1)) 9]:=by
 unfold blkZ
 rw [List.range_succ,List.map_append]
 rfl
theorem picked_ix (n many:Int) (w:World) (h1:-9223372036854775808≤n) (h2:n≤9223372036854775807) (h3:0 < many) (h4:many≤1000000):Calls Tryz.prog 22 #[.int .i64 n,.int .i64 many] w fun e w' =>∃z:Int,0≤z∧z < many∧Hid (z=pickZ n many)∧e=.returned (.int .i64 z)∧w=w':=
 (picked_any n many w h1 h2 h3 h4).mono fun e w' ⟨he,hw⟩=>⟨pickZ n many,(pick_rng n many h3).1,(pick_rng n many h3).2,Lib.hid rfl,he,hw⟩
theorem worldz_any (v:Value) (xs:List Rw) (w:World) (hf:RawsR w.heap.size w v xs):Calls Tryz.prog 7 #[v] w (WorldAt xs w):=by
 obtain⟨ad,cap,rfl,hl,hl2,hcl⟩:=hf
 have HC:=Lib.hid hcl
 clear hcl
 go_enter Tryz.func7,Tryz.ntmps7
 go_upto_region 2 with fail
 obtain⟨W1,hW1⟩:∃ W1,W1=(w.alloc (.cells #[.slice none 0 0,.slice none 0 0,.slice none 0 0,.slice none 0 0] 27 (0,0))).alloc (.cells #[.slice none 0 0,.slice none 0 0,.slice none 0 0,.slice none 0 0] 27 (0,0)):=⟨_,rfl⟩
 rw [← hW1]
 have HB1:=Lib.hid (show Below w.heap.size w W1 from by rw [hW1];exact below_alloc2 w _ _)
 have HRB1:=Lib.hid (show W1.heap[w.heap.size]? = some (.cells #[.slice none 0 0,.slice none 0 0,.slice none 0 0,.slice none 0 0] 27 (0,0)) from by rw [hW1];exact (alloc_lt (by simp)).trans (alloc_at rfl))
 have HX1:=Lib.hid (show W1.heap[w.heap.size+1]? = some (.cells #[.slice none 0 0,.slice none 0 0,.slice none 0 0,.slice none 0 0] 27 (0,0)) from by rw [hW1];exact alloc_at (by simp))
 clear hW1
 have HWB:Hid (w.heap.size≠w.heap.size+1):=Lib.hid (by omega)
 have hge:w.heap.size≤w.heap.size+1:=Nat.le_succ _
 generalize hwb:w.heap.size+1=wb at *
 have HS1:Hid (WkS w wb [] [] [] [] none none none none 0 0 0 0 W1):=Lib.hid ⟨HX1.out,World.ownsRow_nil _ _ _ _,World.ownsRow_nil _ _ _ _,World.ownsRow_nil _ _ _ _,World.ownsRow_nil _ _ _ _,fun p hp=>(by cases hp),fun g e=>(by cases e),fun g e=>(by cases e),fun g e=>(by cases e),fun p hp=>(by cases hp),hge,HB1.out⟩
 clear hwb hge
 go_wp2_with fail
 go_loopg [4,5,6,7] 21 (fun gh s4 s5 s6 s7 wr =>∃(i:Nat) (is vs:List Int) (ps:List (List Int × Value)) (ds:List Int) (a0 a1 a2 a3:Option Addr) (c0 c1 c2 c3:Nat),i≤20∧i≤xs.length∧gh=21 - i∧s4=.int .i64 i∧Hid (WkS w wb is vs ps ds a0 a1 a2 a3 c0 c1 c2 c3 wr)∧Hid (W20 is vs (ps.map (·.1)) ds∧is.length=i∧vs.length=i∧ds.length=i∧ps.length≤i)∧Hid (WX xs i i is vs (ps.map (·.1)) ds)∧Hid (wr.heap[w.heap.size]? = some (.cells #[.slice none 0 0,.slice none 0 0,.slice none 0 0,.slice none 0 0] 27 (0,0))))
 case atStart=>exact⟨0,[],[],[],[],none,none,none,none,0,0,0,0,by omega,by omega,rfl,rfl,HS1,Lib.hid ⟨⟨by simp,by simp,by simp,by simp,fun z hz=>(by cases hz),fun z hz=>(by cases hz),fun z hz=>(by cases hz),fun z hz=>(by cases hz)⟩,rfl,rfl,rfl,Nat.le_refl _⟩,Lib.hid ⟨rfl,rfl,rfl,rfl⟩,HRB1⟩
 case round =>
  clear HS1 HX1 HRB1 HB1
  obtain⟨i,is,vs,ps,ds,a0,a1,a2,a3,c0,c1,c2,c3,hi,hix,rfl,rfl,HS,HW,HWX,HRB⟩:=hrel
  by_cases hgo:i < xs.length∧i < 20
  ·
   obtain⟨hil,hi20⟩:=hgo
   obtain⟨b,off,cs,ha,hbb,hcs,hcell,hrc,i1,i2,i3,i4⟩:=HC.out i hil
   subst ha hrc
   have HNX:=Lib.hid (w_next hil)
   generalize xs[i]=x at *
   obtain⟨rk,ra,rb,rc⟩:=x
   simp only at i1 i2 i3 i4 HNX
   unfold I64 at i1 i2 i3 i4
   obtain⟨i1a,i1b⟩:=i1
   obtain⟨i2a,i2b⟩:=i2
   obtain⟨i3a,i3b⟩:=i3
   obtain⟨i4a,i4b⟩:=i4
   have HBW:=Lib.hid HS.out.below
   have q0:wr.cell? ⟨b,off+i * 4,none⟩=some (.int .i64 rk):=(same_below HBW.out _ _ hbb).trans (hcell 0 (by simp))
   have q1:wr.cell? ⟨b,off+i * 4+1,none⟩=some (.int .i64 ra):=(same_below HBW.out _ _ hbb).trans (hcell 1 (by simp))
   have q2:wr.cell? ⟨b,off+i * 4+2,none⟩=some (.int .i64 rb):=(same_below HBW.out _ _ hbb).trans (hcell 2 (by simp))
   have q3:wr.cell? ⟨b,off+i * 4+3,none⟩=some (.int .i64 rc):=(same_below HBW.out _ _ hbb).trans (hcell 3 (by simp))
   have hbw:=HBW.out.size
   have hbl:b < wr.heap.size:=by omega
   clear hcell hcs
   go_upto_region 6 with fail
   rw [show decide ((i:Int) < 20)=true from decide_eq_true (by omega)]
   clear q0 q1 q2 q3 hbl
   have HGB:=Lib.hid (show (wr.alloc (.cells #[.int .i64 rk,.int .i64 ra,.int .i64 rb,.int .i64 rc] 61 (0,0))).heap[wr.heap.size]? = some (.cells #[.int .i64 rk,.int .i64 ra,.int .i64 rb,.int .i64 rc] 61 (0,0)) from alloc_at rfl)
   have HS4:=Lib.hid (HS.out.on (below_alloc wr (.cells #[.int .i64 rk,.int .i64 ra,.int .i64 rb,.int .i64 rc] 61 (0,0))))
   have HRB4:=Lib.hid (show (wr.alloc (.cells #[.int .i64 rk,.int .i64 ra,.int .i64 rb,.int .i64 rc] 61 (0,0))).heap[w.heap.size]? = some (.cells #[.slice none 0 0,.slice none 0 0,.slice none 0 0,.slice none 0 0] 27 (0,0)) from (alloc_lt (Array.getElem?_eq_some_iff.1 HRB.out).1).trans HRB.out)
   have hgw:w.heap.size≤wr.heap.size:=hbw
   have HNG:Hid (wr.heap.size≠wb∧w.heap.size≠wr.heap.size):=Lib.hid ⟨by have:=HS.out.lt;omega,by have:=(Array.getElem?_eq_some_iff.1 HRB.out).1;omega⟩
   clear HS HRB hbw
   generalize World.alloc wr _=W4 at *
   generalize wr.heap.size=gr at *
   have HX:=Lib.hid HS4.out.box
   have HRW:=Lib.hid HS4.out.r0
   have b0:W4.cell? ⟨wb,0,none⟩=some (.slice a0 is.length c0):=cell_block HX.out 0
   have y0:W4.cell? ⟨gr,1,none⟩=some (.int .i64 ra):=cell_block HGB.out 1
   have lb:wb < W4.heap.size:=HS4.out.lt
   have lg:gr < W4.heap.size:=(Array.getElem?_eq_some_iff.1 HGB.out).1
   have hlw:w.heap.size≤W4.heap.size:=HS4.out.below.size
   have hln:is.length≤20:=by have:=HW.out;omega
   go_cut [] from 23 to 74 (fun wx =>∃(z0:Int) (g0 e0:Nat),((0≤z0∧z0 < 300)∧Hid (z0=pickZ ra 300))∧Hid (WkS w wb (is ++ [z0]) vs ps ds (some ⟨g0,0,none⟩) a1 a2 a3 e0 c1 c2 c3 wx)∧Hid (wx.heap[gr]? = some (.cells #[.int .i64 rk,.int .i64 ra,.int .i64 rb,.int .i64 rc] 61 (0,0)))∧Hid (wx.heap[w.heap.size]? = some (.cells #[.slice none 0 0,.slice none 0 0,.slice none 0 0,.slice none 0 0] 27 (0,0))))
   case first =>
    go_region_law ((first | (go_simp;go_at_call 22;refine (picked_ix ra 300 _ ?_ ?_ (by omega) (by omega)).mono ?_;omega;omega;rintro en wq ⟨z,hz1,hz2,HZE,rfl,rfl⟩;skip) | (go_loud (refine step_push_at W4.drew rfl (.tmp 24) (.tmp 28) 24 rfl w.heap.size 3 (.int .i64 0) 1 8 Tryz.underlying24 info_int rfl (by decide) [.int .i64 z] rfl (by simp [Value.oneCell']) _ _ _ (by rfl) HRW.out (by rfl) (by simp) (by omega) (by omega) (by simp;omega) ?_);intro g5 cp5 w5 hown5 hgrow5 hn5;have hx5:=block_grown (w:=W4.drew) hgrow5 HX.out (own_ne_block HRW.out HX.out (by decide));have d5:w5.cell? ⟨wb,0,none⟩=some (.slice a0 is.length c0):=cell_block hx5 0;have f5:=free_block hx5 0;have l5:wb < w5.heap.size:=(Array.getElem?_eq_some_iff.1 hx5).1;have HO5:=Lib.hid hown5;have HG5:=Lib.hid hgrow5;have HN5:=Lib.hid hn5;clear hx5 hown5 hgrow5 hn5)))
    all_goals (go_wp2_with fail;go_meet)
    all_goals (case rel=>exact⟨z,g5,cp5,⟨by omega,HZE⟩,Lib.hid ((HS4.out.on (below_drewN (Below.refl _ _) 1)).push0 HO5.out HG5.out HN5.out),Lib.hid (set_block_ne (block_grown (w:=W4.drew) HG5.out HGB.out (own_ne_block HRW.out HGB.out (by decide))) HNG.out.1 _),Lib.hid (set_block_ne (block_grown (w:=W4.drew) HG5.out HRB4.out (own_ne_block HRW.out HRB4.out (by decide))) HWB.out _)⟩)
   case rest =>
   obtain⟨z0,g0,e0,⟨hz0,HZ0⟩,PS,PG,PR⟩:=hcut
   clear b0 y0 lb lg hlw HX HRW HS4 HGB HRB4 hln
   have HX:=Lib.hid PS.out.box
   have HRW:=Lib.hid PS.out.r1
   have b0:wc.cell? ⟨wb,1,none⟩=some (.slice a1 vs.length c1):=cell_block HX.out 1
   have y0:wc.cell? ⟨gr,2,none⟩=some (.int .i64 rb):=cell_block PG.out 2
   have lb:wb < wc.heap.size:=PS.out.lt
   have lg:gr < wc.heap.size:=(Array.getElem?_eq_some_iff.1 PG.out).1
   have hlw:w.heap.size≤wc.heap.size:=PS.out.below.size
   have hln:vs.length≤20:=by have:=HW.out;omega
   go_upto_region 7 with fail
   go_cut [] from 31 to 74 (fun wx =>∃(z1:Int) (g1 e1:Nat),((-50≤z1∧z1 < 50)∧Hid (z1=pickZ rb 100 - 50))∧Hid (WkS w wb (is ++ [z0]) (vs ++ [z1]) ps ds (some ⟨g0,0,none⟩) (some ⟨g1,0,none⟩) a2 a3 e0 e1 c2 c3 wx)∧Hid (wx.heap[gr]? = some (.cells #[.int .i64 rk,.int .i64 ra,.int .i64 rb,.int .i64 rc] 61 (0,0)))∧Hid (wx.heap[w.heap.size]? = some (.cells #[.slice none 0 0,.slice none 0 0,.slice none 0 0,.slice none 0 0] 27 (0,0))))
   case first =>
    go_region_law ((first | (go_simp;go_at_call 22;refine (picked_ix rb 100 _ ?_ ?_ (by omega) (by omega)).mono ?_;omega;omega;rintro en wq ⟨z,hz1,hz2,HZE,rfl,rfl⟩;have hwz:IntKind.i64.wrap (z - 50)=z - 50:=IntWalk.i64_in _ (by omega)) | (go_loud (refine step_push_at wc.drew rfl (.tmp 32) (.tmp 37) 24 rfl w.heap.size 3 (.int .i64 0) 1 8 Tryz.underlying24 info_int rfl (by decide) [.int .i64 (z - 50)] rfl (by simp [Value.oneCell']) _ _ _ (by rfl) HRW.out (by rfl) (by simp) (by omega) (by omega) (by simp;omega) ?_);intro g5 cp5 w5 hown5 hgrow5 hn5;have hx5:=block_grown (w:=wc.drew) hgrow5 HX.out (own_ne_block HRW.out HX.out (by decide));have d5:w5.cell? ⟨wb,1,none⟩=some (.slice a1 vs.length c1):=cell_block hx5 1;have f5:=free_block hx5 1;have l5:wb < w5.heap.size:=(Array.getElem?_eq_some_iff.1 hx5).1;have HO5:=Lib.hid hown5;have HG5:=Lib.hid hgrow5;have HN5:=Lib.hid hn5;clear hx5 hown5 hgrow5 hn5)))
    all_goals (go_wp2_with fail;go_meet)
    all_goals (case rel=>exact⟨(z - 50),g5,cp5,⟨by omega,Lib.hid (by rw [HZE.out])⟩,Lib.hid ((PS.out.on (below_drewN (Below.refl _ _) 1)).push1 HO5.out HG5.out HN5.out),Lib.hid (set_block_ne (block_grown (w:=wc.drew) HG5.out PG.out (own_ne_block HRW.out PG.out (by decide))) HNG.out.1 _),Lib.hid (set_block_ne (block_grown (w:=wc.drew) HG5.out PR.out (own_ne_block HRW.out PR.out (by decide))) HWB.out _)⟩)
   case rest =>
   obtain⟨z1,g1,e1,⟨hz1,HZ1⟩,QS,QG,QR⟩:=hcut
   clear b0 y0 lb lg hlw HX HRW PS PG PR hln
   have HX:=Lib.hid QS.out.box
   have HRW:=Lib.hid QS.out.r3
   have b0:wc.cell? ⟨wb,3,none⟩=some (.slice a3 ds.length c3):=cell_block HX.out 3
   have y0:wc.cell? ⟨gr,3,none⟩=some (.int .i64 rc):=cell_block QG.out 3
   have lb:wb < wc.heap.size:=QS.out.lt
   have lg:gr < wc.heap.size:=(Array.getElem?_eq_some_iff.1 QG.out).1
   have hlw:w.heap.size≤wc.heap.size:=QS.out.below.size
   have hln:ds.length≤20:=by have:=HW.out;omega
   go_upto_region 8 with fail
   go_cut [] from 40 to 74 (fun wx =>∃(z3:Int) (g3 e3:Nat),((0≤z3∧z3 < 20)∧Hid (z3=pickZ rc 20))∧Hid (WkS w wb (is ++ [z0]) (vs ++ [z1]) ps (ds ++ [z3]) (some ⟨g0,0,none⟩) (some ⟨g1,0,none⟩) a2 (some ⟨g3,0,none⟩) e0 e1 c2 e3 wx)∧Hid (wx.heap[gr]? = some (.cells #[.int .i64 rk,.int .i64 ra,.int .i64 rb,.int .i64 rc] 61 (0,0)))∧Hid (wx.heap[w.heap.size]? = some (.cells #[.slice none 0 0,.slice none 0 0,.slice none 0 0,.slice none 0 0] 27 (0,0))))
   case first =>
    go_region_law ((first | (go_simp;go_at_call 22;refine (picked_ix rc 20 _ ?_ ?_ (by omega) (by omega)).mono ?_;omega;omega;rintro en wq ⟨z,hz1,hz2,HZE,rfl,rfl⟩;skip) | (go_loud (refine step_push_at wc.drew rfl (.tmp 41) (.tmp 45) 24 rfl w.heap.size 3 (.int .i64 0) 1 8 Tryz.underlying24 info_int rfl (by decide) [.int .i64 z] rfl (by simp [Value.oneCell']) _ _ _ (by rfl) HRW.out (by rfl) (by simp) (by omega) (by omega) (by simp;omega) ?_);intro g5 cp5 w5 hown5 hgrow5 hn5;have hx5:=block_grown (w:=wc.drew) hgrow5 HX.out (own_ne_block HRW.out HX.out (by decide));have d5:w5.cell? ⟨wb,3,none⟩=some (.slice a3 ds.length c3):=cell_block hx5 3;have f5:=free_block hx5 3;have l5:wb < w5.heap.size:=(Array.getElem?_eq_some_iff.1 hx5).1;have HO5:=Lib.hid hown5;have HG5:=Lib.hid hgrow5;have HN5:=Lib.hid hn5;clear hx5 hown5 hgrow5 hn5)))
    all_goals (go_wp2_with fail;go_meet)
    all_goals (case rel=>exact⟨z,g5,cp5,⟨by omega,HZE⟩,Lib.hid ((QS.out.on (below_drewN (Below.refl _ _) 1)).push3 HO5.out HG5.out HN5.out),Lib.hid (set_block_ne (block_grown (w:=wc.drew) HG5.out QG.out (own_ne_block HRW.out QG.out (by decide))) HNG.out.1 _),Lib.hid (set_block_ne (block_grown (w:=wc.drew) HG5.out QR.out (own_ne_block HRW.out QR.out (by decide))) HWB.out _)⟩)
   case rest =>
   obtain⟨z3,g3,e3,⟨hz3,HZ3⟩,RS,RG,RR⟩:=hcut
   clear b0 y0 lb lg hlw HX HRW QS QG QR hln
   have HW8:Hid (W20 (is ++ [z0]) (vs ++ [z1]) (ps.map (·.1)) (ds ++ [z3])∧(is ++ [z0]).length=i+1∧(vs ++ [z1]).length=i+1∧(ds ++ [z3]).length=i+1∧ps.length≤i):=Lib.hid (by obtain⟨k,k1,k2,k3,k4⟩:=HW.out;exact⟨k.add (by omega) (by omega) (by omega) hz0 hz1 hz3,by simp;omega,by simp;omega,by simp;omega,k4⟩)
   have HX8:Hid (WX xs (i+1) i (is ++ [z0]) (vs ++ [z1]) (ps.map (·.1)) (ds ++ [z3])):=Lib.hid ⟨by rw [HNX.out.1,HWX.out.fi,HZ0.out],by rw [HNX.out.2.1,HWX.out.fv,HZ1.out],HWX.out.fb,by rw [HNX.out.2.2.1,HWX.out.fd,HZ3.out]⟩
   clear HW hz0 hz1 hz3 HWX HZ0 HZ1 HZ3
   have hpl:ps.length≤i:=HW8.out.2.2.2.2
   generalize is ++ [z0]=is at *
   generalize vs ++ [z1]=vs at *
   generalize ds ++ [z3]=ds at *
   have y0:wc.cell? ⟨gr,0,none⟩=some (.int .i64 rk):=cell_block RG.out 0
   have lg:gr < wc.heap.size:=(Array.getElem?_eq_some_iff.1 RG.out).1
   go_wp2_with fail
   refine (picked_ix rk 3 _ ?_ ?_ (by omega) (by omega)).mono ?_
   · omega
   · omega
   rintro en wq ⟨z,hz1,hz2,HZE,rfl,rfl⟩
   by_cases hz:z=0
   ·
    subst hz
    have hlw:w.heap.size≤wc.heap.size:=RS.out.below.size
    have mk:=mk_ints 16 (by omega) (by omega) wc
    go_upto_block 2 with fail
    obtain⟨W9,hW9⟩:∃ W9,W9=wc.alloc (.cells (zeroInts 16) 3):=⟨_,rfl⟩
    rw [← hW9]
    have HB9:=Lib.hid (show Below wc.heap.size wc W9 from by rw [hW9];exact below_alloc wc _)
    have HO9:=Lib.hid (show W9.ownsRow w.heap.size 3 1 (.slice (some ⟨wc.heap.size,0,none⟩) 16 16) 16 ((([]:List Int) ++ List.replicate (16 - 0) 0).map (Value.int .i64)) from by rw [hW9];exact own_block (zs:=List.replicate 16 (0:Int)) (by rw [← zeroInts_eq];exact alloc_at rfl) hlw (by simp) (by omega))
    clear hW9 mk y0 lg
    go_wp2_with fail
    go_loopg [7,55] 16 (fun gh s7 s55 wf =>∃(q:Nat) (bl:List Int),q≤16∧gh=16 - q∧s55=.int .i64 q∧bl.length=q∧Hid (bl=blkZ rc q)∧Hid (∀ z∈bl,0≤z∧z < 9)∧Hid (Below wc.heap.size wc wf)∧Hid (wf.ownsRow w.heap.size 3 1 (.slice (some ⟨wc.heap.size,0,none⟩) 16 16) 16 ((bl ++ List.replicate (16 - q) 0).map (Value.int .i64))))
    case atStart=>exact⟨0,[],by omega,rfl,rfl,rfl,Lib.hid rfl,Lib.hid (fun z hz=>by cases hz),HB9,HO9⟩
    case round =>
     clear HB9 HO9
     obtain⟨q,bl,hq,rfl,rfl,hbl,HBQ,HZ,HB,HO⟩:=hrel
     by_cases hq16:q < 16
     ·
      have y3:wr.cell? ⟨gr,3,none⟩=some (.int .i64 rc):=cell_block (block_below HB.out RG.out (Array.getElem?_eq_some_iff.1 RG.out).1) 3
      have lg:gr < wr.heap.size:=Nat.lt_of_lt_of_le (Array.getElem?_eq_some_iff.1 RG.out).1 HB.out.size
      have hw1:IntKind.i64.wrap ((q:Int) / 4)=(q:Int) / 4:=IntWalk.i64_in _ (by omega)
      have hw2:IntKind.i64.wrap ((q:Int) / 4+1)=(q:Int) / 4+1:=IntWalk.i64_in _ (by omega)
      have hnd:¬ IntKind.i64.wrap (IntKind.i64.wrap ((q:Int) / 4)+1)=0:=by rw [hw1,hw2];omega
      have hnd2:¬ (q:Int) / 4+1=0:=by omega
      have hq0:(0:Int)≤(q:Int):=by omega
      have hq1:(q:Int) < 16:=by omega
      have HFN:=Lib.hid (fun z:Int=>fill_next (z:=z) hbl hq16)
      obtain⟨zo,hzo⟩:=own_cellW HO.out (by rw [List.length_append,List.length_replicate];omega) hq16
      have fq:=HO.out.frozenAt q
      have lk:wc.heap.size < wr.heap.size:=(HO.out.lt _ rfl).2
      have HBL:=Lib.hid hbl
      have HTD:=Lib.hid (tdiv_rng rc ((q:Int) / 4+1) (by omega) (by omega) (by omega))
      clear hbl
      go_wp2_with (go_at_call 22;refine (picked_ix _ _ _ ?_ ?_ ?_ ?_).mono ?_;exact HTD.out.1;exact HTD.out.2;omega;omega;rintro en w' ⟨z,hz1,hz2,HZ9,rfl,rfl⟩)
      go_roundg (16 - (q+1))
      case measure=>omega
      case rel=>exact⟨q+1,bl ++ [z],by omega,rfl,by go_num,by rw [List.length_append,HBL.out];rfl,Lib.hid (by rw [blk_next,HBQ.out,HZ9.out]),Lib.hid (by intro y hy;rcases List.mem_append.1 hy with hy | hy;exact HZ.out y hy;rw [List.mem_singleton.1 hy];omega),Lib.hid (HB.out.setCell (Nat.le_refl _) _),Lib.hid (by rw [← HFN.out z,List.map_set];exact (HO.out.stored q (.int .i64 z)).1)⟩
     ·
      obtain rfl:q=16:=by omega
      have HSF:=Lib.hid (RS.out.on HB.out)
      have HRF:=Lib.hid (block_below HB.out RR.out (Array.getElem?_eq_some_iff.1 RR.out).1)
      have HBL:=Lib.hid hbl
      have HOF:Hid (wr.ownsRow w.heap.size 3 1 (.slice (some ⟨wc.heap.size,0,none⟩) 16 16) bl.length (bl.map (Value.int .i64))):=Lib.hid (by have h:=HO.out;rw [Nat.sub_self,List.replicate_zero,List.append_nil] at h;rw [HBL.out];exact h)
      clear hbl HO
      have HX:=Lib.hid HSF.out.box
      have HRW:=Lib.hid HSF.out.r2
      have b2:wr.cell? ⟨wb,2,none⟩=some (.slice a2 ps.length c2):=cell_block HX.out 2
      have lb:wb < wr.heap.size:=HSF.out.lt
      have hlw:w.heap.size≤wr.heap.size:=HSF.out.below.size
      go_wp2_with (at_builtin;go_loud (refine wpList_push_at wr rfl (.tmp 70) (.tmp 72) 25 rfl w.heap.size 24 (.slice none 0 0) 1 24 Tryz.underlying25 info_ints rfl (by decide) [.slice (some ⟨wc.heap.size,0,none⟩) 16 16] rfl (by simp [Value.oneCell']) _ _ _ (by rfl) HRW.out (by rfl) (by simp) (by omega) (by omega) (by omega) ?_);intro g5 cp5 w5 hown5 hgrow5 hn5;have hx5:=block_grown hgrow5 HX.out (own_ne_block HRW.out HX.out (by decide));have d5:w5.cell? ⟨wb,2,none⟩=some (.slice a2 ps.length c2):=cell_block hx5 2;have f5:=free_block hx5 2;have l5:wb < w5.heap.size:=(Array.getElem?_eq_some_iff.1 hx5).1;have HO5:=Lib.hid hown5;have HG5:=Lib.hid hgrow5;clear hx5 hown5 hgrow5 hn5)
      go_roundg (21 - (i+1))
      case measure=>omega
      case rel=>exact⟨i+1,is,vs,ps ++ [(bl,.slice (some ⟨wc.heap.size,0,none⟩) 16 16)],ds,_,_,_,_,_,_,_,_,by omega,by omega,rfl,by go_num,Lib.hid (HSF.out.pushB HOF.out (by simp [Value.oneCell']) (nb_far RS.out.r0 (Nat.le_refl _)) (nb_far RS.out.r1 (Nat.le_refl _)) (nb_far RS.out.r3 (Nat.le_refl _)) HO5.out HG5.out),Lib.hid (by obtain⟨k,k1,k2,k3,k4⟩:=HW8.out;refine⟨?_,k1,k2,k3,by simp;omega⟩;rw [List.map_append];exact k.addB (by rw [List.length_map];omega) HBL.out HZ.out),Lib.hid ⟨HX8.out.fi,HX8.out.fv,by rw [List.map_append,HX8.out.fb,HNX.out.2.2.2.1 HZE.out.symm,List.map_singleton,HBQ.out],HX8.out.fd⟩,Lib.hid (set_block_ne (block_grown HG5.out HRF.out (own_ne_block HRW.out HRF.out (by decide))) HWB.out _)⟩
   ·
    go_wp2_with fail
    go_roundg (21 - (i+1))
    case measure=>omega
    case rel=>exact⟨i+1,is,vs,ps,ds,_,_,_,_,_,_,_,_,by omega,by omega,rfl,by go_num,RS,Lib.hid ⟨HW8.out.1,HW8.out.2.1,HW8.out.2.2.1,HW8.out.2.2.2.1,by omega⟩,Lib.hid ⟨HX8.out.fi,HX8.out.fv,by rw [HX8.out.fb,HNX.out.2.2.2.2 (by rw [← HZE.out];exact hz)],HX8.out.fd⟩,RR⟩
  ·
   have HX:=Lib.hid HS.out.box
   have b0:wr.cell? ⟨wb,0,none⟩=some (.slice a0 is.length c0):=cell_block HX.out 0
   have b1:wr.cell? ⟨wb,1,none⟩=some (.slice a1 vs.length c1):=cell_block HX.out 1
   have b2:wr.cell? ⟨wb,2,none⟩=some (.slice a2 ps.length c2):=cell_block HX.out 2
   have b3:wr.cell? ⟨wb,3,none⟩=some (.slice a3 ds.length c3):=cell_block HX.out 3
   have e0:wr.cell? ⟨w.heap.size,0,none⟩=some (.slice none 0 0):=cell_block HRB.out 0
   have e1:wr.cell? ⟨w.heap.size,1,none⟩=some (.slice none 0 0):=cell_block HRB.out 1
   have e2:wr.cell? ⟨w.heap.size,2,none⟩=some (.slice none 0 0):=cell_block HRB.out 2
   have e3:wr.cell? ⟨w.heap.size,3,none⟩=some (.slice none 0 0):=cell_block HRB.out 3
   have f0:=free_block HRB.out 0
   have f1:=free_block HRB.out 1
   have f2:=free_block HRB.out 2
   have f3:=free_block HRB.out 3
   have lb:wb < wr.heap.size:=HS.out.lt
   have lw:w.heap.size < wr.heap.size:=(Array.getElem?_eq_some_iff.1 HRB.out).1
   have HNE:Hid (wb≠w.heap.size):=Lib.hid (fun e=>HWB.out e.symm)
   have hne:=HNE.out
   have F0:=Lib.hid (HS.out.box2 (j:=0) HRB.out HNE.out (Nat.le_refl _) (.slice a0 is.length c0))
   have R0:=Lib.hid (set_block (i:=0) HRB.out (.slice a0 is.length c0))
   have F1:=Lib.hid (F0.out.box2 (j:=1) R0.out HNE.out (Nat.le_refl _) (.slice a1 vs.length c1))
   have R1:=Lib.hid (set_block (i:=1) R0.out (.slice a1 vs.length c1))
   have F2:=Lib.hid (F1.out.box2 (j:=2) R1.out HNE.out (Nat.le_refl _) (.slice a2 ps.length c2))
   have R2:=Lib.hid (set_block (i:=2) R1.out (.slice a2 ps.length c2))
   have F3:=Lib.hid (F2.out.box2 (j:=3) R2.out HNE.out (Nat.le_refl _) (.slice a3 ds.length c3))
   have R3:=Lib.hid (set_block (i:=3) R2.out (.slice a3 ds.length c3))
   by_cases hil:i < xs.length
   ·
    have h20:¬ i < 20:=fun h=>hgo ⟨hil,h⟩
    go_wp2_with fail
    obtain⟨u1,u2,u3,u4⟩:=w_all (xs:=xs) (i:=i) (by omega) hi
    have E1:wI xs 20=is:=u1.trans HWX.out.fi.symm
    have E2:wV xs 20=vs:=u2.trans HWX.out.fv.symm
    have E3:wB xs 20=ps.map (·.1):=u3.trans HWX.out.fb.symm
    have E4:wD xs 20=ds:=u4.trans HWX.out.fd.symm
    have hrd:=F3.out.reads HW.out.1
    have RA:=cell_block R3.out 0
    have RB:=cell_block R3.out 1
    have RC:=cell_block R3.out 2
    have RD:=cell_block R3.out 3
    simp only [Array.setIfInBounds] at RA RB RC RD
    exact bodyPost_ret (v:=.agg #[.slice a0 is.length c0,.slice a1 vs.length c1,.slice a2 ps.length c2,.slice a3 ds.length c3]) (by simp [results,Tryz.results7,go_sem,RA,RB,RC,RD]) rfl ⟨a0,a1,a2,a3,c0,c1,c2,c3,by rw [E1,E2,E3,E4,List.length_map],by rw [E1];exact hrd.1,by rw [E2];exact hrd.2.1,by rw [E3];exact hrd.2.2.1,by rw [E4];exact hrd.2.2.2,by rw [E1,E2,E3,E4];exact HW.out.1,F3.out.below⟩
   ·
    go_wp2_with fail
    obtain⟨u1,u2,u3,u4⟩:=w_all (xs:=xs) (i:=i) (by omega) hi
    have E1:wI xs 20=is:=u1.trans HWX.out.fi.symm
    have E2:wV xs 20=vs:=u2.trans HWX.out.fv.symm
    have E3:wB xs 20=ps.map (·.1):=u3.trans HWX.out.fb.symm
    have E4:wD xs 20=ds:=u4.trans HWX.out.fd.symm
    have hrd:=F3.out.reads HW.out.1
    have RA:=cell_block R3.out 0
    have RB:=cell_block R3.out 1
    have RC:=cell_block R3.out 2
    have RD:=cell_block R3.out 3
    simp only [Array.setIfInBounds] at RA RB RC RD
    exact bodyPost_ret (v:=.agg #[.slice a0 is.length c0,.slice a1 vs.length c1,.slice a2 ps.length c2,.slice a3 ds.length c3]) (by simp [results,Tryz.results7,go_sem,RA,RB,RC,RD]) rfl ⟨a0,a1,a2,a3,c0,c1,c2,c3,by rw [E1,E2,E3,E4,List.length_map],by rw [E1];exact hrd.1,by rw [E2];exact hrd.2.1,by rw [E3];exact hrd.2.2.1,by rw [E4];exact hrd.2.2.2,by rw [E1,E2,E3,E4];exact HW.out.1,F3.out.below⟩
def KPostA (img is vs:List Int) (bs:List (List Int)) (ds:List Int) (last:Value) (n:Int) (w:World) (e:Ending) (w':World):Prop:=∃ (l:List UInt8) (N:Nat) (m:Mach) (ai ab ar am ao:Option Addr) (ci cb cr cm co:Nat),e=.returned (.tuple #[.agg #[.slice ai img.length ci,.slice ab l.length cb,.int .i64 N],.agg #[.slice ar m.regs.length cr,.int .i64 m.pc,.int .i64 m.back,.bool m.ints,.bool m.wait,.int .i64 m.table,.int .i64 m.count,.int .i64 m.fin,.slice am m.mem.length cm,.slice ao m.out.length co,.int .i64 m.ready,.int .i64 m.want],last])∧KT w' n (.slice ai img.length ci) (.slice ab l.length cb) (.agg #[.slice ar m.regs.length cr,.int .i64 m.pc,.int .i64 m.back,.bool m.ints,.bool m.wait,.int .i64 m.table,.int .i64 m.count,.int .i64 m.fin,.slice am m.mem.length cm,.slice ao m.out.length co,.int .i64 m.ready,.int .i64 m.want]) img is vs bs ds l N m∧Below w.heap.size w w'
def KPostZ (xs ys:List Rw) (last:Value) (n:Int) (w:World) (e:Ending) (w':World):Prop:=KPostA (imgZ xs) (wI ys 20) (wV ys 20) (wB ys 20) (wD ys 20) last n w e w'
def KRecPostZ (xs ys:List Rw) (n:Int) (w:World) (e:Ending) (w':World):Prop:=∃ (img is vs:List Int) (bs:List (List Int)) (ds:List Int) (l:List UInt8) (N:Nat) (m:Mach) (ai ab ar am ao:Option Addr) (ci cb cr cm co:Nat),e=.returned (.tuple #[.agg #[.slice ai img.length ci,.slice ab l.length cb,.int .i64 N],.agg #[.slice ar m.regs.length cr,.int .i64 m.pc,.int .i64 m.back,.bool m.ints,.bool m.wait,.int .i64 m.table,.int .i64 m.count,.int .i64 m.fin,.slice am m.mem.length cm,.slice ao m.out.length co,.int .i64 m.ready,.int .i64 m.want],.bool true])∧KRec img is vs bs ds n l N m∧newC img=0∧img.length≤64∧w'.ownsRow w.heap.size 3 1 (.slice ai img.length ci) img.length (img.map (Value.int .i64))∧w'.ownsRow w.heap.size 5 1 (.slice ab l.length cb) l.length (bv l)∧MachOwn w.heap.size w' m (.slice ar m.regs.length cr) (.slice am m.mem.length cm) (.slice ao m.out.length co)∧Below w.heap.size w w'∧img=imgZ xs∧(is=wI ys 20∧vs=wV ys 20∧bs=wB ys 20∧ds=wD ys 20)
theorem kimagez_any (v:Value) (xs:List Rw) (w:World) (h:RawsR w.heap.size w v xs):Calls Tryz.prog 10 #[v] w fun e w' =>∃(a:Option Addr) (c n:Nat) (zs:List Int),e=.returned (.slice a n c)∧n≤64∧zs.length=n∧(∀ z∈zs,WordZ z)∧w'.ownsRow w.heap.size 3 1 (.slice a n c) n (zs.map (Value.int .i64))∧Below w.heap.size w w'∧Hid (zs=imgZ xs):=
 (image_at v xs w h).mono (fun e w' ⟨a,c,n,he,hn,ho,hb⟩=>⟨a,c,n,imgZ xs,he,hn,ho.len,ho.word,ho.own,hb,Lib.hid rfl⟩)
theorem kworldz_any (v:Value) (ys:List Rw) (w:World) (h:RawsR w.heap.size w v ys):Calls Tryz.prog 7 #[v] w fun e w' =>∃is vs bs ds a0 a1 a2 a3 c0 c1 c2 c3,e=.returned (.agg #[.slice a0 is.length c0,.slice a1 vs.length c1,.slice a2 bs.length c2,.slice a3 ds.length c3])∧Ints w'.heap.size w' (.slice a0 is.length c0) is∧Ints w'.heap.size w' (.slice a1 vs.length c1) vs∧RowsR w'.heap.size w' (.slice a2 bs.length c2) bs∧Ints w'.heap.size w' (.slice a3 ds.length c3) ds∧W20 is vs bs ds∧Below w.heap.size w w'∧Hid (is=wI ys 20∧vs=wV ys 20∧bs=wB ys 20∧ds=wD ys 20):=
 (worldz_any v ys w h).mono (fun e w' ⟨a0,a1,a2,a3,c0,c1,c2,c3,he,h0,h1,h2,h3,hw,hb⟩=>⟨_,_,_,_,a0,a1,a2,a3,c0,c1,c2,c3,he,h0,h1,h2,h3,hw,hb,Lib.hid ⟨rfl,rfl,rfl,rfl⟩⟩)
theorem KRec.first {img is vs:List Int} {bs:List (List Int)} {ds:List Int} {n n':Int} {l l':List UInt8} {N N':Nat} {m m':Mach} (h:KRec img is vs bs ds n l N m) (h':KRec img is vs bs ds n' l' N' m') (hn:n≤n'):N≤N':=by
 by_cases hlt:N' < N
 ·
  have h1:=h.tape.go N' hlt
  have h2:=h.le
  rcases h'.end_ with h3 | h3
  · omega
  · exact absurd h1 h3
 · omega
theorem KRec.det {img is vs:List Int} {bs:List (List Int)} {ds:List Int} {n:Int} {l l':List UInt8} {N N':Nat} {m m':Mach} (h:KRec img is vs bs ds n l N m) (h':KRec img is vs bs ds n l' N' m'):N=N'∧l=l'∧m=m':=by
 have e:N=N':=Nat.le_antisymm (h.first h' (by omega)) (h'.first h (by omega))
 subst e
 exact⟨rfl,h.enc.trans h'.enc.symm,h.mach.trans h'.mach.symm⟩
theorem krecz_post {xs ys:List Rw} {n:Int} {w:World} {e:Ending} {w':World} (h:KRecPostZ xs ys n w e w'):KPostZ xs ys (.bool true) n w e w':=by
 obtain⟨img,is,vs,bs,ds,l,N,m,ai,ab,ar,am,ao,ci,cb,cr,cm,co,he,hk,hnc,hil,hi,hb,hm,hB,rfl,rfl,rfl,rfl,rfl⟩:=h
 exact⟨l,N,m,ai,ab,ar,am,ao,ci,cb,cr,cm,co,he,⟨hk,hnc,hil,ints_of_owns hi (by omega) (newC_i64 hnc),bytes_of_own hb (by have:=hk.l60;omega),mach_r hk.mok hm⟩,hB⟩
theorem kreca_any (ai a0 a1 a2 a3:Option Addr) (ci c0 c1 c2 c3:Nat) (img is vs:List Int) (bs:List (List Int)) (ds:List Int) (n:Int) (w:World) (ht:Tab w) (hi:Ints w.heap.size w (.slice ai img.length ci) img) (h0:Ints w.heap.size w (.slice a0 is.length c0) is) (h1:Ints w.heap.size w (.slice a1 vs.length c1) vs) (h2:RowsR w.heap.size w (.slice a2 bs.length c2) bs) (h3:Ints w.heap.size w (.slice a3 ds.length c3) ds) (hn0:0≤n) (hn1:n≤500) (hnc:newC img=0) (hil:img.length≤64) (hw:W20 is vs bs ds):Calls Tryz.prog 9 #[.slice ai img.length ci,.agg #[.slice a0 is.length c0,.slice a1 vs.length c1,.slice a2 bs.length c2,.slice a3 ds.length c3],.int .i64 n] w (KPostA img is vs bs ds (.int .i64 0) n w):=by
 refine (record_any ai ci a0 a1 a2 a3 c0 c1 c2 c3 img is vs bs ds n w ht hi h0 h1 h2 h3 (by unfold I64;omega)).mono ?_
 rintro e w5 ⟨cc,l,cnt,i2,m,vi,vb,ar,cr,am,cm,ao,co,hR,rfl,hvi,hvb,hbd,hmo,hb5⟩
 obtain⟨rfl,hi2,N,rfl,hK⟩:=keep_rec hR hnc hw hn0 hn1
 subst hi2
 obtain⟨ai,ci,rfl⟩:=own_shape hvi
 obtain⟨ab,cb,rfl⟩:=own_shape hvb
 exact⟨l,N,m,ai,ab,ar,am,ao,ci,cb,cr,cm,co,rfl,⟨hK,hnc,hil,ints_of_owns hvi (by omega) (newC_i64 hnc),bytes_of_own hvb (by have:=hK.l60;omega),mach_r hK.mok hmo⟩,hb5⟩
end Go.Proofs.YtkahciebbnhobaaGreatDoor
