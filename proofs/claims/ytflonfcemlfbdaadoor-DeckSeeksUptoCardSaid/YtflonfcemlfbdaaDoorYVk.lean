/- Several texts joined, each with its own heading in the notes: The deck's begin. The deck's begin, where it had a space. No condition beyond those of each row. -/
import Derived.Test.YtflonfcemlfbdaaDoorYVf
import Derived.Test.YtflonfcemlfbdaaDoorYTk
import Derived.Handy
import Derived.StillTailTactics
import Derived.Deep.RegionWith
import Derived.Deep.RegionLaw
import Derived.Deep.CutBlock
import Derived.Deep.CutRange
import Derived.Deep.RegionHeld3
import Derived.Deep.LoopGhost
namespace Go.Proofs.YtflonfcemlfbdaaDoor
open Go Go.RowKit Go.ChangeShapes Go.WideShapes Go.Deep
set_option maxHeartbeats 8000000
set_option maxRecDepth 100000
set_option linter.unusedVariables false
attribute [local go_sem ↓] Go.wp_at_zero Go.wp_at_succ
def BegP(K:DkC)(e:Ending)(w':World):Prop:=(e=.returned (.int .i64 0)∧DkS K (zas K.img) 0 (-1) w')∨(e=.returned (.int .i64 7)∧(K.N:Int)<16*(K.kp+2)∧OutF (fun g=>g=K.db) K.w1 w')
section
variable {K:DkC} {m:Mach} {i:Nat} {cb gr cr sb:Nat} {wrote:Int} {x:Bool} {vl:Value} {ao:Option Addr} {co:Nat} {F:Nat→Prop} {ap:Option Addr} {cp L:Nat} {rows pts:List Pt} {w w':World} {v8 v9 v10 v11:Value} {ss:List Spc}
theorem zhU(hK:DkK K)(h:BegS K (.pointer none) (.pointer none) (.slice none 0 0) [] ap cp pts L w)(hl:(pts.length:Int)≤K.kp):Calls Tryd.prog 20 #[.pointer (some ⟨K.db,0,none⟩)] w fun e w'=>BegP K e w':=by
 have HK:=Lib.hid hK
 have HB0:=Lib.hid h
 have HL:=Lib.hid hl
 have b9:w.cell? ⟨K.db,9,none⟩=some (.pointer none):=zaa h.box 9
 have ld:K.db<w.heap.size:=(Array.getElem?_eq_some_iff.1 h.box).1
 clear h hK hl
 go_enter Tryd.func20,Tryd.ntmps20
 go_upto_region 3 with fail
 clear b9 ld
 obtain⟨ai,ci,hvi,hil,_⟩:=id (HK.out.img w HB0.out.out)
 have HIM:=Lib.hid (zcX HK.out.nc)
 have HNW:=Lib.hid (zdE (.slice ai K.img.length ci) K.img w (by rw[←hvi];exact HK.out.img w HB0.out.out))
 rw[HIM.out.2,HK.out.nc] at HNW
 have h256:K.img.length≤256:=by
  by_cases h1:256<K.img.length
  ·
   have h:=HK.out.nc
   unfold newC at h;rw[if_pos h1] at h;cases h
  ·omega
 have HWZ:=Lib.hid (show ∀z∈K.img,WordZ z from fun z hz=>zaE (by
  have h:=HK.out.nc
  unfold newC at h
  rw[if_neg (by omega)] at h
  by_cases h2:K.img.any oddB=true
  ·rw[if_pos h2] at h;cases h
  ·simpa using h2) z hz)
 have HMM:=Lib.hid (show (zas K.img).mem=K.img.take K.img.length++List.replicate (256-K.img.length) 0 from by rw[List.take_length];rfl)
 have HCZ:=Lib.hid (show (zas K.img).count=0 from rfl)
 have HOZ:=Lib.hid (show (zas K.img).out=[] from rfl)
 have b3:w.cell? ⟨K.db,3,none⟩=some (.slice ai K.img.length ci):=by rw[←hvi];exact zaa HB0.out.box 3
 have ld:K.db<w.heap.size:=(Array.getElem?_eq_some_iff.1 HB0.out.box).1
 obtain⟨m0,hm0⟩:∃m0,m0=zas K.img:=⟨_,rfl⟩
 rw[←hm0] at HIM HNW HMM HCZ HOZ
 have HM0:=Lib.hid hm0
 have HVI:=Lib.hid hvi
 clear hvi hm0
 go_wp2_with fail
 refine HNW.out.mono ?_
 rintro e w2 ⟨ar,cr,am,cm,ao,co,he,hown,hb2⟩
 rw[Mach.agg,HIM.out.1.regs,HIM.out.1.mem] at he
 subst he
 have hr8:=hown.hr
 rw[HIM.out.1.regs] at hr8
 obtain⟨gr,rfl,hgr⟩:=zbf hr8 (by decide)
 have HRO:=Lib.hid (show (Value.slice ao m0.out.length co).ownBlock≠some gr from by
  rcases hown.or with q|q
  ·rw[q];simp
  ·exact q)
 go_upto_region 4 with fail
 obtain⟨w3,hw3⟩:∃W,W=w2.alloc (.cells #[.slice (some ⟨gr,0,none⟩) 8 cr,.int .i64 m0.pc,.int .i64 m0.back,.bool m0.ints,.bool m0.wait,.int .i64 m0.table,.int .i64 m0.count,.int .i64 m0.fin,.slice am 256 cm,.slice ao m0.out.length co,.int .i64 m0.ready,.int .i64 m0.want] 48 (0,0)):=⟨_,rfl⟩
 have HX3:=Lib.hid (show w3.heap[w2.heap.size]?=some (.cells #[.slice (some ⟨gr,0,none⟩) 8 cr,.int .i64 m0.pc,.int .i64 m0.back,.bool m0.ints,.bool m0.wait,.int .i64 m0.table,.int .i64 m0.count,.int .i64 m0.fin,.slice am 256 cm,.slice ao m0.out.length co,.int .i64 m0.ready,.int .i64 m0.want] 48 (0,0)) from by rw[hw3];exact alloc_at rfl)
 have hb3:Below w.heap.size w w3:=by rw[hw3];exact hb2.alloc hb2.size _
 have HR3:=Lib.hid (own_below hr8 (zai w2 (.cells #[.slice (some ⟨gr,0,none⟩) 8 cr,.int .i64 m0.pc,.int .i64 m0.back,.bool m0.ints,.bool m0.wait,.int .i64 m0.table,.int .i64 m0.count,.int .i64 m0.fin,.slice am 256 cm,.slice ao m0.out.length co,.int .i64 m0.ready,.int .i64 m0.want] 48 (0,0))) (Nat.le_refl _))
 have HO3:=Lib.hid (own_below hown.ho (zai w2 (.cells #[.slice (some ⟨gr,0,none⟩) 8 cr,.int .i64 m0.pc,.int .i64 m0.back,.bool m0.ints,.bool m0.wait,.int .i64 m0.table,.int .i64 m0.count,.int .i64 m0.fin,.slice am 256 cm,.slice ao m0.out.length co,.int .i64 m0.ready,.int .i64 m0.want] 48 (0,0))) (Nat.le_refl _))
 rw[←hw3] at HR3 HO3 ⊢
 obtain⟨gb,hgb⟩:∃g,g=w2.heap.size:=⟨_,rfl⟩
 have hgw:w.heap.size≤gb:=by rw[hgb];exact hb2.size
 rw[←hgb] at HX3 ⊢
 have HB3:=Lib.hid hb3
 have HGW:=Lib.hid hgw
 clear hw3 hgb hb2 hown hr8 HNW b3 hb3 hgr
 have c8:w3.cell? ⟨gb,8,none⟩=some (.slice am 256 cm):=zaa HX3.out 8
 have fc8:=zab HX3.out 8
 have lg3:gb<w3.heap.size:=(Array.getElem?_eq_some_iff.1 HX3.out).1
 go_upto_region 5 with fail
 obtain⟨w4,hw4⟩:∃W,W=w3.setCell ⟨gb,8,none⟩ (.slice none 0 0):=⟨_,rfl⟩
 have HX4:=Lib.hid (show w4.heap[gb]?=some (.cells #[.slice (some ⟨gr,0,none⟩) 8 cr,.int .i64 m0.pc,.int .i64 m0.back,.bool m0.ints,.bool m0.wait,.int .i64 m0.table,.int .i64 m0.count,.int .i64 m0.fin,.slice none 0 0,.slice ao m0.out.length co,.int .i64 m0.ready,.int .i64 m0.want] 48 (0,0)) from by rw[hw4];exact zaf HX3.out _)
 have HB4:=Lib.hid (show Below w.heap.size w w4 from by rw[hw4];exact HB3.out.setCell HGW.out _)
 have HR4:=Lib.hid (show w4.ownsRow w.heap.size 3 1 (.slice (some ⟨gr,0,none⟩) 8 cr) 8 (m0.regs.map (Value.int .i64)) from by rw[hw4];exact zao HR3.out (zad HR3.out HX3.out (by decide)) _)
 have HO4:=Lib.hid (show w4.ownsRow w.heap.size 3 1 (.slice ao m0.out.length co) m0.out.length (m0.out.map (Value.int .i64)) from by rw[hw4];exact zao HO3.out (zad HO3.out HX3.out (by decide)) _)
 rw[←hw4]
 have HS4:=Lib.hid (HB0.out.lift.below HK.out HB4.out)
 have HLO:=Lib.hid (show K.w1.heap.size≤w.heap.size from HB0.out.out.size)
 clear hw4 HX3 HR3 HO3 HB3 c8 fc8 lg3 ld
 first|(obtain⟨c0,c1,c2,c3,c4,c5,c6,c7,c8,c9,c10,c11⟩:=zaz HX4.out)|(obtain⟨c0,c1,c2,c3,c4,c5,c6,c7,c8,c9,c10,c11⟩:=zaA HX4.out)
 have lg4:gb<w4.heap.size:=(Array.getElem?_eq_some_iff.1 HX4.out).1
 have ld:K.db<w4.heap.size:=(Array.getElem?_eq_some_iff.1 HS4.out.box).1
 have d6:w4.cell? ⟨K.db,6,none⟩=some (.slice K.al K.L.length K.cl):=zaa HS4.out.box 6
 have d7:w4.cell? ⟨K.db,7,none⟩=some (.pointer (some ⟨K.hb,0,none⟩)):=zaa HS4.out.box 7
 have HDB:=Lib.hid (And.intro ld lg4)
 have HSP:=Lib.hid (fun (W':World) (hb:Below w4.heap.size w4 W')=>(HS4.out.below HK.out hb).new HK.out)
 have e8:∃u8,w4.cell? ⟨K.db,8,none⟩=some u8:=⟨_,zaa HS4.out.box 8⟩
 have e9:∃u9,w4.cell? ⟨K.db,9,none⟩=some u9:=⟨_,zaa HS4.out.box 9⟩
 have e10:∃u10,w4.cell? ⟨K.db,10,none⟩=some u10:=⟨_,zaa HS4.out.box 10⟩
 obtain⟨u8,d8⟩:=e8
 obtain⟨u9,d9⟩:=e9
 obtain⟨u10,d10⟩:=e10
 have f8:=zab HS4.out.box 8
 have f9:=zab HS4.out.box 9
 have f10:=zab HS4.out.box 10
 go_cut [] from 27 to 49 (fun wx =>∃(cb sb:Nat) (F:Nat→Prop),Hid (DkP K {m0 with mem:=List.replicate 256 0} cb gr cr sb (-1) false (.slice K.al K.L.length K.cl) ao co F ap cp pts wx))
 case first=>
  have HPS:=Lib.hid (fun (W':World) (hb:Below w4.heap.size w4 W')=>(HSP.out W' hb).mono (fun e w' h=>(by
   obtain⟨nb,he,hn,hb',hB⟩:=h
   exact⟨nb,he,Nat.le_trans hb.size hn,hb.trans (hb'.mono hb.size),(fun g o hg=>zac hb' hg (Array.getElem?_eq_some_iff.1 hg).1),hB⟩:∃nb,e=.returned (.pointer (some ⟨nb,0,none⟩))∧w4.heap.size≤nb∧Below w4.heap.size w4 w'∧(∀g o,W'.heap[g]?=some o→w'.heap[g]?=some o)∧BegS K _ _ _ [⟨nb,List.replicate 16 (-1),List.replicate 256 0⟩] ap cp pts _ w')))
  clear HSP
  have hgd:gb≠K.db:=fun e=>by
   have h1:Ty w4 gb 48:=⟨_,_,HX4.out⟩
   have h2:Ty w4 K.db 44:=⟨_,_,HS4.out.box⟩
   rw[e] at h1
   exact absurd (zaL h1 h2) (by decide)
  have HGD:=Lib.hid hgd
  clear hgd
  have HS0:w4.drew.cell? ⟨gb,0,none⟩=some (.slice (some ⟨gr,0,none⟩) 8 cr)∧w4.drew.cell? ⟨gb,1,none⟩=some (.int .i64 m0.pc)∧w4.drew.cell? ⟨gb,2,none⟩=some (.int .i64 m0.back)∧w4.drew.cell? ⟨gb,3,none⟩=some (.bool m0.ints)∧w4.drew.cell? ⟨gb,4,none⟩=some (.bool m0.wait)∧w4.drew.cell? ⟨gb,5,none⟩=some (.int .i64 m0.table)∧w4.drew.cell? ⟨gb,6,none⟩=some (.int .i64 m0.count)∧w4.drew.cell? ⟨gb,7,none⟩=some (.int .i64 m0.fin)∧w4.drew.cell? ⟨gb,8,none⟩=some (.slice none 0 0)∧w4.drew.cell? ⟨gb,9,none⟩=some (.slice ao m0.out.length co)∧w4.drew.cell? ⟨gb,10,none⟩=some (.int .i64 m0.ready)∧w4.drew.cell? ⟨gb,11,none⟩=some (.int .i64 m0.want)∧w4.drew.cell? ⟨K.db,6,none⟩=some (.slice K.al K.L.length K.cl)∧w4.drew.cell? ⟨K.db,7,none⟩=some (.pointer (some ⟨K.hb,0,none⟩)):=⟨c0,c1,c2,c3,c4,c5,c6,c7,c8,c9,c10,c11,d6,d7⟩
  have HSset:=Lib.hid (show ∀(W:World) (j:Nat) (u:Value),8≤j→(W.cell? ⟨gb,0,none⟩=some (.slice (some ⟨gr,0,none⟩) 8 cr)∧W.cell? ⟨gb,1,none⟩=some (.int .i64 m0.pc)∧W.cell? ⟨gb,2,none⟩=some (.int .i64 m0.back)∧W.cell? ⟨gb,3,none⟩=some (.bool m0.ints)∧W.cell? ⟨gb,4,none⟩=some (.bool m0.wait)∧W.cell? ⟨gb,5,none⟩=some (.int .i64 m0.table)∧W.cell? ⟨gb,6,none⟩=some (.int .i64 m0.count)∧W.cell? ⟨gb,7,none⟩=some (.int .i64 m0.fin)∧W.cell? ⟨gb,8,none⟩=some (.slice none 0 0)∧W.cell? ⟨gb,9,none⟩=some (.slice ao m0.out.length co)∧W.cell? ⟨gb,10,none⟩=some (.int .i64 m0.ready)∧W.cell? ⟨gb,11,none⟩=some (.int .i64 m0.want)∧W.cell? ⟨K.db,6,none⟩=some (.slice K.al K.L.length K.cl)∧W.cell? ⟨K.db,7,none⟩=some (.pointer (some ⟨K.hb,0,none⟩)))→((W.setCell ⟨K.db,j,none⟩ u).cell? ⟨gb,0,none⟩=some (.slice (some ⟨gr,0,none⟩) 8 cr)∧(W.setCell ⟨K.db,j,none⟩ u).cell? ⟨gb,1,none⟩=some (.int .i64 m0.pc)∧(W.setCell ⟨K.db,j,none⟩ u).cell? ⟨gb,2,none⟩=some (.int .i64 m0.back)∧(W.setCell ⟨K.db,j,none⟩ u).cell? ⟨gb,3,none⟩=some (.bool m0.ints)∧(W.setCell ⟨K.db,j,none⟩ u).cell? ⟨gb,4,none⟩=some (.bool m0.wait)∧(W.setCell ⟨K.db,j,none⟩ u).cell? ⟨gb,5,none⟩=some (.int .i64 m0.table)∧(W.setCell ⟨K.db,j,none⟩ u).cell? ⟨gb,6,none⟩=some (.int .i64 m0.count)∧(W.setCell ⟨K.db,j,none⟩ u).cell? ⟨gb,7,none⟩=some (.int .i64 m0.fin)∧(W.setCell ⟨K.db,j,none⟩ u).cell? ⟨gb,8,none⟩=some (.slice none 0 0)∧(W.setCell ⟨K.db,j,none⟩ u).cell? ⟨gb,9,none⟩=some (.slice ao m0.out.length co)∧(W.setCell ⟨K.db,j,none⟩ u).cell? ⟨gb,10,none⟩=some (.int .i64 m0.ready)∧(W.setCell ⟨K.db,j,none⟩ u).cell? ⟨gb,11,none⟩=some (.int .i64 m0.want)∧(W.setCell ⟨K.db,j,none⟩ u).cell? ⟨K.db,6,none⟩=some (.slice K.al K.L.length K.cl)∧(W.setCell ⟨K.db,j,none⟩ u).cell? ⟨K.db,7,none⟩=some (.pointer (some ⟨K.hb,0,none⟩))) from fun W j u hj h=>⟨(cell_far (Or.inl HGD.out) _).trans h.1,(cell_far (Or.inl HGD.out) _).trans h.2.1,(cell_far (Or.inl HGD.out) _).trans h.2.2.1,(cell_far (Or.inl HGD.out) _).trans h.2.2.2.1,(cell_far (Or.inl HGD.out) _).trans h.2.2.2.2.1,(cell_far (Or.inl HGD.out) _).trans h.2.2.2.2.2.1,(cell_far (Or.inl HGD.out) _).trans h.2.2.2.2.2.2.1,(cell_far (Or.inl HGD.out) _).trans h.2.2.2.2.2.2.2.1,(cell_far (Or.inl HGD.out) _).trans h.2.2.2.2.2.2.2.2.1,(cell_far (Or.inl HGD.out) _).trans h.2.2.2.2.2.2.2.2.2.1,(cell_far (Or.inl HGD.out) _).trans h.2.2.2.2.2.2.2.2.2.2.1,(cell_far (Or.inl HGD.out) _).trans h.2.2.2.2.2.2.2.2.2.2.2.1,(cell_far (Or.inr (by show 6≠j;omega)) _).trans h.2.2.2.2.2.2.2.2.2.2.2.2.1,(cell_far (Or.inr (by show 7≠j;omega)) _).trans h.2.2.2.2.2.2.2.2.2.2.2.2.2⟩)
  have HSall:=Lib.hid (show ∀(W:World) (O:Obj),(W.cell? ⟨gb,0,none⟩=some (.slice (some ⟨gr,0,none⟩) 8 cr)∧W.cell? ⟨gb,1,none⟩=some (.int .i64 m0.pc)∧W.cell? ⟨gb,2,none⟩=some (.int .i64 m0.back)∧W.cell? ⟨gb,3,none⟩=some (.bool m0.ints)∧W.cell? ⟨gb,4,none⟩=some (.bool m0.wait)∧W.cell? ⟨gb,5,none⟩=some (.int .i64 m0.table)∧W.cell? ⟨gb,6,none⟩=some (.int .i64 m0.count)∧W.cell? ⟨gb,7,none⟩=some (.int .i64 m0.fin)∧W.cell? ⟨gb,8,none⟩=some (.slice none 0 0)∧W.cell? ⟨gb,9,none⟩=some (.slice ao m0.out.length co)∧W.cell? ⟨gb,10,none⟩=some (.int .i64 m0.ready)∧W.cell? ⟨gb,11,none⟩=some (.int .i64 m0.want)∧W.cell? ⟨K.db,6,none⟩=some (.slice K.al K.L.length K.cl)∧W.cell? ⟨K.db,7,none⟩=some (.pointer (some ⟨K.hb,0,none⟩)))→((W.alloc O).cell? ⟨gb,0,none⟩=some (.slice (some ⟨gr,0,none⟩) 8 cr)∧(W.alloc O).cell? ⟨gb,1,none⟩=some (.int .i64 m0.pc)∧(W.alloc O).cell? ⟨gb,2,none⟩=some (.int .i64 m0.back)∧(W.alloc O).cell? ⟨gb,3,none⟩=some (.bool m0.ints)∧(W.alloc O).cell? ⟨gb,4,none⟩=some (.bool m0.wait)∧(W.alloc O).cell? ⟨gb,5,none⟩=some (.int .i64 m0.table)∧(W.alloc O).cell? ⟨gb,6,none⟩=some (.int .i64 m0.count)∧(W.alloc O).cell? ⟨gb,7,none⟩=some (.int .i64 m0.fin)∧(W.alloc O).cell? ⟨gb,8,none⟩=some (.slice none 0 0)∧(W.alloc O).cell? ⟨gb,9,none⟩=some (.slice ao m0.out.length co)∧(W.alloc O).cell? ⟨gb,10,none⟩=some (.int .i64 m0.ready)∧(W.alloc O).cell? ⟨gb,11,none⟩=some (.int .i64 m0.want)∧(W.alloc O).cell? ⟨K.db,6,none⟩=some (.slice K.al K.L.length K.cl)∧(W.alloc O).cell? ⟨K.db,7,none⟩=some (.pointer (some ⟨K.hb,0,none⟩))) from fun W O h=>⟨(World.cell?_alloc_some _ _ _ (by rw[h.1];rfl)).trans h.1,(World.cell?_alloc_some _ _ _ (by rw[h.2.1];rfl)).trans h.2.1,(World.cell?_alloc_some _ _ _ (by rw[h.2.2.1];rfl)).trans h.2.2.1,(World.cell?_alloc_some _ _ _ (by rw[h.2.2.2.1];rfl)).trans h.2.2.2.1,(World.cell?_alloc_some _ _ _ (by rw[h.2.2.2.2.1];rfl)).trans h.2.2.2.2.1,(World.cell?_alloc_some _ _ _ (by rw[h.2.2.2.2.2.1];rfl)).trans h.2.2.2.2.2.1,(World.cell?_alloc_some _ _ _ (by rw[h.2.2.2.2.2.2.1];rfl)).trans h.2.2.2.2.2.2.1,(World.cell?_alloc_some _ _ _ (by rw[h.2.2.2.2.2.2.2.1];rfl)).trans h.2.2.2.2.2.2.2.1,(World.cell?_alloc_some _ _ _ (by rw[h.2.2.2.2.2.2.2.2.1];rfl)).trans h.2.2.2.2.2.2.2.2.1,(World.cell?_alloc_some _ _ _ (by rw[h.2.2.2.2.2.2.2.2.2.1];rfl)).trans h.2.2.2.2.2.2.2.2.2.1,(World.cell?_alloc_some _ _ _ (by rw[h.2.2.2.2.2.2.2.2.2.2.1];rfl)).trans h.2.2.2.2.2.2.2.2.2.2.1,(World.cell?_alloc_some _ _ _ (by rw[h.2.2.2.2.2.2.2.2.2.2.2.1];rfl)).trans h.2.2.2.2.2.2.2.2.2.2.2.1,(World.cell?_alloc_some _ _ _ (by rw[h.2.2.2.2.2.2.2.2.2.2.2.2.1];rfl)).trans h.2.2.2.2.2.2.2.2.2.2.2.2.1,(World.cell?_alloc_some _ _ _ (by rw[h.2.2.2.2.2.2.2.2.2.2.2.2.2];rfl)).trans h.2.2.2.2.2.2.2.2.2.2.2.2.2⟩)
  clear c0 c1 c2 c3 c4 c5 c6 c7 c8 c9 c10 c11 d6 d7
  go_region_held3 (fun w'=>w'.cell? ⟨gb,0,none⟩=some (.slice (some ⟨gr,0,none⟩) 8 cr)∧w'.cell? ⟨gb,1,none⟩=some (.int .i64 m0.pc)∧w'.cell? ⟨gb,2,none⟩=some (.int .i64 m0.back)∧w'.cell? ⟨gb,3,none⟩=some (.bool m0.ints)∧w'.cell? ⟨gb,4,none⟩=some (.bool m0.wait)∧w'.cell? ⟨gb,5,none⟩=some (.int .i64 m0.table)∧w'.cell? ⟨gb,6,none⟩=some (.int .i64 m0.count)∧w'.cell? ⟨gb,7,none⟩=some (.int .i64 m0.fin)∧w'.cell? ⟨gb,8,none⟩=some (.slice none 0 0)∧w'.cell? ⟨gb,9,none⟩=some (.slice ao m0.out.length co)∧w'.cell? ⟨gb,10,none⟩=some (.int .i64 m0.ready)∧w'.cell? ⟨gb,11,none⟩=some (.int .i64 m0.want)∧w'.cell? ⟨K.db,6,none⟩=some (.slice K.al K.L.length K.cl)∧w'.cell? ⟨K.db,7,none⟩=some (.pointer (some ⟨K.hb,0,none⟩))) (first|assumption|exact HSset.out _ _ _ (by omega) (by assumption)|exact HSall.out _ _ (by assumption)|exact HSall.out _ _ (HSset.out _ _ _ (by omega) (by assumption))|exact HSall.out _ _ (HSset.out _ _ _ (by omega) (HSset.out _ _ _ (by omega) (by assumption)))|exact HSall.out _ _ (HSset.out _ _ _ (by omega) (HSset.out _ _ _ (by omega) (HSset.out _ _ _ (by omega) (by assumption))))) (first
   | (go_at_call 33;refine(HPS.out _ ?_).mono ?_;(first|exact below_drewN (Below.refl w4.heap.size w4) 1|exact(below_drewN (Below.refl w4.heap.size w4) 1).alloc (Nat.le_refl _) _);rintro e w5 ⟨nb,rfl,hnb,hb5,hps5,hB5⟩;have HX5:=Lib.hid (zac hb5 HX4.out HDB.out.2);have HS5:w5.cell? ⟨gb,0,none⟩=some (.slice (some ⟨gr,0,none⟩) 8 cr)∧w5.cell? ⟨gb,1,none⟩=some (.int .i64 m0.pc)∧w5.cell? ⟨gb,2,none⟩=some (.int .i64 m0.back)∧w5.cell? ⟨gb,3,none⟩=some (.bool m0.ints)∧w5.cell? ⟨gb,4,none⟩=some (.bool m0.wait)∧w5.cell? ⟨gb,5,none⟩=some (.int .i64 m0.table)∧w5.cell? ⟨gb,6,none⟩=some (.int .i64 m0.count)∧w5.cell? ⟨gb,7,none⟩=some (.int .i64 m0.fin)∧w5.cell? ⟨gb,8,none⟩=some (.slice none 0 0)∧w5.cell? ⟨gb,9,none⟩=some (.slice ao m0.out.length co)∧w5.cell? ⟨gb,10,none⟩=some (.int .i64 m0.ready)∧w5.cell? ⟨gb,11,none⟩=some (.int .i64 m0.want)∧w5.cell? ⟨K.db,6,none⟩=some (.slice K.al K.L.length K.cl)∧w5.cell? ⟨K.db,7,none⟩=some (.pointer (some ⟨K.hb,0,none⟩)):=⟨zaa HX5.out 0,zaa HX5.out 1,zaa HX5.out 2,zaa HX5.out 3,zaa HX5.out 4,zaa HX5.out 5,zaa HX5.out 6,zaa HX5.out 7,zaa HX5.out 8,zaa HX5.out 9,zaa HX5.out 10,zaa HX5.out 11,zaa hB5.box 6,zaa hB5.box 7⟩;have l5:K.db<w5.heap.size:=(Array.getElem?_eq_some_iff.1 hB5.box).1;have HNB:=Lib.hid hnb;have HB5:=Lib.hid hb5;have HPS5:=Lib.hid hps5;have HBS5:=Lib.hid hB5;have h58:=zaa hB5.box 8;have h59:=zaa hB5.box 9;have h510:=zaa hB5.box 10;have f58:=zab hB5.box 8;have f59:=zab hB5.box 9;have f510:=zab hB5.box 10;clear hnb hb5 hps5 hB5))
  all_goals (go_wp2_with fail;go_meet)
  ·
   have hr:=own_below HR4.out HB5.out (Nat.le_refl _)
   have ho:=own_below HO4.out HB5.out (Nat.le_refl _)
   obtain⟨F',h⟩:=zer (m:={m0 with mem:=List.replicate 256 0}) (wrote:=-1) (vl:=.slice K.al K.L.length K.cl) HK.out HBS5.out HLO.out (HPS5.out _ _ (alloc_at rfl)) hr ho HRO.out (by have:=HB4.out.size;exact this) HL.out
   exact⟨_,_,F',Lib.hid h⟩
  ·
   have hr:=own_below HR4.out HB5.out (Nat.le_refl _)
   have ho:=own_below HO4.out HB5.out (Nat.le_refl _)
   obtain⟨F',h⟩:=zco (m:={m0 with mem:=List.replicate 256 0}) (wrote:=-1) (vl:=.slice K.al K.L.length K.cl) HK.out HBS5.out HLO.out hr ho HRO.out (by have:=HB4.out.size;have:=HB5.out.size;omega) HL.out
   exact⟨_,_,F',Lib.hid h⟩
 case rest=>
  obtain⟨cb,sb,F,HP⟩:=hcut
  clear HX4 HB4 HR4 HO4 HS4 HLO HDB HSP d6 d7 d8 d9 d10 f8 f9 f10 lg4 ld c0 c1 c2 c3 c4 c5 c6 c7 c8 c9 c10 c11
  have b3:wc.cell? ⟨K.db,3,none⟩=some (.slice ai K.img.length ci):=by rw[←HVI.out];exact zaa HP.out.ps.box 3
  have ld:K.db<wc.heap.size:=HP.out.ps.plt
  go_wp2_with fail
  go_loopg [5,6,55] K.img.length (fun gh s5 s6 s55 wr =>∃(j:Nat) (F:Nat→Prop),j≤K.img.length∧gh=K.img.length-j∧s55=.int .i64 j∧Hid (DkP K {m0 with mem:=K.img.take j++List.replicate (256-j) 0} cb gr cr sb (-1) false (.slice K.al K.L.length K.cl) ao co F ap cp pts wr))
  case atStart=>exact⟨0,F,Nat.zero_le _,by omega,rfl,HP⟩
  case round=>
   clear HP b3 ld
   obtain⟨j,F,hj,rfl,rfl,HP⟩:=hrel
   have b9:wr.cell? ⟨K.db,9,none⟩=some (.pointer (some ⟨sb,0,none⟩)):=zaa HP.out.ps.box 9
   have ld:K.db<wr.heap.size:=HP.out.ps.plt
   by_cases hlt:j<K.img.length
   ·
    have him:=HK.out.img wr HP.out.ps.g.old
    rw[HVI.out] at him
    obtain⟨_,_,hv,_,_,hcl⟩:=him
    injection hv with q1 q2 q3
    subst q1 q3
    obtain⟨b,off,vi,rfl,hb,hc,hvi⟩:=hcl j hlt
    obtain⟨rfl,hz64⟩:=hvi
    have hll:(j:Int)<(K.img.length:Int):=by omega
    have hwr:IntKind.i64.wrap ((j:Int)+1)=((j+1:Nat):Int):=by rw[IntWalk.i64_in _ (by omega)];rfl
    have HZ:=Lib.hid (HWZ.out K.img[j] (List.getElem_mem hlt))
    have HSET:=Lib.hid (zhT j hlt h256)
    have HSET0:=Lib.hid (zfQ j hlt h256)
    clear hcl hz64
    generalize K.img[j]=z at *
    by_cases h0:z=0
    ·
     have hzb:(z != 0)=false:=by rw[bne_eq_false_iff_eq];exact h0
     have HN:=Lib.hid (show DkP K {m0 with mem:=K.img.take (j+1)++List.replicate (256-(j+1)) 0} cb gr cr sb (-1) false (.slice K.al K.L.length K.cl) ao co F ap cp pts wr from by rw[HSET0.out h0];exact HP.out)
     clear h0
     go_wp2_with fail
     go_roundg (K.img.length-(j+1))
     case measure=>omega
     case rel=>exact⟨j+1,F,by omega,rfl,rfl,HN⟩
    ·
     have hzb:(z != 0)=true:=by rw[bne_iff_ne];exact h0
     have HST:=Lib.hid ((zcb K.pp sb K.hb K.N (pts.map (·.pg)) (pts.map (·.m.mem))).store wr F _ false j z HP.out.ps.g.mem (by omega) (by omega) HZ.out)
     clear h0
     go_wp2_with fail
     refine HST.out.mono ?_
     rintro e w' ⟨ho,F',hF,(⟨rfl,hs⟩|⟨rfl,hs⟩)⟩
     ·
      have hk:=HP.out.ran HK.out (HP.out.ps.base.stored ho hF hs)
      rw[Int.toNat_natCast,HSET.out] at hk
      have HN:=Lib.hid hk
      clear hk ho hF hs HST b9 ld hc hb
      go_wp2_with fail
      go_roundg (K.img.length-(j+1))
      case measure=>omega
      case rel=>exact⟨j+1,F',by omega,rfl,rfl,HN⟩
     ·
      have hk:=HP.out.ps.base.stored ho hF hs
      obtain⟨F0,⟨rs,zs,ad,ar,cd,cr2,vs,pg,hsp⟩,-,-,-⟩:=hs
      have e17:w'.cell? ⟨sb,17,none⟩=some (.int .i64 7):=zbp hsp.sp hsp.len
      have hN:=hsp.full rfl
      rw[List.length_map] at hN
      have hlp:=HL.out
      have d9:w'.cell? ⟨K.db,9,none⟩=some (.pointer (some ⟨sb,0,none⟩)):=zaa hk.box 9
      have ld2:K.db<w'.heap.size:=hk.plt
      have ls2:sb<w'.heap.size:=zaG hsp.sp
      have HNN:=Lib.hid (show (K.N:Int)<16*(K.kp+2) from by omega)
      have HOO:=Lib.hid (HP.out.ps.g.old.trans ho (fun g hg=>HP.out.ps.g.df g hg))
      clear hk hsp ho hF HST b9 ld hc hb hN hlp
      go_wp2
      go_ret
      exact Or.inr ⟨rfl,HNN.out,HOO.out⟩
   ·
    obtain rfl:j=K.img.length:=by omega
    have HFIN:=Lib.hid (show DkS K (zas K.img) 0 (-1) wr from by
     have hp:=HP.out
     rw[←HMM.out] at hp
     have hp:DkP K m0 cb gr cr sb (-1) false (.slice K.al K.L.length K.cl) ao co F ap cp pts wr:=hp
     rw[HM0.out] at hp
     exact⟨cb,gr,cr,sb,K.al,K.L.length,K.cl,K.L,_,_,F,ap,cp,pts,⟨hp,Runs.start rfl,Stands.start HK.out.evl rfl,HK.out.evs,by have:=HK.out.c0;exact this⟩⟩)
    have hll:¬(K.img.length:Int)<(K.img.length:Int):=by omega
    clear b9
    go_wp2
    go_ret
    exact Or.inl ⟨rfl,HFIN.out⟩
end
section
variable {K:DkC} {m:Mach} {i:Nat} {cb0 gr0 cr0 sb0:Nat} {wrote:Int} {x:Bool} {vl:Value} {ao0:Option Addr} {co0:Nat} {F:Nat→Prop} {ap:Option Addr} {cp L:Nat} {rows pts:List Pt} {w w':World} {v8 v9 v10 v11:Value} {ss:List Spc}
theorem zhV(hK:DkK K)(h:DkP K m cb0 gr0 cr0 sb0 wrote false vl ao0 co0 F ap cp pts w):Calls Tryd.prog 20 #[.pointer (some ⟨K.db,0,none⟩)] w fun e w'=>BegP K e w':=by
 have HK:=Lib.hid hK
 have HL:=Lib.hid h.len
 have HDR:=Lib.hid (h.dropped hK)
 have b9:w.cell? ⟨K.db,9,none⟩=some (.pointer (some ⟨sb0,0,none⟩)):=zaa h.ps.box 9
 have ld:K.db<w.heap.size:=h.ps.plt
 clear h hK
 go_enter Tryd.func20,Tryd.ntmps20
 go_wp2_with fail
 refine HDR.out.mono ?_
 rintro e w1 ⟨rfl,hB0⟩
 have HB0:=Lib.hid hB0
 clear b9 ld HDR hB0
 go_upto_region 3 with fail
 obtain⟨ai,ci,hvi,hil,_⟩:=id (HK.out.img w1 HB0.out.out)
 have HIM:=Lib.hid (zcX HK.out.nc)
 have HNW:=Lib.hid (zdE (.slice ai K.img.length ci) K.img w1 (by rw[←hvi];exact HK.out.img w1 HB0.out.out))
 rw[HIM.out.2,HK.out.nc] at HNW
 have h256:K.img.length≤256:=by
  by_cases h1:256<K.img.length
  ·
   have h:=HK.out.nc
   unfold newC at h;rw[if_pos h1] at h;cases h
  ·omega
 have HWZ:=Lib.hid (show ∀z∈K.img,WordZ z from fun z hz=>zaE (by
  have h:=HK.out.nc
  unfold newC at h
  rw[if_neg (by omega)] at h
  by_cases h2:K.img.any oddB=true
  ·rw[if_pos h2] at h;cases h
  ·simpa using h2) z hz)
 have HMM:=Lib.hid (show (zas K.img).mem=K.img.take K.img.length++List.replicate (256-K.img.length) 0 from by rw[List.take_length];rfl)
 have HCZ:=Lib.hid (show (zas K.img).count=0 from rfl)
 have HOZ:=Lib.hid (show (zas K.img).out=[] from rfl)
 have b3:w1.cell? ⟨K.db,3,none⟩=some (.slice ai K.img.length ci):=by rw[←hvi];exact zaa HB0.out.box 3
 have ld:K.db<w1.heap.size:=(Array.getElem?_eq_some_iff.1 HB0.out.box).1
 obtain⟨m0,hm0⟩:∃m0,m0=zas K.img:=⟨_,rfl⟩
 rw[←hm0] at HIM HNW HMM HCZ HOZ
 have HM0:=Lib.hid hm0
 have HVI:=Lib.hid hvi
 clear hvi hm0
 go_wp2_with fail
 refine HNW.out.mono ?_
 rintro e w2 ⟨ar,cr,am,cm,ao,co,he,hown,hb2⟩
 rw[Mach.agg,HIM.out.1.regs,HIM.out.1.mem] at he
 subst he
 have hr8:=hown.hr
 rw[HIM.out.1.regs] at hr8
 obtain⟨gr,rfl,hgr⟩:=zbf hr8 (by decide)
 have HRO:=Lib.hid (show (Value.slice ao m0.out.length co).ownBlock≠some gr from by
  rcases hown.or with q|q
  ·rw[q];simp
  ·exact q)
 go_upto_region 4 with fail
 obtain⟨w3,hw3⟩:∃W,W=w2.alloc (.cells #[.slice (some ⟨gr,0,none⟩) 8 cr,.int .i64 m0.pc,.int .i64 m0.back,.bool m0.ints,.bool m0.wait,.int .i64 m0.table,.int .i64 m0.count,.int .i64 m0.fin,.slice am 256 cm,.slice ao m0.out.length co,.int .i64 m0.ready,.int .i64 m0.want] 48 (0,0)):=⟨_,rfl⟩
 have HX3:=Lib.hid (show w3.heap[w2.heap.size]?=some (.cells #[.slice (some ⟨gr,0,none⟩) 8 cr,.int .i64 m0.pc,.int .i64 m0.back,.bool m0.ints,.bool m0.wait,.int .i64 m0.table,.int .i64 m0.count,.int .i64 m0.fin,.slice am 256 cm,.slice ao m0.out.length co,.int .i64 m0.ready,.int .i64 m0.want] 48 (0,0)) from by rw[hw3];exact alloc_at rfl)
 have hb3:Below w1.heap.size w1 w3:=by rw[hw3];exact hb2.alloc hb2.size _
 have HR3:=Lib.hid (own_below hr8 (zai w2 (.cells #[.slice (some ⟨gr,0,none⟩) 8 cr,.int .i64 m0.pc,.int .i64 m0.back,.bool m0.ints,.bool m0.wait,.int .i64 m0.table,.int .i64 m0.count,.int .i64 m0.fin,.slice am 256 cm,.slice ao m0.out.length co,.int .i64 m0.ready,.int .i64 m0.want] 48 (0,0))) (Nat.le_refl _))
 have HO3:=Lib.hid (own_below hown.ho (zai w2 (.cells #[.slice (some ⟨gr,0,none⟩) 8 cr,.int .i64 m0.pc,.int .i64 m0.back,.bool m0.ints,.bool m0.wait,.int .i64 m0.table,.int .i64 m0.count,.int .i64 m0.fin,.slice am 256 cm,.slice ao m0.out.length co,.int .i64 m0.ready,.int .i64 m0.want] 48 (0,0))) (Nat.le_refl _))
 rw[←hw3] at HR3 HO3 ⊢
 obtain⟨gb,hgb⟩:∃g,g=w2.heap.size:=⟨_,rfl⟩
 have hgw:w1.heap.size≤gb:=by rw[hgb];exact hb2.size
 rw[←hgb] at HX3 ⊢
 have HB3:=Lib.hid hb3
 have HGW:=Lib.hid hgw
 clear hw3 hgb hb2 hown hr8 HNW b3 hb3 hgr
 have c8:w3.cell? ⟨gb,8,none⟩=some (.slice am 256 cm):=zaa HX3.out 8
 have fc8:=zab HX3.out 8
 have lg3:gb<w3.heap.size:=(Array.getElem?_eq_some_iff.1 HX3.out).1
 go_upto_region 5 with fail
 obtain⟨w4,hw4⟩:∃W,W=w3.setCell ⟨gb,8,none⟩ (.slice none 0 0):=⟨_,rfl⟩
 have HX4:=Lib.hid (show w4.heap[gb]?=some (.cells #[.slice (some ⟨gr,0,none⟩) 8 cr,.int .i64 m0.pc,.int .i64 m0.back,.bool m0.ints,.bool m0.wait,.int .i64 m0.table,.int .i64 m0.count,.int .i64 m0.fin,.slice none 0 0,.slice ao m0.out.length co,.int .i64 m0.ready,.int .i64 m0.want] 48 (0,0)) from by rw[hw4];exact zaf HX3.out _)
 have HB4:=Lib.hid (show Below w1.heap.size w1 w4 from by rw[hw4];exact HB3.out.setCell HGW.out _)
 have HR4:=Lib.hid (show w4.ownsRow w1.heap.size 3 1 (.slice (some ⟨gr,0,none⟩) 8 cr) 8 (m0.regs.map (Value.int .i64)) from by rw[hw4];exact zao HR3.out (zad HR3.out HX3.out (by decide)) _)
 have HO4:=Lib.hid (show w4.ownsRow w1.heap.size 3 1 (.slice ao m0.out.length co) m0.out.length (m0.out.map (Value.int .i64)) from by rw[hw4];exact zao HO3.out (zad HO3.out HX3.out (by decide)) _)
 rw[←hw4]
 have HS4:=Lib.hid (HB0.out.lift.below HK.out HB4.out)
 have HLO:=Lib.hid (show K.w1.heap.size≤w1.heap.size from HB0.out.out.size)
 clear hw4 HX3 HR3 HO3 HB3 c8 fc8 lg3 ld
 first|(obtain⟨c0,c1,c2,c3,c4,c5,c6,c7,c8,c9,c10,c11⟩:=zaz HX4.out)|(obtain⟨c0,c1,c2,c3,c4,c5,c6,c7,c8,c9,c10,c11⟩:=zaA HX4.out)
 have lg4:gb<w4.heap.size:=(Array.getElem?_eq_some_iff.1 HX4.out).1
 have ld:K.db<w4.heap.size:=(Array.getElem?_eq_some_iff.1 HS4.out.box).1
 have d6:w4.cell? ⟨K.db,6,none⟩=some (.slice K.al K.L.length K.cl):=zaa HS4.out.box 6
 have d7:w4.cell? ⟨K.db,7,none⟩=some (.pointer (some ⟨K.hb,0,none⟩)):=zaa HS4.out.box 7
 have HDB:=Lib.hid (And.intro ld lg4)
 have HSP:=Lib.hid (fun (W':World) (hb:Below w4.heap.size w4 W')=>(HS4.out.below HK.out hb).new HK.out)
 have e8:∃u8,w4.cell? ⟨K.db,8,none⟩=some u8:=⟨_,zaa HS4.out.box 8⟩
 have e9:∃u9,w4.cell? ⟨K.db,9,none⟩=some u9:=⟨_,zaa HS4.out.box 9⟩
 have e10:∃u10,w4.cell? ⟨K.db,10,none⟩=some u10:=⟨_,zaa HS4.out.box 10⟩
 obtain⟨u8,d8⟩:=e8
 obtain⟨u9,d9⟩:=e9
 obtain⟨u10,d10⟩:=e10
 have f8:=zab HS4.out.box 8
 have f9:=zab HS4.out.box 9
 have f10:=zab HS4.out.box 10
 go_cut [] from 27 to 49 (fun wx =>∃(cb sb:Nat) (F:Nat→Prop),Hid (DkP K {m0 with mem:=List.replicate 256 0} cb gr cr sb (-1) false (.slice K.al K.L.length K.cl) ao co F ap cp pts wx))
 case first=>
  have HPS:=Lib.hid (fun (W':World) (hb:Below w4.heap.size w4 W')=>(HSP.out W' hb).mono (fun e w' h=>(by
   obtain⟨nb,he,hn,hb',hB⟩:=h
   exact⟨nb,he,Nat.le_trans hb.size hn,hb.trans (hb'.mono hb.size),(fun g o hg=>zac hb' hg (Array.getElem?_eq_some_iff.1 hg).1),hB⟩:∃nb,e=.returned (.pointer (some ⟨nb,0,none⟩))∧w4.heap.size≤nb∧Below w4.heap.size w4 w'∧(∀g o,W'.heap[g]?=some o→w'.heap[g]?=some o)∧BegS K _ _ _ [⟨nb,List.replicate 16 (-1),List.replicate 256 0⟩] ap cp pts _ w')))
  clear HSP
  have hgd:gb≠K.db:=fun e=>by
   have h1:Ty w4 gb 48:=⟨_,_,HX4.out⟩
   have h2:Ty w4 K.db 44:=⟨_,_,HS4.out.box⟩
   rw[e] at h1
   exact absurd (zaL h1 h2) (by decide)
  have HGD:=Lib.hid hgd
  clear hgd
  have HS0:w4.drew.cell? ⟨gb,0,none⟩=some (.slice (some ⟨gr,0,none⟩) 8 cr)∧w4.drew.cell? ⟨gb,1,none⟩=some (.int .i64 m0.pc)∧w4.drew.cell? ⟨gb,2,none⟩=some (.int .i64 m0.back)∧w4.drew.cell? ⟨gb,3,none⟩=some (.bool m0.ints)∧w4.drew.cell? ⟨gb,4,none⟩=some (.bool m0.wait)∧w4.drew.cell? ⟨gb,5,none⟩=some (.int .i64 m0.table)∧w4.drew.cell? ⟨gb,6,none⟩=some (.int .i64 m0.count)∧w4.drew.cell? ⟨gb,7,none⟩=some (.int .i64 m0.fin)∧w4.drew.cell? ⟨gb,8,none⟩=some (.slice none 0 0)∧w4.drew.cell? ⟨gb,9,none⟩=some (.slice ao m0.out.length co)∧w4.drew.cell? ⟨gb,10,none⟩=some (.int .i64 m0.ready)∧w4.drew.cell? ⟨gb,11,none⟩=some (.int .i64 m0.want)∧w4.drew.cell? ⟨K.db,6,none⟩=some (.slice K.al K.L.length K.cl)∧w4.drew.cell? ⟨K.db,7,none⟩=some (.pointer (some ⟨K.hb,0,none⟩)):=⟨c0,c1,c2,c3,c4,c5,c6,c7,c8,c9,c10,c11,d6,d7⟩
  have HSset:=Lib.hid (show ∀(W:World) (j:Nat) (u:Value),8≤j→(W.cell? ⟨gb,0,none⟩=some (.slice (some ⟨gr,0,none⟩) 8 cr)∧W.cell? ⟨gb,1,none⟩=some (.int .i64 m0.pc)∧W.cell? ⟨gb,2,none⟩=some (.int .i64 m0.back)∧W.cell? ⟨gb,3,none⟩=some (.bool m0.ints)∧W.cell? ⟨gb,4,none⟩=some (.bool m0.wait)∧W.cell? ⟨gb,5,none⟩=some (.int .i64 m0.table)∧W.cell? ⟨gb,6,none⟩=some (.int .i64 m0.count)∧W.cell? ⟨gb,7,none⟩=some (.int .i64 m0.fin)∧W.cell? ⟨gb,8,none⟩=some (.slice none 0 0)∧W.cell? ⟨gb,9,none⟩=some (.slice ao m0.out.length co)∧W.cell? ⟨gb,10,none⟩=some (.int .i64 m0.ready)∧W.cell? ⟨gb,11,none⟩=some (.int .i64 m0.want)∧W.cell? ⟨K.db,6,none⟩=some (.slice K.al K.L.length K.cl)∧W.cell? ⟨K.db,7,none⟩=some (.pointer (some ⟨K.hb,0,none⟩)))→((W.setCell ⟨K.db,j,none⟩ u).cell? ⟨gb,0,none⟩=some (.slice (some ⟨gr,0,none⟩) 8 cr)∧(W.setCell ⟨K.db,j,none⟩ u).cell? ⟨gb,1,none⟩=some (.int .i64 m0.pc)∧(W.setCell ⟨K.db,j,none⟩ u).cell? ⟨gb,2,none⟩=some (.int .i64 m0.back)∧(W.setCell ⟨K.db,j,none⟩ u).cell? ⟨gb,3,none⟩=some (.bool m0.ints)∧(W.setCell ⟨K.db,j,none⟩ u).cell? ⟨gb,4,none⟩=some (.bool m0.wait)∧(W.setCell ⟨K.db,j,none⟩ u).cell? ⟨gb,5,none⟩=some (.int .i64 m0.table)∧(W.setCell ⟨K.db,j,none⟩ u).cell? ⟨gb,6,none⟩=some (.int .i64 m0.count)∧(W.setCell ⟨K.db,j,none⟩ u).cell? ⟨gb,7,none⟩=some (.int .i64 m0.fin)∧(W.setCell ⟨K.db,j,none⟩ u).cell? ⟨gb,8,none⟩=some (.slice none 0 0)∧(W.setCell ⟨K.db,j,none⟩ u).cell? ⟨gb,9,none⟩=some (.slice ao m0.out.length co)∧(W.setCell ⟨K.db,j,none⟩ u).cell? ⟨gb,10,none⟩=some (.int .i64 m0.ready)∧(W.setCell ⟨K.db,j,none⟩ u).cell? ⟨gb,11,none⟩=some (.int .i64 m0.want)∧(W.setCell ⟨K.db,j,none⟩ u).cell? ⟨K.db,6,none⟩=some (.slice K.al K.L.length K.cl)∧(W.setCell ⟨K.db,j,none⟩ u).cell? ⟨K.db,7,none⟩=some (.pointer (some ⟨K.hb,0,none⟩))) from fun W j u hj h=>⟨(cell_far (Or.inl HGD.out) _).trans h.1,(cell_far (Or.inl HGD.out) _).trans h.2.1,(cell_far (Or.inl HGD.out) _).trans h.2.2.1,(cell_far (Or.inl HGD.out) _).trans h.2.2.2.1,(cell_far (Or.inl HGD.out) _).trans h.2.2.2.2.1,(cell_far (Or.inl HGD.out) _).trans h.2.2.2.2.2.1,(cell_far (Or.inl HGD.out) _).trans h.2.2.2.2.2.2.1,(cell_far (Or.inl HGD.out) _).trans h.2.2.2.2.2.2.2.1,(cell_far (Or.inl HGD.out) _).trans h.2.2.2.2.2.2.2.2.1,(cell_far (Or.inl HGD.out) _).trans h.2.2.2.2.2.2.2.2.2.1,(cell_far (Or.inl HGD.out) _).trans h.2.2.2.2.2.2.2.2.2.2.1,(cell_far (Or.inl HGD.out) _).trans h.2.2.2.2.2.2.2.2.2.2.2.1,(cell_far (Or.inr (by show 6≠j;omega)) _).trans h.2.2.2.2.2.2.2.2.2.2.2.2.1,(cell_far (Or.inr (by show 7≠j;omega)) _).trans h.2.2.2.2.2.2.2.2.2.2.2.2.2⟩)
  have HSall:=Lib.hid (show ∀(W:World) (O:Obj),(W.cell? ⟨gb,0,none⟩=some (.slice (some ⟨gr,0,none⟩) 8 cr)∧W.cell? ⟨gb,1,none⟩=some (.int .i64 m0.pc)∧W.cell? ⟨gb,2,none⟩=some (.int .i64 m0.back)∧W.cell? ⟨gb,3,none⟩=some (.bool m0.ints)∧W.cell? ⟨gb,4,none⟩=some (.bool m0.wait)∧W.cell? ⟨gb,5,none⟩=some (.int .i64 m0.table)∧W.cell? ⟨gb,6,none⟩=some (.int .i64 m0.count)∧W.cell? ⟨gb,7,none⟩=some (.int .i64 m0.fin)∧W.cell? ⟨gb,8,none⟩=some (.slice none 0 0)∧W.cell? ⟨gb,9,none⟩=some (.slice ao m0.out.length co)∧W.cell? ⟨gb,10,none⟩=some (.int .i64 m0.ready)∧W.cell? ⟨gb,11,none⟩=some (.int .i64 m0.want)∧W.cell? ⟨K.db,6,none⟩=some (.slice K.al K.L.length K.cl)∧W.cell? ⟨K.db,7,none⟩=some (.pointer (some ⟨K.hb,0,none⟩)))→((W.alloc O).cell? ⟨gb,0,none⟩=some (.slice (some ⟨gr,0,none⟩) 8 cr)∧(W.alloc O).cell? ⟨gb,1,none⟩=some (.int .i64 m0.pc)∧(W.alloc O).cell? ⟨gb,2,none⟩=some (.int .i64 m0.back)∧(W.alloc O).cell? ⟨gb,3,none⟩=some (.bool m0.ints)∧(W.alloc O).cell? ⟨gb,4,none⟩=some (.bool m0.wait)∧(W.alloc O).cell? ⟨gb,5,none⟩=some (.int .i64 m0.table)∧(W.alloc O).cell? ⟨gb,6,none⟩=some (.int .i64 m0.count)∧(W.alloc O).cell? ⟨gb,7,none⟩=some (.int .i64 m0.fin)∧(W.alloc O).cell? ⟨gb,8,none⟩=some (.slice none 0 0)∧(W.alloc O).cell? ⟨gb,9,none⟩=some (.slice ao m0.out.length co)∧(W.alloc O).cell? ⟨gb,10,none⟩=some (.int .i64 m0.ready)∧(W.alloc O).cell? ⟨gb,11,none⟩=some (.int .i64 m0.want)∧(W.alloc O).cell? ⟨K.db,6,none⟩=some (.slice K.al K.L.length K.cl)∧(W.alloc O).cell? ⟨K.db,7,none⟩=some (.pointer (some ⟨K.hb,0,none⟩))) from fun W O h=>⟨(World.cell?_alloc_some _ _ _ (by rw[h.1];rfl)).trans h.1,(World.cell?_alloc_some _ _ _ (by rw[h.2.1];rfl)).trans h.2.1,(World.cell?_alloc_some _ _ _ (by rw[h.2.2.1];rfl)).trans h.2.2.1,(World.cell?_alloc_some _ _ _ (by rw[h.2.2.2.1];rfl)).trans h.2.2.2.1,(World.cell?_alloc_some _ _ _ (by rw[h.2.2.2.2.1];rfl)).trans h.2.2.2.2.1,(World.cell?_alloc_some _ _ _ (by rw[h.2.2.2.2.2.1];rfl)).trans h.2.2.2.2.2.1,(World.cell?_alloc_some _ _ _ (by rw[h.2.2.2.2.2.2.1];rfl)).trans h.2.2.2.2.2.2.1,(World.cell?_alloc_some _ _ _ (by rw[h.2.2.2.2.2.2.2.1];rfl)).trans h.2.2.2.2.2.2.2.1,(World.cell?_alloc_some _ _ _ (by rw[h.2.2.2.2.2.2.2.2.1];rfl)).trans h.2.2.2.2.2.2.2.2.1,(World.cell?_alloc_some _ _ _ (by rw[h.2.2.2.2.2.2.2.2.2.1];rfl)).trans h.2.2.2.2.2.2.2.2.2.1,(World.cell?_alloc_some _ _ _ (by rw[h.2.2.2.2.2.2.2.2.2.2.1];rfl)).trans h.2.2.2.2.2.2.2.2.2.2.1,(World.cell?_alloc_some _ _ _ (by rw[h.2.2.2.2.2.2.2.2.2.2.2.1];rfl)).trans h.2.2.2.2.2.2.2.2.2.2.2.1,(World.cell?_alloc_some _ _ _ (by rw[h.2.2.2.2.2.2.2.2.2.2.2.2.1];rfl)).trans h.2.2.2.2.2.2.2.2.2.2.2.2.1,(World.cell?_alloc_some _ _ _ (by rw[h.2.2.2.2.2.2.2.2.2.2.2.2.2];rfl)).trans h.2.2.2.2.2.2.2.2.2.2.2.2.2⟩)
  clear c0 c1 c2 c3 c4 c5 c6 c7 c8 c9 c10 c11 d6 d7
  go_region_held3 (fun w'=>w'.cell? ⟨gb,0,none⟩=some (.slice (some ⟨gr,0,none⟩) 8 cr)∧w'.cell? ⟨gb,1,none⟩=some (.int .i64 m0.pc)∧w'.cell? ⟨gb,2,none⟩=some (.int .i64 m0.back)∧w'.cell? ⟨gb,3,none⟩=some (.bool m0.ints)∧w'.cell? ⟨gb,4,none⟩=some (.bool m0.wait)∧w'.cell? ⟨gb,5,none⟩=some (.int .i64 m0.table)∧w'.cell? ⟨gb,6,none⟩=some (.int .i64 m0.count)∧w'.cell? ⟨gb,7,none⟩=some (.int .i64 m0.fin)∧w'.cell? ⟨gb,8,none⟩=some (.slice none 0 0)∧w'.cell? ⟨gb,9,none⟩=some (.slice ao m0.out.length co)∧w'.cell? ⟨gb,10,none⟩=some (.int .i64 m0.ready)∧w'.cell? ⟨gb,11,none⟩=some (.int .i64 m0.want)∧w'.cell? ⟨K.db,6,none⟩=some (.slice K.al K.L.length K.cl)∧w'.cell? ⟨K.db,7,none⟩=some (.pointer (some ⟨K.hb,0,none⟩))) (first|assumption|exact HSset.out _ _ _ (by omega) (by assumption)|exact HSall.out _ _ (by assumption)|exact HSall.out _ _ (HSset.out _ _ _ (by omega) (by assumption))|exact HSall.out _ _ (HSset.out _ _ _ (by omega) (HSset.out _ _ _ (by omega) (by assumption)))|exact HSall.out _ _ (HSset.out _ _ _ (by omega) (HSset.out _ _ _ (by omega) (HSset.out _ _ _ (by omega) (by assumption))))) (first
   | (go_at_call 33;refine(HPS.out _ ?_).mono ?_;(first|exact below_drewN (Below.refl w4.heap.size w4) 1|exact(below_drewN (Below.refl w4.heap.size w4) 1).alloc (Nat.le_refl _) _);rintro e w5 ⟨nb,rfl,hnb,hb5,hps5,hB5⟩;have HX5:=Lib.hid (zac hb5 HX4.out HDB.out.2);have HS5:w5.cell? ⟨gb,0,none⟩=some (.slice (some ⟨gr,0,none⟩) 8 cr)∧w5.cell? ⟨gb,1,none⟩=some (.int .i64 m0.pc)∧w5.cell? ⟨gb,2,none⟩=some (.int .i64 m0.back)∧w5.cell? ⟨gb,3,none⟩=some (.bool m0.ints)∧w5.cell? ⟨gb,4,none⟩=some (.bool m0.wait)∧w5.cell? ⟨gb,5,none⟩=some (.int .i64 m0.table)∧w5.cell? ⟨gb,6,none⟩=some (.int .i64 m0.count)∧w5.cell? ⟨gb,7,none⟩=some (.int .i64 m0.fin)∧w5.cell? ⟨gb,8,none⟩=some (.slice none 0 0)∧w5.cell? ⟨gb,9,none⟩=some (.slice ao m0.out.length co)∧w5.cell? ⟨gb,10,none⟩=some (.int .i64 m0.ready)∧w5.cell? ⟨gb,11,none⟩=some (.int .i64 m0.want)∧w5.cell? ⟨K.db,6,none⟩=some (.slice K.al K.L.length K.cl)∧w5.cell? ⟨K.db,7,none⟩=some (.pointer (some ⟨K.hb,0,none⟩)):=⟨zaa HX5.out 0,zaa HX5.out 1,zaa HX5.out 2,zaa HX5.out 3,zaa HX5.out 4,zaa HX5.out 5,zaa HX5.out 6,zaa HX5.out 7,zaa HX5.out 8,zaa HX5.out 9,zaa HX5.out 10,zaa HX5.out 11,zaa hB5.box 6,zaa hB5.box 7⟩;have l5:K.db<w5.heap.size:=(Array.getElem?_eq_some_iff.1 hB5.box).1;have HNB:=Lib.hid hnb;have HB5:=Lib.hid hb5;have HPS5:=Lib.hid hps5;have HBS5:=Lib.hid hB5;have h58:=zaa hB5.box 8;have h59:=zaa hB5.box 9;have h510:=zaa hB5.box 10;have f58:=zab hB5.box 8;have f59:=zab hB5.box 9;have f510:=zab hB5.box 10;clear hnb hb5 hps5 hB5))
  all_goals (go_wp2_with fail;go_meet)
  ·
   have hr:=own_below HR4.out HB5.out (Nat.le_refl _)
   have ho:=own_below HO4.out HB5.out (Nat.le_refl _)
   obtain⟨F',h⟩:=zer (m:={m0 with mem:=List.replicate 256 0}) (wrote:=-1) (vl:=.slice K.al K.L.length K.cl) HK.out HBS5.out HLO.out (HPS5.out _ _ (alloc_at rfl)) hr ho HRO.out (by have:=HB4.out.size;exact this) HL.out
   exact⟨_,_,F',Lib.hid h⟩
  ·
   have hr:=own_below HR4.out HB5.out (Nat.le_refl _)
   have ho:=own_below HO4.out HB5.out (Nat.le_refl _)
   obtain⟨F',h⟩:=zco (m:={m0 with mem:=List.replicate 256 0}) (wrote:=-1) (vl:=.slice K.al K.L.length K.cl) HK.out HBS5.out HLO.out hr ho HRO.out (by have:=HB4.out.size;have:=HB5.out.size;omega) HL.out
   exact⟨_,_,F',Lib.hid h⟩
 case rest=>
  obtain⟨cb,sb,F,HP⟩:=hcut
  clear HX4 HB4 HR4 HO4 HS4 HLO HDB HSP d6 d7 d8 d9 d10 f8 f9 f10 lg4 ld c0 c1 c2 c3 c4 c5 c6 c7 c8 c9 c10 c11
  have b3:wc.cell? ⟨K.db,3,none⟩=some (.slice ai K.img.length ci):=by rw[←HVI.out];exact zaa HP.out.ps.box 3
  have ld:K.db<wc.heap.size:=HP.out.ps.plt
  go_wp2_with fail
  go_loopg [5,6,55] K.img.length (fun gh s5 s6 s55 wr =>∃(j:Nat) (F:Nat→Prop),j≤K.img.length∧gh=K.img.length-j∧s55=.int .i64 j∧Hid (DkP K {m0 with mem:=K.img.take j++List.replicate (256-j) 0} cb gr cr sb (-1) false (.slice K.al K.L.length K.cl) ao co F ap cp pts wr))
  case atStart=>exact⟨0,F,Nat.zero_le _,by omega,rfl,HP⟩
  case round=>
   clear HP b3 ld
   obtain⟨j,F,hj,rfl,rfl,HP⟩:=hrel
   have b9:wr.cell? ⟨K.db,9,none⟩=some (.pointer (some ⟨sb,0,none⟩)):=zaa HP.out.ps.box 9
   have ld:K.db<wr.heap.size:=HP.out.ps.plt
   by_cases hlt:j<K.img.length
   ·
    have him:=HK.out.img wr HP.out.ps.g.old
    rw[HVI.out] at him
    obtain⟨_,_,hv,_,_,hcl⟩:=him
    injection hv with q1 q2 q3
    subst q1 q3
    obtain⟨b,off,vi,rfl,hb,hc,hvi⟩:=hcl j hlt
    obtain⟨rfl,hz64⟩:=hvi
    have hll:(j:Int)<(K.img.length:Int):=by omega
    have hwr:IntKind.i64.wrap ((j:Int)+1)=((j+1:Nat):Int):=by rw[IntWalk.i64_in _ (by omega)];rfl
    have HZ:=Lib.hid (HWZ.out K.img[j] (List.getElem_mem hlt))
    have HSET:=Lib.hid (zhT j hlt h256)
    have HSET0:=Lib.hid (zfQ j hlt h256)
    clear hcl hz64
    generalize K.img[j]=z at *
    by_cases h0:z=0
    ·
     have hzb:(z != 0)=false:=by rw[bne_eq_false_iff_eq];exact h0
     have HN:=Lib.hid (show DkP K {m0 with mem:=K.img.take (j+1)++List.replicate (256-(j+1)) 0} cb gr cr sb (-1) false (.slice K.al K.L.length K.cl) ao co F ap cp pts wr from by rw[HSET0.out h0];exact HP.out)
     clear h0
     go_wp2_with fail
     go_roundg (K.img.length-(j+1))
     case measure=>omega
     case rel=>exact⟨j+1,F,by omega,rfl,rfl,HN⟩
    ·
     have hzb:(z != 0)=true:=by rw[bne_iff_ne];exact h0
     have HST:=Lib.hid ((zcb K.pp sb K.hb K.N (pts.map (·.pg)) (pts.map (·.m.mem))).store wr F _ false j z HP.out.ps.g.mem (by omega) (by omega) HZ.out)
     clear h0
     go_wp2_with fail
     refine HST.out.mono ?_
     rintro e w' ⟨ho,F',hF,(⟨rfl,hs⟩|⟨rfl,hs⟩)⟩
     ·
      have hk:=HP.out.ran HK.out (HP.out.ps.base.stored ho hF hs)
      rw[Int.toNat_natCast,HSET.out] at hk
      have HN:=Lib.hid hk
      clear hk ho hF hs HST b9 ld hc hb
      go_wp2_with fail
      go_roundg (K.img.length-(j+1))
      case measure=>omega
      case rel=>exact⟨j+1,F',by omega,rfl,rfl,HN⟩
     ·
      have hk:=HP.out.ps.base.stored ho hF hs
      obtain⟨F0,⟨rs,zs,ad,ar,cd,cr2,vs,pg,hsp⟩,-,-,-⟩:=hs
      have e17:w'.cell? ⟨sb,17,none⟩=some (.int .i64 7):=zbp hsp.sp hsp.len
      have hN:=hsp.full rfl
      rw[List.length_map] at hN
      have hlp:=HL.out
      have d9:w'.cell? ⟨K.db,9,none⟩=some (.pointer (some ⟨sb,0,none⟩)):=zaa hk.box 9
      have ld2:K.db<w'.heap.size:=hk.plt
      have ls2:sb<w'.heap.size:=zaG hsp.sp
      have HNN:=Lib.hid (show (K.N:Int)<16*(K.kp+2) from by omega)
      have HOO:=Lib.hid (HP.out.ps.g.old.trans ho (fun g hg=>HP.out.ps.g.df g hg))
      clear hk hsp ho hF HST b9 ld hc hb hN hlp
      go_wp2
      go_ret
      exact Or.inr ⟨rfl,HNN.out,HOO.out⟩
   ·
    obtain rfl:j=K.img.length:=by omega
    have HFIN:=Lib.hid (show DkS K (zas K.img) 0 (-1) wr from by
     have hp:=HP.out
     rw[←HMM.out] at hp
     have hp:DkP K m0 cb gr cr sb (-1) false (.slice K.al K.L.length K.cl) ao co F ap cp pts wr:=hp
     rw[HM0.out] at hp
     exact⟨cb,gr,cr,sb,K.al,K.L.length,K.cl,K.L,_,_,F,ap,cp,pts,⟨hp,Runs.start rfl,Stands.start HK.out.evl rfl,HK.out.evs,by have:=HK.out.c0;exact this⟩⟩)
    have hll:¬(K.img.length:Int)<(K.img.length:Int):=by omega
    clear b9
    go_wp2
    go_ret
    exact Or.inl ⟨rfl,HFIN.out⟩
end
end Go.Proofs.YtflonfcemlfbdaaDoor
