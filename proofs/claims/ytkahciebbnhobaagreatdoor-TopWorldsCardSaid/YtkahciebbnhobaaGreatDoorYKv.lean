/- Several texts joined, each with its own heading in the notes: hourglasstop's recorded, same and setup. hourglasstop's recorded, of the image and the world of the raw things. stub. The keep's StubTells returns true. No condition beyond those of each row. -/
import Derived.Test.YtkahciebbnhobaaGreatDoorYKr
import Derived.Test.YtkahciebbnhobaaGreatDoorYEu
import Derived.Test.YtkahciebbnhobaaGreatDoorYPk
import Derived.Handy
import Derived.StillTailTactics
import Derived.Deep.RegionWith
import Derived.Deep.RegionLaw
import Derived.Deep.CutBlock
import Derived.Deep.CutRange
import Derived.Deep.RegionHeld3
import Derived.Deep.LoopGhost
import Derived.Test.YtkahciebbnhobaaGreatDoorYPs
import Derived.Test.YtkahciebbnhobaaGreatDoorYWa
import Derived.Test.YtkahciebbnhobaaGreatDoorYQh
import Derived.Test.YtkahciebbnhobaaGreatDoorYWm
import Derived.Test.YtkahciebbnhobaaGreatDoorRows
import Derived.Test.YtkahciebbnhobaaGreatDoorYMem
import Derived.Test.YtkahciebbnhobaaGreatDoorYFacts
import Derived.WalkKit
import Derived.ProofKit
import Derived.OpenShut
import Derived.ShutString
import Derived.ChangeOld
import Derived.Below
import Derived.Test.YtkahciebbnhobaaGreatDoorYShl
import Derived.Laws.IdiomStrings
import Derived.Laws.BytesArg
import Derived.Test.YtkahciebbnhobaaGreatDoorYVp
namespace Go.Proofs.YtkahciebbnhobaaGreatDoor
open Go Go.RowKit Go.ChangeShapes Go.WideShapes Go.Deep
set_option maxHeartbeats 8000000
set_option maxRecDepth 100000
set_option linter.unusedVariables false
attribute [local go_sem ↓] Go.wp_at_zero Go.wp_at_succ
theorem ppicked_any (n many:Int) (w:World) (h1:-9223372036854775808≤n) (h2:n≤9223372036854775807) (h3:0 < many) (h4:many≤1000000):Calls Tryz.prog 8 #[.int .i64 n,.int .i64 many] w fun e w'=>e=.returned (.int .i64 (pickZ n many))∧w=w':=by
 have HP:=Lib.hid (picked_any n many w h1 h2 h3 h4)
 clear h1 h2 h3 h4
 go_enter Tryz.func8,Tryz.ntmps8
 go_wp2_with fail
 refine HP.out.mono ?_
 rintro e w' ⟨rfl,rfl⟩
 go_wp2
 go_ret
 exact⟨rfl,rfl⟩
theorem tsame_yes (m : Mach) (vr vm vo ur um uo : Value) (w : World) (h1 : Ints w.heap.size w vr m.regs) (h2 : Ints w.heap.size w vm m.mem) (h3 : Ints w.heap.size w vo m.out) (k1 : Ints w.heap.size w ur m.regs) (k2 : Ints w.heap.size w um m.mem) (k3 : Ints w.heap.size w uo m.out) :
  Calls Tryz.prog 13 #[m.agg vr vm vo,m.agg ur um uo] w fun e w'=>e=.returned (.bool true)∧Below w.heap.size w w':=by
 have H1:=Lib.hid h1
 have H2:=Lib.hid h2
 have H3:=Lib.hid h3
 have K1:=Lib.hid k1
 have K2:=Lib.hid k2
 have K3:=Lib.hid k3
 obtain⟨a1,c1,rfl,_⟩:=id h1
 obtain⟨a2,c2,rfl,_⟩:=id h2
 obtain⟨a3,c3,rfl,_⟩:=id h3
 obtain⟨d1,e1,rfl,_⟩:=id k1
 obtain⟨d2,e2,rfl,_⟩:=id k2
 obtain⟨d3,e3,rfl,_⟩:=id k3
 clear h1 h2 h3 k1 k2 k3
 unfold Mach.agg
 generalize m.regs=zr at *
 generalize m.mem=zm at *
 generalize m.out=zo at *
 generalize m.pc=q1 at *
 generalize m.back=q2 at *
 generalize m.ints=q3 at *
 generalize m.wait=q4 at *
 generalize m.table=q5 at *
 generalize m.count=q6 at *
 generalize m.fin=q7 at *
 generalize m.ready=q8 at *
 generalize m.want=q9 at *
 go_enter Tryz.func13,Tryz.ntmps13
 go_upto_region 1 with fail
 have HBA:=Lib.hid (below_alloc2 w (.cells #[.slice a1 zr.length c1,.int .i64 q1,.int .i64 q2,.bool q3,.bool q4,.int .i64 q5,.int .i64 q6,.int .i64 q7,.slice a2 zm.length c2,.slice a3 zo.length c3,.int .i64 q8,.int .i64 q9] 34 (0,0)) (.cells #[.slice d1 zr.length e1,.int .i64 q1,.int .i64 q2,.bool q3,.bool q4,.int .i64 q5,.int .i64 q6,.int .i64 q7,.slice d2 zm.length e2,.slice d3 zo.length e3,.int .i64 q8,.int .i64 q9] 34 (0,0)))
 have HE:Hid (∀ (v v':Value) (zs:List Int) (w1:World),Below w.heap.size w w1→Ints w.heap.size w v zs→Ints w.heap.size w v' zs→Calls Tryz.prog 15 #[v,v'] w1 fun e w'=>e=.returned (.bool true)∧∃ n,w'=w1.drewN n):=Lib.hid (fun v v' zs w1 hb i1 i2=>kequalB v v' zs w1 hb.size (i1.to (Nat.le_refl _) (same_below hb)) (i2.to (Nat.le_refl _) (same_below hb)))
 go_wp2_with fail
 refine (HE.out _ _ zr _ HBA.out H1.out K1.out).mono ?_
 rintro e w1 ⟨rfl,n1,rfl⟩
 have HB1:=Lib.hid (below_drewN HBA.out n1)
 go_wp2_with fail
 refine (HE.out _ _ zm _ ?_ H2.out K2.out).mono ?_
 · first | exact HB1.out | exact below_drewN HBA.out _
 rintro e w1 ⟨rfl,n2,rfl⟩
 have HB2:=Lib.hid (below_drewN HB1.out n2)
 go_wp2_with fail
 refine (HE.out _ _ zo _ ?_ H3.out K3.out).mono ?_
 · first | exact HB2.out | exact below_drewN HBA.out _
 rintro e w1 ⟨rfl,n3,rfl⟩
 have HB3:=Lib.hid (below_drewN HB2.out n3)
 go_wp2
 go_ret
 exact⟨ret_bool (by simp),(by first | exact HB3.out | exact below_drewN HBA.out _)⟩
theorem trecz_walk (v1 v2:Value) (xs ys:List Rw) (n:Int) (w:World) (ht:Tab w) (h1:RawsR w.heap.size w v1 xs) (h2:RawsR w.heap.size w v2 ys) (hn:I64 n):Calls Tryz.prog 14 #[v1,v2,.int .i64 n] w (KRecPostZ xs ys (pickZ n 400) w):=by
 have HT:=Lib.hid ht
 have H1:=Lib.hid h1
 have H2:=Lib.hid h2
 obtain⟨hn1,hn2⟩:=hn
 clear ht h1 h2
 go_enter Tryz.func14,Tryz.ntmps14
 go_upto_region 1 with fail
 have HBA:=Lib.hid (below_alloc2 w (.cells #[.slice none 0 0,.slice none 0 0,.int .i64 0] 32 (0,0)) (.cells #[.slice none 0 0,.int .i64 0,.int .i64 0,.bool false,.bool false,.int .i64 0,.int .i64 0,.int .i64 0,.slice none 0 0,.slice none 0 0,.int .i64 0,.int .i64 0] 34 (0,0)))
 have HX6:=Lib.hid (show ((w.alloc (.cells #[.slice none 0 0,.slice none 0 0,.int .i64 0] 32 (0,0))).alloc (.cells #[.slice none 0 0,.int .i64 0,.int .i64 0,.bool false,.bool false,.int .i64 0,.int .i64 0,.int .i64 0,.slice none 0 0,.slice none 0 0,.int .i64 0,.int .i64 0] 34 (0,0))).heap[w.heap.size]? = some (.cells #[.slice none 0 0,.slice none 0 0,.int .i64 0] 32 (0,0)) from (alloc_lt (by simp)).trans (alloc_at rfl))
 have HX7:=Lib.hid (show ((w.alloc (.cells #[.slice none 0 0,.slice none 0 0,.int .i64 0] 32 (0,0))).alloc (.cells #[.slice none 0 0,.int .i64 0,.int .i64 0,.bool false,.bool false,.int .i64 0,.int .i64 0,.int .i64 0,.slice none 0 0,.slice none 0 0,.int .i64 0,.int .i64 0] 34 (0,0))).heap[w.heap.size+1]? = some (.cells #[.slice none 0 0,.int .i64 0,.int .i64 0,.bool false,.bool false,.int .i64 0,.int .i64 0,.int .i64 0,.slice none 0 0,.slice none 0 0,.int .i64 0,.int .i64 0] 34 (0,0)) from alloc_at (by simp))
 generalize (w.alloc (.cells #[.slice none 0 0,.slice none 0 0,.int .i64 0] 32 (0,0))).alloc (.cells #[.slice none 0 0,.int .i64 0,.int .i64 0,.bool false,.bool false,.int .i64 0,.int .i64 0,.int .i64 0,.slice none 0 0,.slice none 0 0,.int .i64 0,.int .i64 0] 34 (0,0))=W1 at *
 go_wp2_with fail
 refine (kimagez_any v1 xs _ (H1.out.to HBA.out.size (same_below HBA.out))).mono ?_
 rintro e w2 ⟨ai0,ci0,ni,img,rfl,hni,hle,hwz,hio,hb2,HFZ⟩
 subst hle
 have hnc:newC img=0:=newC_words (by omega) hwz
 have HB2:=Lib.hid (HBA.out.trans (hb2.mono HBA.out.size))
 have HIO:=Lib.hid hio
 have HNC:=Lib.hid hnc
 have HWZ:=Lib.hid hwz
 have HX6b:=Lib.hid (block_below hb2 HX6.out (Array.getElem?_eq_some_iff.1 HX6.out).1)
 have HX7b:=Lib.hid (block_below hb2 HX7.out (Array.getElem?_eq_some_iff.1 HX7.out).1)
 have hle1:w.heap.size≤W1.heap.size:=HBA.out.size
 clear hb2 hio hnc hwz
 go_wp2_with fail
 refine (kworldz_any v2 ys _ (H2.out.to HB2.out.size (same_below HB2.out))).mono ?_
 rintro e w3 ⟨is,vs,bs,ds,a0,a1,a2,a3,c0,c1,c2,c3,rfl,i0,i1,i2,i3,hW,hb3,HWX⟩
 have HB3:=Lib.hid (HB2.out.trans (hb3.mono HB2.out.size))
 have HIO3:=Lib.hid (own_below HIO.out hb3 (Nat.le_refl _))
 have HX6c:=Lib.hid (block_below hb3 HX6b.out (Array.getElem?_eq_some_iff.1 HX6b.out).1)
 have HX7c:=Lib.hid (block_below hb3 HX7b.out (Array.getElem?_eq_some_iff.1 HX7b.out).1)
 have I0:=Lib.hid i0
 have I1:=Lib.hid i1
 have I2:=Lib.hid i2
 have I3:=Lib.hid i3
 have HW:=Lib.hid hW
 clear hb3 i0 i1 i2 i3 hW HX6 HX7 HX6b HX7b HIO
 go_wp2_with fail
 refine (ppicked_any n 400 _ ?_ ?_ (by omega) (by omega)).mono ?_
 · omega
 · omega
 rintro e w4 ⟨rfl,rfl⟩
 obtain⟨hp1,hp2⟩:=pick_rng n 400 (by omega)
 generalize pickZ n 400=pn at *
 go_wp2_with fail
 refine (record_any ai0 ci0 a0 a1 a2 a3 c0 c1 c2 c3 img is vs bs ds pn _ (HT.out.to HB3.out) (ints_of_owns HIO3.out (by omega) (fun z hz=>by have:=HWZ.out z hz;unfold WordZ at this;unfold I64;omega)) I0.out I1.out I2.out I3.out (by unfold I64;omega)).mono ?_
 rintro e w5 ⟨cc,l,cnt,i2,m,vi,vb,ar,cr,am,cm,ao,co,hR,rfl,hvi,hvb,hbd,hmo,hb5⟩
 obtain⟨rfl,hi2,N,rfl,hK⟩:=keep_rec hR HNC.out HW.out hp1 (by omega)
 have hi3:=hi2.symm
 clear hi2
 subst hi3
 obtain⟨ai,ci,rfl⟩:=own_shape hvi
 obtain⟨ab,cb,rfl⟩:=own_shape hvb
 simp only [Mach.agg]
 go_upto_region 2 with fail
 obtain⟨W6,hW6⟩:∃ W6,W6=((w5.alloc (.cells #[.slice ai img.length ci,.slice ab l.length cb,.int .i64 N] 32 (0,0))).alloc (.cells #[.slice ar m.regs.length cr,.int .i64 m.pc,.int .i64 m.back,.bool m.ints,.bool m.wait,.int .i64 m.table,.int .i64 m.count,.int .i64 m.fin,.slice am m.mem.length cm,.slice ao m.out.length co,.int .i64 m.ready,.int .i64 m.want] 34 (0,0))):=⟨_,rfl⟩
 rw [← hW6]
 have hle3:=HB3.out.size
 have hs5:w.heap.size+1 < w5.heap.size:=by have:=(Array.getElem?_eq_some_iff.1 HX7c.out).1;have:=hb5.size;omega
 have X9:=Lib.hid (show W6.heap[w5.heap.size]? = some (.cells #[.slice ai img.length ci,.slice ab l.length cb,.int .i64 N] 32 (0,0)) from by rw [hW6];exact (alloc_lt (by simp)).trans (alloc_at rfl))
 have X10:=Lib.hid (show W6.heap[w5.heap.size+1]? = some (.cells #[.slice ar m.regs.length cr,.int .i64 m.pc,.int .i64 m.back,.bool m.ints,.bool m.wait,.int .i64 m.table,.int .i64 m.count,.int .i64 m.fin,.slice am m.mem.length cm,.slice ao m.out.length co,.int .i64 m.ready,.int .i64 m.want] 34 (0,0)) from by rw [hW6];exact alloc_at (by simp))
 have B56:=Lib.hid (show Below w5.heap.size w5 W6 from by rw [hW6];exact below_alloc2 w5 _ _)
 have X6:=Lib.hid (block_below B56.out (block_below hb5 HX6c.out (Array.getElem?_eq_some_iff.1 HX6c.out).1) (by omega))
 have X7:=Lib.hid (block_below B56.out (block_below hb5 HX7c.out (Array.getElem?_eq_some_iff.1 HX7c.out).1) (by omega))
 have HB6:=Lib.hid ((HB3.out.trans (hb5.mono HB3.out.size)).trans (B56.out.mono (by omega)))
 have R1:=Lib.hid (own_base (own_below hvi B56.out (Nat.le_refl _)) hle3)
 have R2:=Lib.hid (own_base (own_below hvb B56.out (Nat.le_refl _)) hle3)
 have R3:=Lib.hid (show MachOwn w.heap.size W6 m (.slice ar m.regs.length cr) (.slice am m.mem.length cm) (.slice ao m.out.length co) from { hmo with hr:=own_base (own_below hmo.hr B56.out (Nat.le_refl _)) hle3,hm:=own_base (own_below hmo.hm B56.out (Nat.le_refl _)) hle3,ho:=own_base (own_below hmo.ho B56.out (Nat.le_refl _)) hle3 })
 have HK:=Lib.hid hK
 clear hW6 hvi hvb hmo hK hb5 HIO3 HX6c HX7c
 have y0:W6.cell? ⟨w5.heap.size,0,none⟩=some (.slice ai img.length ci):=cell_block X9.out 0
 have y1:W6.cell? ⟨w5.heap.size,1,none⟩=some (.slice ab l.length cb):=cell_block X9.out 1
 have y2:W6.cell? ⟨w5.heap.size,2,none⟩=some (.int .i64 N):=cell_block X9.out 2
 first | (obtain⟨z0,z1,z2,z3,z4,z5,z6,z7,z8,z9,z10,z11⟩:=cells12 X10.out) | (obtain⟨z0,z1,z2,z3,z4,z5,z6,z7,z8,z9,z10,z11⟩:=cells13 X10.out)
 have p0:W6.cell? ⟨w.heap.size,0,none⟩=some (.slice none 0 0):=cell_block X6.out 0
 have fp0:=free_block X6.out 0
 have p1:W6.cell? ⟨w.heap.size,1,none⟩=some (.slice none 0 0):=cell_block X6.out 1
 have fp1:=free_block X6.out 1
 have p2:W6.cell? ⟨w.heap.size,2,none⟩=some (.int .i64 0):=cell_block X6.out 2
 have fp2:=free_block X6.out 2
 first | (obtain⟨q0,q1,q2,q3,q4,q5,q6,q7,q8,q9,q10,q11⟩:=cells12 X7.out) | (obtain⟨q0,q1,q2,q3,q4,q5,q6,q7,q8,q9,q10,q11⟩:=cells13 X7.out)
 have fq0:=free_block X7.out 0
 have fq1:=free_block X7.out 1
 have fq2:=free_block X7.out 2
 have fq3:=free_block X7.out 3
 have fq4:=free_block X7.out 4
 have fq5:=free_block X7.out 5
 have fq6:=free_block X7.out 6
 have fq7:=free_block X7.out 7
 have fq8:=free_block X7.out 8
 have fq9:=free_block X7.out 9
 have fq10:=free_block X7.out 10
 have fq11:=free_block X7.out 11
 have l6:w.heap.size < W6.heap.size:=(Array.getElem?_eq_some_iff.1 X6.out).1
 have l7:w.heap.size+1 < W6.heap.size:=(Array.getElem?_eq_some_iff.1 X7.out).1
 have l9:w5.heap.size < W6.heap.size:=(Array.getElem?_eq_some_iff.1 X9.out).1
 have l10:w5.heap.size+1 < W6.heap.size:=(Array.getElem?_eq_some_iff.1 X10.out).1
 obtain⟨WA,hWA⟩:∃ W,W=(((((((((((((((W6.setCell ⟨w.heap.size,0,none⟩ (.slice ai img.length ci)).setCell ⟨w.heap.size,1,none⟩ (.slice ab l.length cb)).setCell ⟨w.heap.size,2,none⟩ (.int .i64 N)).setCell ⟨w.heap.size+1,0,none⟩ (.slice ar m.regs.length cr)).setCell ⟨w.heap.size+1,1,none⟩ (.int .i64 m.pc)).setCell ⟨w.heap.size+1,2,none⟩ (.int .i64 m.back)).setCell ⟨w.heap.size+1,3,none⟩ (.bool m.ints)).setCell ⟨w.heap.size+1,4,none⟩ (.bool m.wait)).setCell ⟨w.heap.size+1,5,none⟩ (.int .i64 m.table)).setCell ⟨w.heap.size+1,6,none⟩ (.int .i64 m.count)).setCell ⟨w.heap.size+1,7,none⟩ (.int .i64 m.fin)).setCell ⟨w.heap.size+1,8,none⟩ (.slice am m.mem.length cm)).setCell ⟨w.heap.size+1,9,none⟩ (.slice ao m.out.length co)).setCell ⟨w.heap.size+1,10,none⟩ (.int .i64 m.ready)).setCell ⟨w.heap.size+1,11,none⟩ (.int .i64 m.want)):=⟨_,rfl⟩
 have eA:WA=(setCells (setCells W6 (w.heap.size) 0 [.slice ai img.length ci,.slice ab l.length cb,.int .i64 N]) (w.heap.size+1) 0 [.slice ar m.regs.length cr,.int .i64 m.pc,.int .i64 m.back,.bool m.ints,.bool m.wait,.int .i64 m.table,.int .i64 m.count,.int .i64 m.fin,.slice am m.mem.length cm,.slice ao m.out.length co,.int .i64 m.ready,.int .i64 m.want]):=hWA
 have SA1:WA.heap[w.heap.size]? = some (.cells #[.slice ai img.length ci,.slice ab l.length cb,.int .i64 N] 32 (0,0)):=by rw [eA];exact setCells_ne (by omega) _ _ _ (setCells_all (old:=[.slice none 0 0,.slice none 0 0,.int .i64 0]) rfl X6.out)
 have SA2:WA.heap[w.heap.size+1]? = some (.cells #[.slice ar m.regs.length cr,.int .i64 m.pc,.int .i64 m.back,.bool m.ints,.bool m.wait,.int .i64 m.table,.int .i64 m.count,.int .i64 m.fin,.slice am m.mem.length cm,.slice ao m.out.length co,.int .i64 m.ready,.int .i64 m.want] 34 (0,0)):=by rw [eA];exact setCells_all (old:=[.slice none 0 0,.int .i64 0,.int .i64 0,.bool false,.bool false,.int .i64 0,.int .i64 0,.int .i64 0,.slice none 0 0,.slice none 0 0,.int .i64 0,.int .i64 0]) rfl (setCells_ne (by omega) _ _ _ X7.out)
 have ownA:∀ {e:TypeId} {v:Value} {k:Nat} {zs:List Value},W6.ownsRow w.heap.size e 1 v k zs→e≠32→e≠34→WA.ownsRow w.heap.size e 1 v k zs:=by
  intro e v k zs ho h1 h2
  rw [eA]
  exact setCells_own (own_ne_block ho X7.out h2) _ _ _ (setCells_own (own_ne_block ho X6.out h1) _ _ _ ho)
 have bA1:Below w.heap.size w (setCells W6 (w.heap.size) 0 [.slice ai img.length ci,.slice ab l.length cb,.int .i64 N]):=setCells_below (by omega) _ _ _ HB6.out
 have bA2:Below w.heap.size w (setCells (setCells W6 (w.heap.size) 0 [.slice ai img.length ci,.slice ab l.length cb,.int .i64 N]) (w.heap.size+1) 0 [.slice ar m.regs.length cr,.int .i64 m.pc,.int .i64 m.back,.bool m.ints,.bool m.wait,.int .i64 m.table,.int .i64 m.count,.int .i64 m.fin,.slice am m.mem.length cm,.slice ao m.out.length co,.int .i64 m.ready,.int .i64 m.want]):=setCells_below (by omega) _ _ _ bA1
 have bA3:Below w.heap.size w WA:=by rw [eA];exact bA2
 have HPA:=Lib.hid (show KRecPostZ xs ys pn w (.returned (.tuple #[.agg #[.slice ai img.length ci,.slice ab l.length cb,.int .i64 N],.agg #[.slice ar m.regs.length cr,.int .i64 m.pc,.int .i64 m.back,.bool m.ints,.bool m.wait,.int .i64 m.table,.int .i64 m.count,.int .i64 m.fin,.slice am m.mem.length cm,.slice ao m.out.length co,.int .i64 m.ready,.int .i64 m.want],.bool true])) WA.drew from ⟨img,is,vs,bs,ds,l,N,m,ai,ab,ar,am,ao,ci,cb,cr,cm,co,rfl,HK.out,HNC.out,by omega,ownA R1.out (by decide) (by decide),ownA R2.out (by decide) (by decide),{ R3.out with hr:=ownA R3.out.hr (by decide) (by decide),hm:=ownA R3.out.hm (by decide) (by decide),ho:=ownA R3.out.ho (by decide) (by decide) },bA3.drew,HFZ.out,HWX.out⟩)
 have cA6_0:WA.drew.cell? ⟨w.heap.size,0,none⟩=some (.slice ai img.length ci):=cell_block SA1 0
 have cA6_1:WA.drew.cell? ⟨w.heap.size,1,none⟩=some (.slice ab l.length cb):=cell_block SA1 1
 have cA6_2:WA.drew.cell? ⟨w.heap.size,2,none⟩=some (.int .i64 N):=cell_block SA1 2
 first | (obtain⟨cA7_0,cA7_1,cA7_2,cA7_3,cA7_4,cA7_5,cA7_6,cA7_7,cA7_8,cA7_9,cA7_10,cA7_11⟩:=cells12 SA2) | (obtain⟨cA7_0,cA7_1,cA7_2,cA7_3,cA7_4,cA7_5,cA7_6,cA7_7,cA7_8,cA7_9,cA7_10,cA7_11⟩:=cells13 SA2)
 clear eA SA1 SA2 ownA
 obtain⟨WB,hWB⟩:∃ W,W=(((((((((((((((W6.setCell ⟨w.heap.size+1,0,none⟩ (.slice ar m.regs.length cr)).setCell ⟨w.heap.size+1,1,none⟩ (.int .i64 m.pc)).setCell ⟨w.heap.size+1,2,none⟩ (.int .i64 m.back)).setCell ⟨w.heap.size+1,3,none⟩ (.bool m.ints)).setCell ⟨w.heap.size+1,4,none⟩ (.bool m.wait)).setCell ⟨w.heap.size+1,5,none⟩ (.int .i64 m.table)).setCell ⟨w.heap.size+1,6,none⟩ (.int .i64 m.count)).setCell ⟨w.heap.size+1,7,none⟩ (.int .i64 m.fin)).setCell ⟨w.heap.size+1,8,none⟩ (.slice am m.mem.length cm)).setCell ⟨w.heap.size+1,9,none⟩ (.slice ao m.out.length co)).setCell ⟨w.heap.size+1,10,none⟩ (.int .i64 m.ready)).setCell ⟨w.heap.size+1,11,none⟩ (.int .i64 m.want)).setCell ⟨w.heap.size,0,none⟩ (.slice ai img.length ci)).setCell ⟨w.heap.size,1,none⟩ (.slice ab l.length cb)).setCell ⟨w.heap.size,2,none⟩ (.int .i64 N)):=⟨_,rfl⟩
 have eB:WB=(setCells (setCells W6 (w.heap.size+1) 0 [.slice ar m.regs.length cr,.int .i64 m.pc,.int .i64 m.back,.bool m.ints,.bool m.wait,.int .i64 m.table,.int .i64 m.count,.int .i64 m.fin,.slice am m.mem.length cm,.slice ao m.out.length co,.int .i64 m.ready,.int .i64 m.want]) (w.heap.size) 0 [.slice ai img.length ci,.slice ab l.length cb,.int .i64 N]):=hWB
 have SB1:WB.heap[w.heap.size+1]? = some (.cells #[.slice ar m.regs.length cr,.int .i64 m.pc,.int .i64 m.back,.bool m.ints,.bool m.wait,.int .i64 m.table,.int .i64 m.count,.int .i64 m.fin,.slice am m.mem.length cm,.slice ao m.out.length co,.int .i64 m.ready,.int .i64 m.want] 34 (0,0)):=by rw [eB];exact setCells_ne (by omega) _ _ _ (setCells_all (old:=[.slice none 0 0,.int .i64 0,.int .i64 0,.bool false,.bool false,.int .i64 0,.int .i64 0,.int .i64 0,.slice none 0 0,.slice none 0 0,.int .i64 0,.int .i64 0]) rfl X7.out)
 have SB2:WB.heap[w.heap.size]? = some (.cells #[.slice ai img.length ci,.slice ab l.length cb,.int .i64 N] 32 (0,0)):=by rw [eB];exact setCells_all (old:=[.slice none 0 0,.slice none 0 0,.int .i64 0]) rfl (setCells_ne (by omega) _ _ _ X6.out)
 have ownB:∀ {e:TypeId} {v:Value} {k:Nat} {zs:List Value},W6.ownsRow w.heap.size e 1 v k zs→e≠32→e≠34→WB.ownsRow w.heap.size e 1 v k zs:=by
  intro e v k zs ho h1 h2
  rw [eB]
  exact setCells_own (own_ne_block ho X6.out h1) _ _ _ (setCells_own (own_ne_block ho X7.out h2) _ _ _ ho)
 have bB1:Below w.heap.size w (setCells W6 (w.heap.size+1) 0 [.slice ar m.regs.length cr,.int .i64 m.pc,.int .i64 m.back,.bool m.ints,.bool m.wait,.int .i64 m.table,.int .i64 m.count,.int .i64 m.fin,.slice am m.mem.length cm,.slice ao m.out.length co,.int .i64 m.ready,.int .i64 m.want]):=setCells_below (by omega) _ _ _ HB6.out
 have bB2:Below w.heap.size w (setCells (setCells W6 (w.heap.size+1) 0 [.slice ar m.regs.length cr,.int .i64 m.pc,.int .i64 m.back,.bool m.ints,.bool m.wait,.int .i64 m.table,.int .i64 m.count,.int .i64 m.fin,.slice am m.mem.length cm,.slice ao m.out.length co,.int .i64 m.ready,.int .i64 m.want]) (w.heap.size) 0 [.slice ai img.length ci,.slice ab l.length cb,.int .i64 N]):=setCells_below (by omega) _ _ _ bB1
 have bB3:Below w.heap.size w WB:=by rw [eB];exact bB2
 have HPB:=Lib.hid (show KRecPostZ xs ys pn w (.returned (.tuple #[.agg #[.slice ai img.length ci,.slice ab l.length cb,.int .i64 N],.agg #[.slice ar m.regs.length cr,.int .i64 m.pc,.int .i64 m.back,.bool m.ints,.bool m.wait,.int .i64 m.table,.int .i64 m.count,.int .i64 m.fin,.slice am m.mem.length cm,.slice ao m.out.length co,.int .i64 m.ready,.int .i64 m.want],.bool true])) WB.drew from ⟨img,is,vs,bs,ds,l,N,m,ai,ab,ar,am,ao,ci,cb,cr,cm,co,rfl,HK.out,HNC.out,by omega,ownB R1.out (by decide) (by decide),ownB R2.out (by decide) (by decide),{ R3.out with hr:=ownB R3.out.hr (by decide) (by decide),hm:=ownB R3.out.hm (by decide) (by decide),ho:=ownB R3.out.ho (by decide) (by decide) },bB3.drew,HFZ.out,HWX.out⟩)
 have cB6_0:WB.drew.cell? ⟨w.heap.size,0,none⟩=some (.slice ai img.length ci):=cell_block SB2 0
 have cB6_1:WB.drew.cell? ⟨w.heap.size,1,none⟩=some (.slice ab l.length cb):=cell_block SB2 1
 have cB6_2:WB.drew.cell? ⟨w.heap.size,2,none⟩=some (.int .i64 N):=cell_block SB2 2
 first | (obtain⟨cB7_0,cB7_1,cB7_2,cB7_3,cB7_4,cB7_5,cB7_6,cB7_7,cB7_8,cB7_9,cB7_10,cB7_11⟩:=cells12 SB1) | (obtain⟨cB7_0,cB7_1,cB7_2,cB7_3,cB7_4,cB7_5,cB7_6,cB7_7,cB7_8,cB7_9,cB7_10,cB7_11⟩:=cells13 SB1)
 clear eB SB1 SB2 ownB
 generalize hsv:w5.heap.size=sv at *
 go_region_with fail
 all_goals go_wp2
 all_goals (first | rw [← hWA] | rw [← hWB])
 all_goals (first | exact bodyPost_ret (v:=.tuple #[.agg #[.slice ai img.length ci,.slice ab l.length cb,.int .i64 N],.agg #[.slice ar m.regs.length cr,.int .i64 m.pc,.int .i64 m.back,.bool m.ints,.bool m.wait,.int .i64 m.table,.int .i64 m.count,.int .i64 m.fin,.slice am m.mem.length cm,.slice ao m.out.length co,.int .i64 m.ready,.int .i64 m.want],.bool true]) (by simp [results,Tryz.results14,go_sem,cA6_0,cA6_1,cA6_2,cA7_0,cA7_1,cA7_2,cA7_3,cA7_4,cA7_5,cA7_6,cA7_7,cA7_8,cA7_9,cA7_10,cA7_11]) rfl HPA.out | exact bodyPost_ret (v:=.tuple #[.agg #[.slice ai img.length ci,.slice ab l.length cb,.int .i64 N],.agg #[.slice ar m.regs.length cr,.int .i64 m.pc,.int .i64 m.back,.bool m.ints,.bool m.wait,.int .i64 m.table,.int .i64 m.count,.int .i64 m.fin,.slice am m.mem.length cm,.slice ao m.out.length co,.int .i64 m.ready,.int .i64 m.want],.bool true]) (by simp [results,Tryz.results14,go_sem,cB6_0,cB6_1,cB6_2,cB7_0,cB7_1,cB7_2,cB7_3,cB7_4,cB7_5,cB7_6,cB7_7,cB7_8,cB7_9,cB7_10,cB7_11]) rfl HPB.out)
theorem trecz_any (v1 v2:Value) (xs ys:List Rw) (n:Int) (w:World) (ht:Tab w) (h1:RawsR w.heap.size w v1 xs) (h2:RawsR w.heap.size w v2 ys) (hn:I64 n):Calls Tryz.prog 14 #[v1,v2,.int .i64 n] w (KPostZ xs ys (.bool true) (pickZ n 400) w):=
 (trecz_walk v1 v2 xs ys n w ht h1 h2 hn).mono (fun e w' h=>krecz_post h)
end Go.Proofs.YtkahciebbnhobaaGreatDoor
namespace Go.Proofs.YtkahciebbnhobaaGreatDoor
open Go Go.RowKit Go.ChangeShapes Go.WideShapes Go.ChangeAt Go.Deep
set_option maxHeartbeats 8000000
set_option maxRecDepth 100000
set_option linter.unusedVariables false
attribute [local go_sem] i64_and15
def sumT (l:List UInt8):Int:=l.foldl (fun a b=>a+(b.toNat:Int)) 0
theorem sumT_snoc (l:List UInt8) (b:UInt8):sumT (l ++ [b])=sumT l+(b.toNat:Int):=by simp [sumT]
theorem sumT_take {l:List UInt8} {k:Nat} (h:k < l.length):sumT (l.take (k+1))=sumT (l.take k)+(l[k].toNat:Int):=by
 rw [List.take_add_one,List.getElem?_eq_getElem h];exact sumT_snoc _ _
theorem sumT_rng (l:List UInt8) (k:Nat):0≤sumT (l.take k)∧sumT (l.take k)≤255 * (k:Int):=by
 induction k with
 | zero=>simp [sumT]
 | succ k ih =>
  by_cases h:k < l.length
  · rw [sumT_take h];have:=l[k].toNat_lt;omega
  · rw [List.take_of_length_le (by omega)] at ih ⊢;omega
theorem conv_two (W:World) (g:Nat) (hg:g=W.heap.size) (b1 b2:UInt8) (ph:Nat × Nat):(convert 30 9 (.slice (some ⟨g,0,none⟩) 2 2)).run Tryz.prog (W.alloc (.cells #[.int .u8 b1.toNat,.int .u8 b2.toNat] 5 ph))=.ok (.string ⟨#[b1,b2]⟩) (W.alloc (.cells #[.int .u8 b1.toNat,.int .u8 b2.toNat] 5 ph)):=by
 subst hg
 refine run_convert_bytes_back _ 30 9 5 ⟨W.heap.size,0,none⟩ 2 [b1,b2] Tryz.underlying30 Tryz.underlying5 Tryz.underlying9 (fun j hj=>?_)
 match j,hj with
 | 0,_=>exact cell_block (alloc_at rfl) 0
 | 1,_=>exact cell_block (alloc_at rfl) 1
theorem ssum_any (t:ByteArray) (w:World) (ht:t.size < 4294967281):Calls Tryz.prog 43 #[.string t] w fun e w'=>(∃ s:ByteArray,s.size=2∧e=.returned (.string s))∧Below w.heap.size w w':=by
 have HZ:=Lib.hid ht
 go_enter Tryz.func43,Tryz.ntmps43
 go_wp2_with fail
 go_loopg [3,7] t.size (fun gh s3 s7 wr =>∃k q:Nat,k≤t.size∧gh=t.size - k∧s7=.int .i64 k∧s3=.int .i64 (sumT (t.data.toList.take k))∧wr=w.drewN q)
 case atStart=>exact⟨0,0,Nat.zero_le _,by omega,rfl,rfl,rfl⟩
 case round =>
  obtain⟨k,q,hk,rfl,rfl,rfl,rfl⟩:=hrel
  by_cases hlt:k < t.size
  ·
   have HS:=Lib.hid (sumT_take (l:=t.data.toList) (k:=k) (by simpa using hlt))
   have HR:=Lib.hid (sumT_rng t.data.toList k)
   generalize sumT (t.data.toList.take k)=z at *
   obtain⟨z1,z2⟩:=HR.out
   have hb:t[k].toNat < 256:=t[k].toNat_lt
   have HB:=Lib.hid (show t.data.toList[k].toNat=t[k].toNat from by rw [Array.getElem_toList];rfl)
   go_wp2_with fail
   go_roundg (t.size - (k+1))
   case measure=>omega
   case rel=>exact⟨k+1,q,by omega,rfl,by go_num,by rw [HS.out,HB.out],rfl⟩
  ·
   have HR:=Lib.hid (sumT_rng t.data.toList k)
   generalize sumT (t.data.toList.take k)=z at *
   obtain⟨z1,z2⟩:=HR.out
   go_wp2_with fail
   go_region_with (rw [conv_two _ _ (by simp)])
   all_goals (go_wp2_with fail;go_ret;exact⟨⟨_,rfl,rfl⟩,((below_drewN (Below.refl _ _) _).alloc (by simp) _)⟩)
theorem frame_c (w:World):Calls Tryz.prog 20 #[.string ⟨#[99]⟩] w fun e w'=>(∃ s:ByteArray,e=.returned (.tuple #[.string s,.int .i64 0])∧s≠⟨#[]⟩)∧Below w.heap.size w w':=by
 have HC:=Lib.hid (Tryz.strings_ContainsAny_laid ⟨#[99]⟩ ⟨#[36,35]⟩ w (by decide) (by decide) (by intro j b h;match j with | 0=>(injection h with h;subst h;decide) | j+1=>(exact absurd h (by simp))) (by intro j b h;match j with | 0=>(injection h with h;subst h;decide) | 1=>(injection h with h;subst h;decide) | j+2=>(exact absurd h (by simp))))
 go_enter Tryz.func20,Tryz.ntmps20
 go_wp2_with fail
 refine HC.out.mono ?_
 rintro e w1 ⟨rfl,hb1⟩
 have HB1:=Lib.hid hb1
 clear hb1
 go_wp2_with fail
 refine (ssum_any ⟨#[99]⟩ w1 (by decide)).mono ?_
 rintro e w2 ⟨⟨s,hs2,rfl⟩,hb2⟩
 go_wp2_with fail
 all_goals first | (exfalso;omega;done) | skip
 go_ret2
 exact⟨⟨_,rfl,by intro h;have h9:=congrArg ByteArray.size h;rw [ByteArray.size_append,ByteArray.size_append,ByteArray.size_append,hs2] at h9;revert h9;decide⟩,HB1.out.trans (hb2.mono HB1.out.size)⟩
end Go.Proofs.YtkahciebbnhobaaGreatDoor
namespace Go.Proofs.YtkahciebbnhobaaGreatDoor
open Go Go.RowKit Go.ChangeShapes Go.WideShapes Go.Deep
set_option maxHeartbeats 4000000
set_option maxRecDepth 100000
set_option linter.unusedVariables false
attribute [local go_sem ↓] Go.wp_at_zero Go.wp_at_succ
theorem stubtells_any (w:World) (ht:Tab w):Calls Tryz.prog 6 #[] w fun e w'=>e=.returned (.bool true)∧Below w.heap.size w w':=by
 have HT:=Lib.hid ht
 have HF:=Lib.hid (frame_c w)
 clear ht
 go_enter Tryz.func6,Tryz.ntmps6
 go_wp2_with fail
 refine HF.out.mono ?_
 rintro e w1 ⟨⟨s,rfl,hs⟩,hb1⟩
 have HB1:=Lib.hid hb1
 have HD:=Lib.hid (decktells_any w1 (HT.out.to hb1))
 have hne:¬ s.toList=[]:=fun h=>hs (by rw [Go.Lib.toList_data] at h;cases s with | mk d=>cases d with | mk l=>simp at h;rw [h])
 clear hb1 HF
 go_wp2_with fail
 refine HD.out.mono ?_
 rintro e w2 ⟨rfl,hb2⟩
 have HB2:=Lib.hid (HB1.out.trans (hb2.mono HB1.out.size))
 clear hb2
 go_wp2
 go_ret
 exact⟨ret_bool (by simp [hne]),HB2.out⟩
end Go.Proofs.YtkahciebbnhobaaGreatDoor
