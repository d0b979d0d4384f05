/- Several texts joined, each with its own heading in the notes: The contract of a core's do, operations 0, 1, 4 and 15. The contract of a core's do, operation 2. No condition beyond those of each row. -/
import Derived.Test.YtflonfcemlfbdaaDoorYCpu1
import Derived.Deep.RegionWith
import Derived.Deep.RegionLaw
import Derived.Deep.CutBlock
import Derived.Deep.RegionHeld3
namespace Go.Proofs.YtflonfcemlfbdaaDoor
open Go Go.RowKit Go.ChangeShapes Go.WideShapes Go.Deep
set_option maxHeartbeats 4000000
set_option maxRecDepth 100000
set_option linter.unusedVariables false
attribute [local go_sem ↓] Go.wp_at_zero Go.wp_at_succ
theorem do_0{t fL fS:Nat}{v:Value}{St:World→(Nat→Prop)→List Int→Bool→Prop}(hM:MemI t fL fS v St){w0 w:World}{D:Nat→Prop}{cb gr cr:Nat}{vm:Value}{m:Mach}{x:Bool}{ao:Option Addr}{co:Nat}{F:Nat→Prop}(h:GSt St w0 D cb gr cr vm m (-1) x ao co F w)(hm:MOk m)(a b:Nat)(n value:Int)(ha:a<8)(hb:b<8)(hn:-1048576≤n∧n≤1048575)(hv:WordZ value):Calls Tryd.prog 79 #[.pointer (some ⟨cb,0,none⟩),.iface t v,.agg #[.int .i64 0,.int .i64 a,.int .i64 b,.int .i64 n],.int .i64 value] w (DoPost St w0 D cb gr cr vm m x (doM m 0 a b n value)):=by
 have HOK:=Lib.hid (za9 hm 0 a b n value (by unfold WordZ;omega) hv)
 have c0:w.cell? ⟨cb,0,none⟩=some (.slice (some ⟨gr,0,none⟩) 8 cr):=zaa h.box 0
 have c1:w.cell? ⟨cb,1,none⟩=some (.int .i64 m.pc):=zaa h.box 1
 have f1:=zab h.box 1
 have ra:=h.reg_at ha
 have rb:=h.reg_at hb
 have fa:=h.reg_free a
 have lc:=h.clt
 have lr:=h.rlt
 have hpc:=hm.pc
 have hne1:¬gr=cb:=h.rne
 have hne2:¬cb=gr:=fun e=>h.rne e.symm
 have ha':(a:Int)<8:=by omega
 have hb':(b:Int)<8:=by omega
 have wa:=hm.wreg a
 have wb:=hm.wreg b
 have w1:IntKind.i64.wrap (m.pc+1)=m.pc+1:=IntWalk.i64_in _ (by omega)
 have HH:=Lib.hid h
 have HM:=Lib.hid hM
 have HMO:=Lib.hid hm
 rw[show doM m 0 a b n value=(m,1,-1) from rfl] at HOK ⊢
 clear h hm hM
 go_enter Tryd.func79,Tryd.ntmps79
 go_wp2_with fail
 go_ret
 exact DoPost.ok HOK.out rfl (GSt.alloc HM.out HH.out _).gs
theorem do_1{t fL fS:Nat}{v:Value}{St:World→(Nat→Prop)→List Int→Bool→Prop}(hM:MemI t fL fS v St){w0 w:World}{D:Nat→Prop}{cb gr cr:Nat}{vm:Value}{m:Mach}{x:Bool}{ao:Option Addr}{co:Nat}{F:Nat→Prop}(h:GSt St w0 D cb gr cr vm m (-1) x ao co F w)(hm:MOk m)(a b:Nat)(n value:Int)(ha:a<8)(hb:b<8)(hn:-1048576≤n∧n≤1048575)(hv:WordZ value):Calls Tryd.prog 79 #[.pointer (some ⟨cb,0,none⟩),.iface t v,.agg #[.int .i64 1,.int .i64 a,.int .i64 b,.int .i64 n],.int .i64 value] w (DoPost St w0 D cb gr cr vm m x (doM m 1 a b n value)):=by
 have HOK:=Lib.hid (za9 hm 1 a b n value (by unfold WordZ;omega) hv)
 have c0:w.cell? ⟨cb,0,none⟩=some (.slice (some ⟨gr,0,none⟩) 8 cr):=zaa h.box 0
 have c1:w.cell? ⟨cb,1,none⟩=some (.int .i64 m.pc):=zaa h.box 1
 have f1:=zab h.box 1
 have ra:=h.reg_at ha
 have rb:=h.reg_at hb
 have fa:=h.reg_free a
 have lc:=h.clt
 have lr:=h.rlt
 have hpc:=hm.pc
 have hne1:¬gr=cb:=h.rne
 have hne2:¬cb=gr:=fun e=>h.rne e.symm
 have ha':(a:Int)<8:=by omega
 have hb':(b:Int)<8:=by omega
 have wa:=hm.wreg a
 have wb:=hm.wreg b
 have w1:IntKind.i64.wrap (m.pc+1)=m.pc+1:=IntWalk.i64_in _ (by omega)
 have HH:=Lib.hid h
 have HM:=Lib.hid hM
 have HMO:=Lib.hid hm
 rw[show doM m 1 a b n value=((m.setReg a n).goTo (m.pc+1),0,-1) from rfl] at HOK ⊢
 clear h hm hM
 go_enter Tryd.func79,Tryd.ntmps79
 go_wp2_with (go_at_call 85;refine(zav _ _ (by omega) (by omega)).mono ?_;rintro e w' ⟨rfl,rfl⟩)
 go_ret
 exact DoPost.ok HOK.out rfl (GSt.alloc HM.out (GSt.put HM.out (HH.out.setReg HM.out a (n)) 1 _ ((m.setReg a n).goTo (m.pc+1)) (-1) rfl rfl rfl rfl) _).gs
theorem do_4{t fL fS:Nat}{v:Value}{St:World→(Nat→Prop)→List Int→Bool→Prop}(hM:MemI t fL fS v St){w0 w:World}{D:Nat→Prop}{cb gr cr:Nat}{vm:Value}{m:Mach}{x:Bool}{ao:Option Addr}{co:Nat}{F:Nat→Prop}(h:GSt St w0 D cb gr cr vm m (-1) x ao co F w)(hm:MOk m)(a b:Nat)(n value:Int)(ha:a<8)(hb:b<8)(hn:-1048576≤n∧n≤1048575)(hv:WordZ value):Calls Tryd.prog 79 #[.pointer (some ⟨cb,0,none⟩),.iface t v,.agg #[.int .i64 4,.int .i64 a,.int .i64 b,.int .i64 n],.int .i64 value] w (DoPost St w0 D cb gr cr vm m x (doM m 4 a b n value)):=by
 have HOK:=Lib.hid (za9 hm 4 a b n value (by unfold WordZ;omega) hv)
 have c0:w.cell? ⟨cb,0,none⟩=some (.slice (some ⟨gr,0,none⟩) 8 cr):=zaa h.box 0
 have c1:w.cell? ⟨cb,1,none⟩=some (.int .i64 m.pc):=zaa h.box 1
 have f1:=zab h.box 1
 have ra:=h.reg_at ha
 have rb:=h.reg_at hb
 have fa:=h.reg_free a
 have lc:=h.clt
 have lr:=h.rlt
 have hpc:=hm.pc
 have hne1:¬gr=cb:=h.rne
 have hne2:¬cb=gr:=fun e=>h.rne e.symm
 have ha':(a:Int)<8:=by omega
 have hb':(b:Int)<8:=by omega
 have wa:=hm.wreg a
 have wb:=hm.wreg b
 have w1:IntKind.i64.wrap (m.pc+1)=m.pc+1:=IntWalk.i64_in _ (by omega)
 have HH:=Lib.hid h
 have HM:=Lib.hid hM
 have HMO:=Lib.hid hm
 have wn:WordZ n:=by unfold WordZ;omega
 have w2:IntKind.i64.wrap (m.reg b+n)=m.reg b+n:=IntWalk.i64_in _ (by unfold WordZ at wb wn;omega)
 have hf1:-4398046511104≤m.reg b+n:=by unfold WordZ at wb wn;omega
 have hf2:m.reg b+n≤4398046511104:=by unfold WordZ at wb wn;omega
 rw[show doM m 4 a b n value=((m.setReg a (zaH (m.reg b+n))).goTo (m.pc+1),0,-1) from rfl] at HOK ⊢
 clear h hm hM
 generalize hz:m.reg b+n=z at *
 go_enter Tryd.func79,Tryd.ntmps79
 go_upto_block 0 with fail
 go_cut [10] from 28 (fun s10 wx=>s10=.int .i64 (m.pc+1)∧Hid (GSt St w0 D cb gr cr vm (m.setReg a (zaH z)) (-1) x ao co F wx))
 case first=>
  go_wp2_with fail
  go_region_with (go_at_call 85;refine(zav _ _ (by omega) (by omega)).mono ?_;rintro e w' ⟨rfl,rfl⟩)
  all_goals (go_wp2_with fail;go_meet)
  all_goals exact⟨rfl,Lib.hid (((HH.out.setReg HM.out a (zaH z)).alloc HM.out _).drew HM.out)⟩
 case rest=>
  obtain⟨rfl,HX⟩:=hcut
  clear c0 c1 f1 ra rb fa lc lr
  have f1:=zab HX.out.box 1
  have c1:wc.cell? ⟨cb,1,none⟩=some (.int .i64 m.pc):=zaa HX.out.box 1
  have lc:=HX.out.clt
  go_wp2_with (go_at_call 85;refine(zav _ _ (by omega) (by omega)).mono ?_;rintro e w' ⟨rfl,rfl⟩)
  go_ret
  refine DoPost.ok HOK.out rfl ?_
  exact(GSt.put HM.out HX.out 1 _ ((m.setReg a (zaH z)).goTo (m.pc+1)) (-1) rfl rfl rfl rfl).gs
theorem zk1{t fL fS:Nat}{v:Value}{St:World→(Nat→Prop)→List Int→Bool→Prop}(hM:MemI t fL fS v St){w0 w:World}{D:Nat→Prop}{cb gr cr:Nat}{vm:Value}{m:Mach}{x:Bool}{ao:Option Addr}{co:Nat}{F:Nat→Prop}(h:GSt St w0 D cb gr cr vm m (-1) x ao co F w)(hm:MOk m)(a b:Nat)(n value:Int)(ha:a<8)(hb:b<8)(hn:-1048576≤n∧n≤1048575)(hv:WordZ value):Calls Tryd.prog 79 #[.pointer (some ⟨cb,0,none⟩),.iface t v,.agg #[.int .i64 15,.int .i64 a,.int .i64 b,.int .i64 n],.int .i64 value] w (DoPost St w0 D cb gr cr vm m x (doM m 15 a b n value)):=by
 have HOK:=Lib.hid (za9 hm 15 a b n value (by unfold WordZ;omega) hv)
 have c0:w.cell? ⟨cb,0,none⟩=some (.slice (some ⟨gr,0,none⟩) 8 cr):=zaa h.box 0
 have c1:w.cell? ⟨cb,1,none⟩=some (.int .i64 m.pc):=zaa h.box 1
 have f1:=zab h.box 1
 have ra:=h.reg_at ha
 have rb:=h.reg_at hb
 have fa:=h.reg_free a
 have lc:=h.clt
 have lr:=h.rlt
 have hpc:=hm.pc
 have hne1:¬gr=cb:=h.rne
 have hne2:¬cb=gr:=fun e=>h.rne e.symm
 have ha':(a:Int)<8:=by omega
 have hb':(b:Int)<8:=by omega
 have wa:=hm.wreg a
 have wb:=hm.wreg b
 have w1:IntKind.i64.wrap (m.pc+1)=m.pc+1:=IntWalk.i64_in _ (by omega)
 have HH:=Lib.hid h
 have HM:=Lib.hid hM
 have HMO:=Lib.hid hm
 rw[show doM m 15 a b n value=(m.goTo (m.pc+1),0,-1) from rfl] at HOK ⊢
 clear h hm hM
 go_enter Tryd.func79,Tryd.ntmps79
 go_wp2_with (go_at_call 85;refine(zav _ _ (by omega) (by omega)).mono ?_;rintro e w' ⟨rfl,rfl⟩)
 go_ret
 exact DoPost.ok HOK.out rfl (GSt.alloc HM.out (GSt.put HM.out HH.out 1 _ (m.goTo (m.pc+1)) (-1) rfl rfl rfl rfl) _).gs
theorem do_2{t fL fS:Nat}{v:Value}{St:World→(Nat→Prop)→List Int→Bool→Prop}(hM:MemI t fL fS v St){w0 w:World}{D:Nat→Prop}{cb gr cr:Nat}{vm:Value}{m:Mach}{x:Bool}{ao:Option Addr}{co:Nat}{F:Nat→Prop}(h:GSt St w0 D cb gr cr vm m (-1) x ao co F w)(hm:MOk m)(a b:Nat)(n value:Int)(ha:a<8)(hb:b<8)(hn:-1048576≤n∧n≤1048575)(hn8:0≤n∧n<8)(hv:WordZ value):Calls Tryd.prog 79 #[.pointer (some ⟨cb,0,none⟩),.iface t v,.agg #[.int .i64 2,.int .i64 a,.int .i64 b,.int .i64 n],.int .i64 value] w (DoPost St w0 D cb gr cr vm m x (doM m 2 a b n value)):=by
 have HOK:=Lib.hid (za9 hm 2 a b n value (by unfold WordZ;omega) hv)
 have c0:w.cell? ⟨cb,0,none⟩=some (.slice (some ⟨gr,0,none⟩) 8 cr):=zaa h.box 0
 have c1:w.cell? ⟨cb,1,none⟩=some (.int .i64 m.pc):=zaa h.box 1
 have f1:=zab h.box 1
 have ra:=h.reg_at ha
 have rb:=h.reg_at hb
 have fa:=h.reg_free a
 have lc:=h.clt
 have lr:=h.rlt
 have hpc:=hm.pc
 have hne1:¬gr=cb:=h.rne
 have hne2:¬cb=gr:=fun e=>h.rne e.symm
 have ha':(a:Int)<8:=by omega
 have hb':(b:Int)<8:=by omega
 have wa:=hm.wreg a
 have wb:=hm.wreg b
 have w1:IntKind.i64.wrap (m.pc+1)=m.pc+1:=IntWalk.i64_in _ (by omega)
 have HH:=Lib.hid h
 have HM:=Lib.hid hM
 have HMO:=Lib.hid hm
 obtain⟨k,rfl⟩:∃k:Nat,n=(k:Int):=⟨n.toNat,by omega⟩
 have hk:k<8:=by omega
 have hk':(k:Int)<8:=by omega
 have rn:=h.reg_at hk
 have wn:=hm.wreg k
 have w2:IntKind.i64.wrap (m.reg b+m.reg k)=m.reg b+m.reg k:=IntWalk.i64_in _ (by unfold WordZ at wb wn;omega)
 have hf1:-4398046511104≤m.reg b+m.reg k:=by unfold WordZ at wb wn;omega
 have hf2:m.reg b+m.reg k≤4398046511104:=by unfold WordZ at wb wn;omega
 rw[show doM m 2 a b k value=((m.setReg a (zaH (m.reg b+m.reg k))).goTo (m.pc+1),0,-1) from rfl] at HOK ⊢
 clear h hm hM
 generalize hz:m.reg b+m.reg k=z at *
 go_enter Tryd.func79,Tryd.ntmps79
 go_upto_block 0 with fail
 go_cut [10] from 28 (fun s10 wx=>s10=.int .i64 (m.pc+1)∧Hid (GSt St w0 D cb gr cr vm (m.setReg a (zaH z)) (-1) x ao co F wx))
 case first=>
  go_wp2_with fail
  go_region_with (go_at_call 85;refine(zav _ _ (by omega) (by omega)).mono ?_;rintro e w' ⟨rfl,rfl⟩)
  all_goals (go_wp2_with fail;go_meet)
  all_goals exact⟨rfl,Lib.hid (((HH.out.setReg HM.out a (zaH z)).alloc HM.out _).drew HM.out)⟩
 case rest=>
  obtain⟨rfl,HX⟩:=hcut
  clear c0 c1 f1 ra rb fa lc lr
  have f1:=zab HX.out.box 1
  have c1:wc.cell? ⟨cb,1,none⟩=some (.int .i64 m.pc):=zaa HX.out.box 1
  have lc:=HX.out.clt
  go_wp2_with (go_at_call 85;refine(zav _ _ (by omega) (by omega)).mono ?_;rintro e w' ⟨rfl,rfl⟩)
  go_ret
  refine DoPost.ok HOK.out rfl ?_
  exact(GSt.put HM.out HX.out 1 _ ((m.setReg a (zaH z)).goTo (m.pc+1)) (-1) rfl rfl rfl rfl).gs
end Go.Proofs.YtflonfcemlfbdaaDoor
