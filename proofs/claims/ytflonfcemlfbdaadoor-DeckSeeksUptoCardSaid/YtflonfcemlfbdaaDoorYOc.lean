/- Several texts joined, each with its own heading in the notes: The contract of a core's do, operation 3. The contract of a core's do, operations 7, 8, 9, 12, 13 and 14. The contract of a core's do, store; operation 5. No condition beyond those of each row. -/
import Derived.Test.YtflonfcemlfbdaaDoorYCpu1
import Derived.Deep.RegionWith
import Derived.Deep.RegionLaw
import Derived.Deep.CutBlock
import Derived.Deep.RegionHeld3
namespace Go.Proofs.YtflonfcemlfbdaaDoor
open Go Go.RowKit Go.ChangeShapes Go.WideShapes Go.Deep
set_option maxHeartbeats 4000000
set_option maxRecDepth 100000
set_option linter.unusedVariables false
attribute [local go_sem ↓] Go.wp_at_zero Go.wp_at_succ
theorem do_3{t fL fS:Nat}{v:Value}{St:World→(Nat→Prop)→List Int→Bool→Prop}(hM:MemI t fL fS v St){w0 w:World}{D:Nat→Prop}{cb gr cr:Nat}{vm:Value}{m:Mach}{x:Bool}{ao:Option Addr}{co:Nat}{F:Nat→Prop}(h:GSt St w0 D cb gr cr vm m (-1) x ao co F w)(hm:MOk m)(a b:Nat)(n value:Int)(ha:a<8)(hb:b<8)(hn:-1048576≤n∧n≤1048575)(hn8:0≤n∧n<8)(hv:WordZ value):Calls Tryd.prog 79 #[.pointer (some ⟨cb,0,none⟩),.iface t v,.agg #[.int .i64 3,.int .i64 a,.int .i64 b,.int .i64 n],.int .i64 value] w (DoPost St w0 D cb gr cr vm m x (doM m 3 a b n value)):=by
 have HOK:=Lib.hid (za9 hm 3 a b n value (by unfold WordZ;omega) hv)
 have c0:w.cell? ⟨cb,0,none⟩=some (.slice (some ⟨gr,0,none⟩) 8 cr):=zaa h.box 0
 have c1:w.cell? ⟨cb,1,none⟩=some (.int .i64 m.pc):=zaa h.box 1
 have f1:=zab h.box 1
 have ra:=h.reg_at ha
 have rb:=h.reg_at hb
 have fa:=h.reg_free a
 have lc:=h.clt
 have lr:=h.rlt
 have hpc:=hm.pc
 have hne1:¬gr=cb:=h.rne
 have hne2:¬cb=gr:=fun e=>h.rne e.symm
 have ha':(a:Int)<8:=by omega
 have hb':(b:Int)<8:=by omega
 have wa:=hm.wreg a
 have wb:=hm.wreg b
 have w1:IntKind.i64.wrap (m.pc+1)=m.pc+1:=IntWalk.i64_in _ (by omega)
 have HH:=Lib.hid h
 have HM:=Lib.hid hM
 have HMO:=Lib.hid hm
 obtain⟨k,rfl⟩:∃k:Nat,n=(k:Int):=⟨n.toNat,by omega⟩
 have hk:k<8:=by omega
 have hk':(k:Int)<8:=by omega
 have rn:=h.reg_at hk
 have wn:=hm.wreg k
 have w2:IntKind.i64.wrap (m.reg b-m.reg k)=m.reg b-m.reg k:=IntWalk.i64_in _ (by unfold WordZ at wb wn;omega)
 have hf1:-4398046511104≤m.reg b-m.reg k:=by unfold WordZ at wb wn;omega
 have hf2:m.reg b-m.reg k≤4398046511104:=by unfold WordZ at wb wn;omega
 rw[show doM m 3 a b k value=((m.setReg a (zaH (m.reg b-m.reg k))).goTo (m.pc+1),0,-1) from rfl] at HOK ⊢
 clear h hm hM
 generalize hz:m.reg b-m.reg k=z at *
 go_enter Tryd.func79,Tryd.ntmps79
 go_upto_block 0 with fail
 go_cut [10] from 28 (fun s10 wx=>s10=.int .i64 (m.pc+1)∧Hid (GSt St w0 D cb gr cr vm (m.setReg a (zaH z)) (-1) x ao co F wx))
 case first=>
  go_wp2_with fail
  go_region_with (go_at_call 85;refine(zav _ _ (by omega) (by omega)).mono ?_;rintro e w' ⟨rfl,rfl⟩)
  all_goals (go_wp2_with fail;go_meet)
  all_goals exact⟨rfl,Lib.hid (((HH.out.setReg HM.out a (zaH z)).alloc HM.out _).drew HM.out)⟩
 case rest=>
  obtain⟨rfl,HX⟩:=hcut
  clear c0 c1 f1 ra rb fa lc lr
  have f1:=zab HX.out.box 1
  have c1:wc.cell? ⟨cb,1,none⟩=some (.int .i64 m.pc):=zaa HX.out.box 1
  have lc:=HX.out.clt
  go_wp2_with (go_at_call 85;refine(zav _ _ (by omega) (by omega)).mono ?_;rintro e w' ⟨rfl,rfl⟩)
  go_ret
  refine DoPost.ok HOK.out rfl ?_
  exact(GSt.put HM.out HX.out 1 _ ((m.setReg a (zaH z)).goTo (m.pc+1)) (-1) rfl rfl rfl rfl).gs
theorem do_7{t fL fS:Nat}{v:Value}{St:World→(Nat→Prop)→List Int→Bool→Prop}(hM:MemI t fL fS v St){w0 w:World}{D:Nat→Prop}{cb gr cr:Nat}{vm:Value}{m:Mach}{x:Bool}{ao:Option Addr}{co:Nat}{F:Nat→Prop}(h:GSt St w0 D cb gr cr vm m (-1) x ao co F w)(hm:MOk m)(a b:Nat)(n value:Int)(ha:a<8)(hb:b<8)(hn:-1048576≤n∧n≤1048575)(hv:WordZ value):Calls Tryd.prog 79 #[.pointer (some ⟨cb,0,none⟩),.iface t v,.agg #[.int .i64 7,.int .i64 a,.int .i64 b,.int .i64 n],.int .i64 value] w (DoPost St w0 D cb gr cr vm m x (doM m 7 a b n value)):=by
 have HOK:=Lib.hid (za9 hm 7 a b n value (by unfold WordZ;omega) hv)
 have c0:w.cell? ⟨cb,0,none⟩=some (.slice (some ⟨gr,0,none⟩) 8 cr):=zaa h.box 0
 have c1:w.cell? ⟨cb,1,none⟩=some (.int .i64 m.pc):=zaa h.box 1
 have f1:=zab h.box 1
 have ra:=h.reg_at ha
 have rb:=h.reg_at hb
 have fa:=h.reg_free a
 have lc:=h.clt
 have lr:=h.rlt
 have hpc:=hm.pc
 have hne1:¬gr=cb:=h.rne
 have hne2:¬cb=gr:=fun e=>h.rne e.symm
 have ha':(a:Int)<8:=by omega
 have hb':(b:Int)<8:=by omega
 have wa:=hm.wreg a
 have wb:=hm.wreg b
 have w1:IntKind.i64.wrap (m.pc+1)=m.pc+1:=IntWalk.i64_in _ (by omega)
 have HH:=Lib.hid h
 have HM:=Lib.hid hM
 have HMO:=Lib.hid hm
 have w2:IntKind.i64.wrap (m.pc+n)=m.pc+n:=IntWalk.i64_in _ (by omega)
 generalize hra:m.reg a=z at *
 by_cases hz:z=0
 ·
  have hzb:(z == 0)=true:=by rw[hz];rfl
  rw[show doM m 7 a b n value=(m.goTo (m.pc+n),0,-1) from (by show (m.goTo (if m.reg a=0 then _ else _),_)=_;rw[hra,if_pos hz])] at HOK ⊢
  clear h hm hM
  go_enter Tryd.func79,Tryd.ntmps79
  go_wp2_with (go_at_call 85;refine(zav _ _ (by omega) (by omega)).mono ?_;rintro e w' ⟨rfl,rfl⟩)
  go_quiet (fail)
  go_wp2_with (go_at_call 85;refine(zav _ _ (by omega) (by omega)).mono ?_;rintro e w' ⟨rfl,rfl⟩)
  go_ret
  refine DoPost.ok HOK.out rfl ?_
  exact(GSt.put HM.out ((HH.out.alloc HM.out _).drewN HM.out _) 1 _ (m.goTo (m.pc+n)) (-1) rfl rfl rfl rfl).gs
 ·
  have hzb:(z == 0)=false:=by rw[beq_eq_false_iff_ne];exact hz
  rw[show doM m 7 a b n value=(m.goTo (m.pc+1),0,-1) from (by show (m.goTo (if m.reg a=0 then _ else _),_)=_;rw[hra,if_neg hz])] at HOK ⊢
  clear h hm hM
  go_enter Tryd.func79,Tryd.ntmps79
  go_wp2_with (go_at_call 85;refine(zav _ _ (by omega) (by omega)).mono ?_;rintro e w' ⟨rfl,rfl⟩)
  go_ret
  refine DoPost.ok HOK.out rfl ?_
  exact(GSt.alloc HM.out (GSt.put HM.out HH.out 1 _ (m.goTo (m.pc+1)) (-1) rfl rfl rfl rfl) _).gs
theorem do_8{t fL fS:Nat}{v:Value}{St:World→(Nat→Prop)→List Int→Bool→Prop}(hM:MemI t fL fS v St){w0 w:World}{D:Nat→Prop}{cb gr cr:Nat}{vm:Value}{m:Mach}{x:Bool}{ao:Option Addr}{co:Nat}{F:Nat→Prop}(h:GSt St w0 D cb gr cr vm m (-1) x ao co F w)(hm:MOk m)(a b:Nat)(n value:Int)(ha:a<8)(hb:b<8)(hn:-1048576≤n∧n≤1048575)(hv:WordZ value):Calls Tryd.prog 79 #[.pointer (some ⟨cb,0,none⟩),.iface t v,.agg #[.int .i64 8,.int .i64 a,.int .i64 b,.int .i64 n],.int .i64 value] w (DoPost St w0 D cb gr cr vm m x (doM m 8 a b n value)):=by
 have HOK:=Lib.hid (za9 hm 8 a b n value (by unfold WordZ;omega) hv)
 have c0:w.cell? ⟨cb,0,none⟩=some (.slice (some ⟨gr,0,none⟩) 8 cr):=zaa h.box 0
 have c1:w.cell? ⟨cb,1,none⟩=some (.int .i64 m.pc):=zaa h.box 1
 have f1:=zab h.box 1
 have ra:=h.reg_at ha
 have rb:=h.reg_at hb
 have fa:=h.reg_free a
 have lc:=h.clt
 have lr:=h.rlt
 have hpc:=hm.pc
 have hne1:¬gr=cb:=h.rne
 have hne2:¬cb=gr:=fun e=>h.rne e.symm
 have ha':(a:Int)<8:=by omega
 have hb':(b:Int)<8:=by omega
 have wa:=hm.wreg a
 have wb:=hm.wreg b
 have w1:IntKind.i64.wrap (m.pc+1)=m.pc+1:=IntWalk.i64_in _ (by omega)
 have HH:=Lib.hid h
 have HM:=Lib.hid hM
 have HMO:=Lib.hid hm
 have w2:IntKind.i64.wrap (m.pc+n)=m.pc+n:=IntWalk.i64_in _ (by omega)
 generalize hra:m.reg a=z at *
 by_cases hz:z<0
 ·
  have hzb:decide (z<0)=true:=decide_eq_true hz
  rw[show doM m 8 a b n value=(m.goTo (m.pc+n),0,-1) from (by show (m.goTo (if m.reg a<0 then _ else _),_)=_;rw[hra,if_pos hz])] at HOK ⊢
  clear h hm hM
  go_enter Tryd.func79,Tryd.ntmps79
  go_wp2_with (go_at_call 85;refine(zav _ _ (by omega) (by omega)).mono ?_;rintro e w' ⟨rfl,rfl⟩)
  go_quiet (fail)
  go_wp2_with (go_at_call 85;refine(zav _ _ (by omega) (by omega)).mono ?_;rintro e w' ⟨rfl,rfl⟩)
  go_ret
  refine DoPost.ok HOK.out rfl ?_
  exact(GSt.put HM.out ((HH.out.alloc HM.out _).drewN HM.out _) 1 _ (m.goTo (m.pc+n)) (-1) rfl rfl rfl rfl).gs
 ·
  have hzb:decide (z<0)=false:=decide_eq_false hz
  rw[show doM m 8 a b n value=(m.goTo (m.pc+1),0,-1) from (by show (m.goTo (if m.reg a<0 then _ else _),_)=_;rw[hra,if_neg hz])] at HOK ⊢
  clear h hm hM
  go_enter Tryd.func79,Tryd.ntmps79
  go_wp2_with (go_at_call 85;refine(zav _ _ (by omega) (by omega)).mono ?_;rintro e w' ⟨rfl,rfl⟩)
  go_ret
  refine DoPost.ok HOK.out rfl ?_
  exact(GSt.alloc HM.out (GSt.put HM.out HH.out 1 _ (m.goTo (m.pc+1)) (-1) rfl rfl rfl rfl) _).gs
theorem do_9{t fL fS:Nat}{v:Value}{St:World→(Nat→Prop)→List Int→Bool→Prop}(hM:MemI t fL fS v St){w0 w:World}{D:Nat→Prop}{cb gr cr:Nat}{vm:Value}{m:Mach}{x:Bool}{ao:Option Addr}{co:Nat}{F:Nat→Prop}(h:GSt St w0 D cb gr cr vm m (-1) x ao co F w)(hm:MOk m)(a b:Nat)(n value:Int)(ha:a<8)(hb:b<8)(hn:-1048576≤n∧n≤1048575)(hv:WordZ value):Calls Tryd.prog 79 #[.pointer (some ⟨cb,0,none⟩),.iface t v,.agg #[.int .i64 9,.int .i64 a,.int .i64 b,.int .i64 n],.int .i64 value] w (DoPost St w0 D cb gr cr vm m x (doM m 9 a b n value)):=by
 have HOK:=Lib.hid (za9 hm 9 a b n value (by unfold WordZ;omega) hv)
 have c0:w.cell? ⟨cb,0,none⟩=some (.slice (some ⟨gr,0,none⟩) 8 cr):=zaa h.box 0
 have c1:w.cell? ⟨cb,1,none⟩=some (.int .i64 m.pc):=zaa h.box 1
 have f1:=zab h.box 1
 have ra:=h.reg_at ha
 have rb:=h.reg_at hb
 have fa:=h.reg_free a
 have lc:=h.clt
 have lr:=h.rlt
 have hpc:=hm.pc
 have hne1:¬gr=cb:=h.rne
 have hne2:¬cb=gr:=fun e=>h.rne e.symm
 have ha':(a:Int)<8:=by omega
 have hb':(b:Int)<8:=by omega
 have wa:=hm.wreg a
 have wb:=hm.wreg b
 have w1:IntKind.i64.wrap (m.pc+1)=m.pc+1:=IntWalk.i64_in _ (by omega)
 have HH:=Lib.hid h
 have HM:=Lib.hid hM
 have HMO:=Lib.hid hm
 have w2:IntKind.i64.wrap (m.pc+n)=m.pc+n:=IntWalk.i64_in _ (by omega)
 rw[show doM m 9 a b n value=(m.goTo (m.pc+n),0,-1) from rfl] at HOK ⊢
 clear h hm hM
 go_enter Tryd.func79,Tryd.ntmps79
 go_wp2_with (go_at_call 85;refine(zav _ _ (by omega) (by omega)).mono ?_;rintro e w' ⟨rfl,rfl⟩)
 go_quiet (fail)
 go_wp2_with (go_at_call 85;refine(zav _ _ (by omega) (by omega)).mono ?_;rintro e w' ⟨rfl,rfl⟩)
 go_ret
 refine DoPost.ok HOK.out rfl ?_
 exact(GSt.put HM.out ((HH.out.alloc HM.out _).drewN HM.out _) 1 _ (m.goTo (m.pc+n)) (-1) rfl rfl rfl rfl).gs
theorem zk2{t fL fS:Nat}{v:Value}{St:World→(Nat→Prop)→List Int→Bool→Prop}(hM:MemI t fL fS v St){w0 w:World}{D:Nat→Prop}{cb gr cr:Nat}{vm:Value}{m:Mach}{x:Bool}{ao:Option Addr}{co:Nat}{F:Nat→Prop}(h:GSt St w0 D cb gr cr vm m (-1) x ao co F w)(hm:MOk m)(a b:Nat)(n value:Int)(ha:a<8)(hb:b<8)(hn:-1048576≤n∧n≤1048575)(hv:WordZ value):Calls Tryd.prog 79 #[.pointer (some ⟨cb,0,none⟩),.iface t v,.agg #[.int .i64 12,.int .i64 a,.int .i64 b,.int .i64 n],.int .i64 value] w (DoPost St w0 D cb gr cr vm m x (doM m 12 a b n value)):=by
 have HOK:=Lib.hid (za9 hm 12 a b n value (by unfold WordZ;omega) hv)
 have c0:w.cell? ⟨cb,0,none⟩=some (.slice (some ⟨gr,0,none⟩) 8 cr):=zaa h.box 0
 have c1:w.cell? ⟨cb,1,none⟩=some (.int .i64 m.pc):=zaa h.box 1
 have f1:=zab h.box 1
 have ra:=h.reg_at ha
 have rb:=h.reg_at hb
 have fa:=h.reg_free a
 have lc:=h.clt
 have lr:=h.rlt
 have hpc:=hm.pc
 have hne1:¬gr=cb:=h.rne
 have hne2:¬cb=gr:=fun e=>h.rne e.symm
 have ha':(a:Int)<8:=by omega
 have hb':(b:Int)<8:=by omega
 have wa:=hm.wreg a
 have wb:=hm.wreg b
 have w1:IntKind.i64.wrap (m.pc+1)=m.pc+1:=IntWalk.i64_in _ (by omega)
 have HH:=Lib.hid h
 have HM:=Lib.hid hM
 have HMO:=Lib.hid hm
 have f3:=zab h.box 3
 have c3:w.cell? ⟨cb,3,none⟩=some (.bool m.ints):=zaa h.box 3
 rw[show doM m 12 a b n value=(({m with ints:=decide (n=1)}:Mach).goTo (m.pc+1),0,-1) from rfl] at HOK ⊢
 clear h hm hM
 by_cases hn1:n=1
 ·
  subst hn1
  go_enter Tryd.func79,Tryd.ntmps79
  go_wp2_with (go_at_call 85;refine(zav _ _ (by omega) (by omega)).mono ?_;rintro e w' ⟨rfl,rfl⟩)
  go_ret
  refine DoPost.ok HOK.out rfl ?_
  exact(GSt.alloc HM.out (GSt.put HM.out (GSt.put HM.out HH.out 3 _ ({m with ints:=true}:Mach) (-1) rfl rfl rfl rfl) 1 _ (({m with ints:=true}:Mach).goTo (m.pc+1)) (-1) rfl rfl rfl rfl) _).gs
 ·
  have hnb:(n == 1)=false:=by rw[beq_eq_false_iff_ne];exact hn1
  have hnd:decide (n=1)=false:=decide_eq_false hn1
  rw[hnd] at HOK ⊢
  clear hn1
  go_enter Tryd.func79,Tryd.ntmps79
  go_wp2_with (go_at_call 85;refine(zav _ _ (by omega) (by omega)).mono ?_;rintro e w' ⟨rfl,rfl⟩)
  go_ret
  refine DoPost.ok HOK.out rfl ?_
  exact(GSt.alloc HM.out (GSt.put HM.out (GSt.put HM.out HH.out 3 _ ({m with ints:=false}:Mach) (-1) rfl rfl rfl rfl) 1 _ (({m with ints:=false}:Mach).goTo (m.pc+1)) (-1) rfl rfl rfl rfl) _).gs
theorem zk3{t fL fS:Nat}{v:Value}{St:World→(Nat→Prop)→List Int→Bool→Prop}(hM:MemI t fL fS v St){w0 w:World}{D:Nat→Prop}{cb gr cr:Nat}{vm:Value}{m:Mach}{x:Bool}{ao:Option Addr}{co:Nat}{F:Nat→Prop}(h:GSt St w0 D cb gr cr vm m (-1) x ao co F w)(hm:MOk m)(a b:Nat)(n value:Int)(ha:a<8)(hb:b<8)(hn:-1048576≤n∧n≤1048575)(hv:WordZ value):Calls Tryd.prog 79 #[.pointer (some ⟨cb,0,none⟩),.iface t v,.agg #[.int .i64 13,.int .i64 a,.int .i64 b,.int .i64 n],.int .i64 value] w (DoPost St w0 D cb gr cr vm m x (doM m 13 a b n value)):=by
 have HOK:=Lib.hid (za9 hm 13 a b n value (by unfold WordZ;omega) hv)
 have c0:w.cell? ⟨cb,0,none⟩=some (.slice (some ⟨gr,0,none⟩) 8 cr):=zaa h.box 0
 have c1:w.cell? ⟨cb,1,none⟩=some (.int .i64 m.pc):=zaa h.box 1
 have f1:=zab h.box 1
 have ra:=h.reg_at ha
 have rb:=h.reg_at hb
 have fa:=h.reg_free a
 have lc:=h.clt
 have lr:=h.rlt
 have hpc:=hm.pc
 have hne1:¬gr=cb:=h.rne
 have hne2:¬cb=gr:=fun e=>h.rne e.symm
 have ha':(a:Int)<8:=by omega
 have hb':(b:Int)<8:=by omega
 have wa:=hm.wreg a
 have wb:=hm.wreg b
 have w1:IntKind.i64.wrap (m.pc+1)=m.pc+1:=IntWalk.i64_in _ (by omega)
 have HH:=Lib.hid h
 have HM:=Lib.hid hM
 have HMO:=Lib.hid hm
 have f3:=zab h.box 3
 have c3:w.cell? ⟨cb,3,none⟩=some (.bool m.ints):=zaa h.box 3
 have c2:w.cell? ⟨cb,2,none⟩=some (.int .i64 m.back):=zaa h.box 2
 have hbk:=hm.back
 rw[show doM m 13 a b n value=(({m with ints:=true}:Mach).goTo m.back,0,-1) from rfl] at HOK ⊢
 clear h hm hM
 go_enter Tryd.func79,Tryd.ntmps79
 go_wp2_with (go_at_call 85;refine(zav _ _ (by omega) (by omega)).mono ?_;rintro e w' ⟨rfl,rfl⟩)
 go_ret
 refine DoPost.ok HOK.out rfl ?_
 exact(GSt.alloc HM.out (GSt.put HM.out (GSt.put HM.out HH.out 3 _ ({m with ints:=true}:Mach) (-1) rfl rfl rfl rfl) 1 _ (({m with ints:=true}:Mach).goTo m.back) (-1) rfl rfl rfl rfl) _).gs
theorem zk4{t fL fS:Nat}{v:Value}{St:World→(Nat→Prop)→List Int→Bool→Prop}(hM:MemI t fL fS v St){w0 w:World}{D:Nat→Prop}{cb gr cr:Nat}{vm:Value}{m:Mach}{x:Bool}{ao:Option Addr}{co:Nat}{F:Nat→Prop}(h:GSt St w0 D cb gr cr vm m (-1) x ao co F w)(hm:MOk m)(a b:Nat)(n value:Int)(ha:a<8)(hb:b<8)(hn:-1048576≤n∧n≤1048575)(hv:WordZ value):Calls Tryd.prog 79 #[.pointer (some ⟨cb,0,none⟩),.iface t v,.agg #[.int .i64 14,.int .i64 a,.int .i64 b,.int .i64 n],.int .i64 value] w (DoPost St w0 D cb gr cr vm m x (doM m 14 a b n value)):=by
 have HOK:=Lib.hid (za9 hm 14 a b n value (by unfold WordZ;omega) hv)
 have c0:w.cell? ⟨cb,0,none⟩=some (.slice (some ⟨gr,0,none⟩) 8 cr):=zaa h.box 0
 have c1:w.cell? ⟨cb,1,none⟩=some (.int .i64 m.pc):=zaa h.box 1
 have f1:=zab h.box 1
 have ra:=h.reg_at ha
 have rb:=h.reg_at hb
 have fa:=h.reg_free a
 have lc:=h.clt
 have lr:=h.rlt
 have hpc:=hm.pc
 have hne1:¬gr=cb:=h.rne
 have hne2:¬cb=gr:=fun e=>h.rne e.symm
 have ha':(a:Int)<8:=by omega
 have hb':(b:Int)<8:=by omega
 have wa:=hm.wreg a
 have wb:=hm.wreg b
 have w1:IntKind.i64.wrap (m.pc+1)=m.pc+1:=IntWalk.i64_in _ (by omega)
 have HH:=Lib.hid h
 have HM:=Lib.hid hM
 have HMO:=Lib.hid hm
 have f5:=zab h.box 5
 have c5:w.cell? ⟨cb,5,none⟩=some (.int .i64 m.table):=zaa h.box 5
 generalize hra:m.reg a=z at *
 by_cases hz:z < -1∨16≤z
 ·
  rw[show doM m 14 a b n value=(m,3,-1) from (by show (if m.reg a < -1∨16≤m.reg a then _ else _)=_;rw[hra,if_pos hz])] at HOK ⊢
  clear h hm hM
  rcases hz with hz|hz
  ·
   have hz1:decide (z < -1)=true:=decide_eq_true hz
   go_enter Tryd.func79,Tryd.ntmps79
   go_wp2_with (go_at_call 85;refine(zav _ _ (by omega) (by omega)).mono ?_;rintro e w' ⟨rfl,rfl⟩)
   go_ret
   exact DoPost.ok HOK.out rfl (GSt.alloc HM.out HH.out _).gs
  ·
   have hz1:¬z < -1:=by omega
   go_enter Tryd.func79,Tryd.ntmps79
   go_wp2_with (go_at_call 85;refine(zav _ _ (by omega) (by omega)).mono ?_;rintro e w' ⟨rfl,rfl⟩)
   go_ret
   exact DoPost.ok HOK.out rfl (GSt.alloc HM.out HH.out _).gs
 ·
  have hz1:¬z < -1:=by omega
  have hz2:¬16≤z:=by omega
  rw[show doM m 14 a b n value=(({m with table:=z}:Mach).goTo (m.pc+1),0,-1) from (by show (if m.reg a < -1∨16≤m.reg a then _ else _)=_;rw[hra,if_neg hz])] at HOK ⊢
  clear h hm hM
  clear hz
  go_enter Tryd.func79,Tryd.ntmps79
  go_wp2_with (go_at_call 85;refine(zav _ _ (by omega) (by omega)).mono ?_;rintro e w' ⟨rfl,rfl⟩)
  go_ret
  refine DoPost.ok HOK.out rfl ?_
  exact(GSt.alloc HM.out (GSt.put HM.out (GSt.put HM.out HH.out 5 _ ({m with table:=z}:Mach) (-1) rfl rfl rfl rfl) 1 _ (({m with table:=z}:Mach).goTo (m.pc+1)) (-1) rfl rfl rfl rfl) _).gs
def zkq(St:World→(Nat→Prop)→List Int→Bool→Prop)(w0:World)(D:Nat→Prop)(cb gr cr:Nat)(vm:Value)(m:Mach)(wrote:Int)(x:Bool)(pz:Int×Int)(z:Int)(F:Nat→Prop)(w:World)(e:Ending)(w':World):Prop:=
 ∃en m' wr' x',e=.returned (.int .i64 en)∧GS St w0 D cb gr cr vm m' wr' x' w'∧(∀g i,g<w.heap.size→¬F g→g≠cb→w'.cell? ⟨g,i,none⟩=w.cell? ⟨g,i,none⟩)∧((x'=x∧((pz.2=0∧en=0∧m'={m with mem:=m.mem.set pz.1.toNat z}∧wr'=pz.1)∨(pz.2≠0∧en=pz.2∧m'=m∧wr'=wrote)))∨(x'=true∧m'=m∧en=3))
theorem zhf{t fL fS:Nat}{v:Value}{St:World→(Nat→Prop)→List Int→Bool→Prop}(hM:MemI t fL fS v St){w0 w:World}{D:Nat→Prop}{cb gr cr:Nat}{vm:Value}{m:Mach}{wrote:Int}{x:Bool}{ao:Option Addr}{co:Nat}{F:Nat→Prop}(h:GSt St w0 D cb gr cr vm m wrote x ao co F w)(ht:-1≤m.table∧m.table<16)(at_ z:Int)(hz:WordZ z):Calls Tryd.prog 86 #[.pointer (some ⟨cb,0,none⟩),.iface t v,.int .i64 at_,.int .i64 z] w (zkq St w0 D cb gr cr vm m wrote x (zan m.table m.mem at_ true) z F w):=by
 have HPL:=Lib.hid (zd6 hM w F m.mem x h.mem cb m.table (zaa h.box 5) ht at_ true)
 have hb:=za2 m.table m.mem at_ true
 generalize zan m.table m.mem at_ true=pz at *
 obtain⟨k,e⟩:=pz
 simp only at hb
 have nS:=hM.nS
 have mS:=hM.mS
 have eS:=hM.eS
 have hk1:=hb.1
 have hk2:=hb.2.1
 have HH:=Lib.hid h
 have HM:=Lib.hid hM
 have HS:=Lib.hid (fun n=>hM.store ((w.drewN n).setCell ⟨cb,12,none⟩ (.int .i64 k)) F m.mem x k z ((GSt.put hM (h.drewN hM n) 12 (.int .i64 k) m k rfl rfl rfl rfl).mem) hb.1 hb.2.1 hz)
 have lc:=h.clt
 have c12:w.cell? ⟨cb,12,none⟩=some (.int .i64 wrote):=zaa h.box 12
 have f12:=zab h.box 12
 clear hM h hb
 go_enter Tryd.func86,Tryd.ntmps86
 go_wp2_with fail
 refine HPL.out.mono ?_
 rintro en w1 ⟨rfl,n,rfl⟩
 by_cases he:e=0
 ·
  subst he
  clear HPL
  go_wp2_with ((with_reducible refine(HS.out n).mono ?_);rintro en w2 ⟨ho,F',hF,⟨rfl,hs⟩|⟨rfl,hs⟩⟩)
  ·
   have HX:=Lib.hid (GSt.stored (GSt.put HM.out (HH.out.drewN HM.out n) 12 (.int .i64 k) m k rfl rfl rfl rfl) ho hF hs)
   have HC:Hid (∀g i,g<w.heap.size→¬F g→g≠cb→w2.cell? ⟨g,i,none⟩=w.cell? ⟨g,i,none⟩):=Lib.hid (fun g i h1 h2 h3=>(World.cell?_of_block (ho.block g (by simp[World.setCell];exact h1) h2)).trans (World.cell?_of_block (Below.heap_setCell (w.drewN n) _ _ _ h3)))
   clear ho hF hs
   go_wp2_with fail
   go_ret
   exact⟨0,_,_,_,rfl,HX.out.gs,HC.out,Or.inl ⟨rfl,Or.inl ⟨rfl,rfl,rfl,rfl⟩⟩⟩
  ·
   have HX:=Lib.hid (GSt.stored (GSt.put HM.out (HH.out.drewN HM.out n) 12 (.int .i64 k) m k rfl rfl rfl rfl) ho hF hs)
   have HC:Hid (∀g i,g<w.heap.size→¬F g→g≠cb→w2.cell? ⟨g,i,none⟩=w.cell? ⟨g,i,none⟩):=Lib.hid (fun g i h1 h2 h3=>(World.cell?_of_block (ho.block g (by simp[World.setCell];exact h1) h2)).trans (World.cell?_of_block (Below.heap_setCell (w.drewN n) _ _ _ h3)))
   clear ho hF hs
   go_wp2_with fail
   go_ret
   exact⟨3,_,_,_,rfl,HX.out.gs,HC.out,Or.inr ⟨rfl,rfl,rfl⟩⟩
 ·
  have hen:(e != 0)=true:=by rw[bne_iff_ne];exact he
  have HE:=Lib.hid he
  clear HPL he
  go_wp2_with fail
  go_ret
  exact⟨e,m,wrote,x,rfl,(HH.out.drewN HM.out n).gs,fun _ _ _ _ _=>rfl,Or.inl ⟨rfl,Or.inr ⟨HE.out,rfl,rfl,rfl⟩⟩⟩
theorem do_5{t fL fS:Nat}{v:Value}{St:World→(Nat→Prop)→List Int→Bool→Prop}(hM:MemI t fL fS v St){w0 w:World}{D:Nat→Prop}{cb gr cr:Nat}{vm:Value}{m:Mach}{x:Bool}{ao:Option Addr}{co:Nat}{F:Nat→Prop}(h:GSt St w0 D cb gr cr vm m (-1) x ao co F w)(hm:MOk m)(a b:Nat)(n value:Int)(ha:a<8)(hb:b<8)(hn:-1048576≤n∧n≤1048575)(hv:WordZ value):Calls Tryd.prog 79 #[.pointer (some ⟨cb,0,none⟩),.iface t v,.agg #[.int .i64 5,.int .i64 a,.int .i64 b,.int .i64 n],.int .i64 value] w (DoPost St w0 D cb gr cr vm m x (doM m 5 a b n value)):=by
 have HOK:=Lib.hid (za9 hm 5 a b n value (by unfold WordZ;omega) hv)
 have c0:w.cell? ⟨cb,0,none⟩=some (.slice (some ⟨gr,0,none⟩) 8 cr):=zaa h.box 0
 have c1:w.cell? ⟨cb,1,none⟩=some (.int .i64 m.pc):=zaa h.box 1
 have f1:=zab h.box 1
 have ra:=h.reg_at ha
 have rb:=h.reg_at hb
 have fa:=h.reg_free a
 have lc:=h.clt
 have lr:=h.rlt
 have hpc:=hm.pc
 have hne1:¬gr=cb:=h.rne
 have hne2:¬cb=gr:=fun e=>h.rne e.symm
 have ha':(a:Int)<8:=by omega
 have hb':(b:Int)<8:=by omega
 have wa:=hm.wreg a
 have wb:=hm.wreg b
 have w1:IntKind.i64.wrap (m.pc+1)=m.pc+1:=IntWalk.i64_in _ (by omega)
 have HH:=Lib.hid h
 have HM:=Lib.hid hM
 have HMO:=Lib.hid hm
 have w2:IntKind.i64.wrap (m.reg b+n)=m.reg b+n:=IntWalk.i64_in _ (by unfold WordZ at wb;omega)
 have HLD:=Lib.hid (fun (O:Obj) (q:Nat)=>zfE hM ((w.alloc O).drewN q) F m.mem x ((h.alloc hM O).drewN hM q).mem cb m.table (zaa ((h.alloc hM O).drewN hM q).box 5) hm.table (m.reg b+n))
 have hq:doM m 5 a b n value=if (zbr m.table m.mem (m.reg b+n)).2=0 then ((m.setReg a (zbr m.table m.mem (m.reg b+n)).1).goTo (m.pc+1),0,-1) else (m,(zbr m.table m.mem (m.reg b+n)).2,-1):=by
  show (if (zan m.table m.mem (m.reg b+n) false).2=0 then _ else _)=_
  unfold zbr
  by_cases k:(zan m.table m.mem (m.reg b+n) false).2=0
  ·rw[if_pos k,if_pos k,if_pos rfl]
  ·rw[if_neg k,if_neg k,if_neg k]
 rw[hq] at HOK ⊢
 clear hq
 generalize zbr m.table m.mem (m.reg b+n)=lz at *
 generalize hzz:m.reg b+n=zz at *
 obtain⟨z,e⟩:=lz
 dsimp only at HOK HLD ⊢
 clear h hm hM
 by_cases he:e=0
 ·
  subst he
  rw[if_pos rfl] at HOK ⊢
  go_enter Tryd.func79,Tryd.ntmps79
  go_wp2_with fail
  go_quiet ((go_at_call 83;refine(HLD.out _ _).mono ?_;rintro e w1 ⟨rfl,n1,rfl⟩;exact⟨rfl,_,World.drewN_drewN _ _ _⟩))
  go_wp2_with (go_at_call 85;refine(zav _ _ (by omega) (by omega)).mono ?_;rintro e w' ⟨rfl,rfl⟩)
  go_ret
  refine DoPost.ok HOK.out rfl ?_
  exact(GSt.put HM.out (GSt.setReg HM.out ((HH.out.alloc HM.out _).drewN HM.out _) a z) 1 _ ((m.setReg a z).goTo (m.pc+1)) (-1) rfl rfl rfl rfl).gs
 ·
  rw[if_neg he] at HOK ⊢
  have hen:(e != 0)=true:=by rw[bne_iff_ne];exact he
  clear he
  go_enter Tryd.func79,Tryd.ntmps79
  go_wp2_with fail
  go_quiet ((go_at_call 83;refine(HLD.out _ _).mono ?_;rintro e w1 ⟨rfl,n1,rfl⟩;exact⟨rfl,_,World.drewN_drewN _ _ _⟩))
  go_wp2_with fail
  go_ret
  exact DoPost.ok HOK.out rfl ((HH.out.alloc HM.out _).drewN HM.out _).gs
end Go.Proofs.YtflonfcemlfbdaaDoor
