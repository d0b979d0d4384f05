/- Several texts joined, each with its own heading in the notes: The contract of a core's port. The contract of a core's do, operations 10 and 11. The contract of a core's do, operation 6. No condition beyond those of each row. -/
import Derived.Test.YtflonfcemlfbdaaDoorYCpu1
import Derived.Test.YtflonfcemlfbdaaDoorYCl
import Derived.Deep.RegionWith
import Derived.Deep.RegionLaw
import Derived.Deep.CutBlock
import Derived.Deep.RegionHeld3
import Derived.Test.YtflonfcemlfbdaaDoorYOc
namespace Go.Proofs.YtflonfcemlfbdaaDoor
open Go Go.RowKit Go.ChangeShapes Go.WideShapes Go.Deep
set_option maxHeartbeats 4000000
set_option maxRecDepth 100000
set_option linter.unusedVariables false
attribute [local go_sem ↓] Go.wp_at_zero Go.wp_at_succ
def zbj(St:World→(Nat→Prop)→List Int→Bool→Prop)(w0:World)(D:Nat→Prop)(cb gr cr:Nat)(vm:Value)(m':Mach)(en:Int)(x:Bool)(e:Ending)(w':World):Prop:=e=.returned (.int .i64 en)∧GS St w0 D cb gr cr vm m' (-1) x w'
theorem zgc{t fL fS:Nat}{v:Value}{St:World→(Nat→Prop)→List Int→Bool→Prop}(hM:MemI t fL fS v St){w0 w:World}{D:Nat→Prop}{cb gr cr:Nat}{vm:Value}{m:Mach}{x:Bool}{ao:Option Addr}{co:Nat}{F:Nat→Prop}(h:GSt St w0 D cb gr cr vm m (-1) x ao co F w)(hm:MOk m)(a b:Nat)(n value:Int)(ha:a<8)(hn:n=0∨n=1):Calls Tryd.prog 87 #[.pointer (some ⟨cb,0,none⟩),.agg #[.int .i64 10,.int .i64 a,.int .i64 b,.int .i64 n],.int .i64 value] w (zbj St w0 D cb gr cr vm (m.setReg a value) 0 x):=by
 have c0:w.cell? ⟨cb,0,none⟩=some (.slice (some ⟨gr,0,none⟩) 8 cr):=zaa h.box 0
 have ra:=h.reg_at ha
 have fa:=h.reg_free a
 have lc:=h.clt
 have lr:=h.rlt
 have hne1:¬gr=cb:=h.rne
 have hne2:¬cb=gr:=fun e=>h.rne e.symm
 have ha':(a:Int)<8:=by omega
 generalize hz:m.reg a=z at *
 have hn0:(n == 0)=true∨((n == 0)=false∧(n == 1)=true):=by
  rcases hn with rfl|rfl
  ·exact Or.inl rfl
  ·exact Or.inr ⟨rfl,rfl⟩
 clear hn
 have HH:=Lib.hid h
 have HM:=Lib.hid hM
 clear h hM hm
 go_enter Tryd.func87,Tryd.ntmps87
 go_wp2_with fail
 go_quiet (fail)
 rcases hn0 with h1|⟨h1,h2⟩
 ·
  go_wp2_with fail
  go_region
  all_goals (go_wp2_with fail;go_ret;(first|exact⟨rfl,GSt.gs (GSt.drew HM.out (GSt.setReg HM.out ((HH.out.alloc HM.out _).drewN HM.out _) a value))⟩|exact⟨rfl,GSt.gs (GSt.setReg HM.out (GSt.drew HM.out ((HH.out.alloc HM.out _).drewN HM.out _)) a value)⟩|exact⟨rfl,GSt.gs (GSt.setReg HM.out ((HH.out.alloc HM.out _).drewN HM.out _) a value)⟩))
 ·
  go_wp2_with fail
  go_region
  all_goals (go_wp2_with fail;go_ret;(first|exact⟨rfl,GSt.gs (GSt.drew HM.out (GSt.setReg HM.out ((HH.out.alloc HM.out _).drewN HM.out _) a value))⟩|exact⟨rfl,GSt.gs (GSt.setReg HM.out (GSt.drew HM.out ((HH.out.alloc HM.out _).drewN HM.out _)) a value)⟩|exact⟨rfl,GSt.gs (GSt.setReg HM.out ((HH.out.alloc HM.out _).drewN HM.out _) a value)⟩))
theorem zgd{t fL fS:Nat}{v:Value}{St:World→(Nat→Prop)→List Int→Bool→Prop}(hM:MemI t fL fS v St){w0 w:World}{D:Nat→Prop}{cb gr cr:Nat}{vm:Value}{m:Mach}{x:Bool}{ao:Option Addr}{co:Nat}{F:Nat→Prop}(h:GSt St w0 D cb gr cr vm m (-1) x ao co F w)(hm:MOk m)(a b:Nat)(n value:Int)(ha:a<8):Calls Tryd.prog 87 #[.pointer (some ⟨cb,0,none⟩),.agg #[.int .i64 10,.int .i64 a,.int .i64 b,.int .i64 2],.int .i64 value] w (zbj St w0 D cb gr cr vm (m.setReg a m.ready) 0 x):=by
 have c0:w.cell? ⟨cb,0,none⟩=some (.slice (some ⟨gr,0,none⟩) 8 cr):=zaa h.box 0
 have ra:=h.reg_at ha
 have fa:=h.reg_free a
 have lc:=h.clt
 have lr:=h.rlt
 have hne1:¬gr=cb:=h.rne
 have hne2:¬cb=gr:=fun e=>h.rne e.symm
 have ha':(a:Int)<8:=by omega
 generalize hz:m.reg a=z at *
 have c10:w.cell? ⟨cb,10,none⟩=some (.int .i64 m.ready):=zaa h.box 10
 have HH:=Lib.hid h
 have HM:=Lib.hid hM
 clear h hM hm
 go_enter Tryd.func87,Tryd.ntmps87
 go_wp2_with fail
 go_quiet (fail)
 go_wp2_with fail
 go_region
 all_goals (go_wp2_with fail;go_ret;(first|exact⟨rfl,GSt.gs (GSt.drew HM.out (GSt.setReg HM.out ((HH.out.alloc HM.out _).drewN HM.out _) a m.ready))⟩|exact⟨rfl,GSt.gs (GSt.setReg HM.out (GSt.drew HM.out ((HH.out.alloc HM.out _).drewN HM.out _)) a m.ready)⟩|exact⟨rfl,GSt.gs (GSt.setReg HM.out ((HH.out.alloc HM.out _).drewN HM.out _) a m.ready)⟩))
theorem zhg{t fL fS:Nat}{v:Value}{St:World→(Nat→Prop)→List Int→Bool→Prop}(hM:MemI t fL fS v St){w0 w:World}{D:Nat→Prop}{cb gr cr:Nat}{vm:Value}{m:Mach}{x:Bool}{ao:Option Addr}{co:Nat}{F:Nat→Prop}(h:GSt St w0 D cb gr cr vm m (-1) x ao co F w)(hm:MOk m)(a b:Nat)(n value:Int)(ha:a<8)(hn:¬(n=0∨n=1))(hn2:¬n=2):Calls Tryd.prog 87 #[.pointer (some ⟨cb,0,none⟩),.agg #[.int .i64 10,.int .i64 a,.int .i64 b,.int .i64 n],.int .i64 value] w (zbj St w0 D cb gr cr vm (m) 3 x):=by
 have c0:w.cell? ⟨cb,0,none⟩=some (.slice (some ⟨gr,0,none⟩) 8 cr):=zaa h.box 0
 have ra:=h.reg_at ha
 have fa:=h.reg_free a
 have lc:=h.clt
 have lr:=h.rlt
 have hne1:¬gr=cb:=h.rne
 have hne2:¬cb=gr:=fun e=>h.rne e.symm
 have ha':(a:Int)<8:=by omega
 generalize hz:m.reg a=z at *
 have h0:(n == 0)=false:=by rw[beq_eq_false_iff_ne];exact fun e=>hn (Or.inl e)
 have h1:(n == 1)=false:=by rw[beq_eq_false_iff_ne];exact fun e=>hn (Or.inr e)
 have h2:(n == 2)=false:=by rw[beq_eq_false_iff_ne];exact hn2
 clear hn hn2
 have HH:=Lib.hid h
 have HM:=Lib.hid hM
 clear h hM hm
 go_enter Tryd.func87,Tryd.ntmps87
 go_wp2_with fail
 go_quiet (fail)
 go_wp2_with fail
 go_ret
 (first|exact⟨rfl,GSt.gs (((HH.out.alloc HM.out _).drewN HM.out _))⟩)
theorem zhh{t fL fS:Nat}{v:Value}{St:World→(Nat→Prop)→List Int→Bool→Prop}(hM:MemI t fL fS v St){w0 w:World}{D:Nat→Prop}{cb gr cr:Nat}{vm:Value}{m:Mach}{x:Bool}{ao:Option Addr}{co:Nat}{F:Nat→Prop}(h:GSt St w0 D cb gr cr vm m (-1) x ao co F w)(hm:MOk m)(a b:Nat)(n value:Int)(ha:a<8)(hl:¬m.out.length<200):Calls Tryd.prog 87 #[.pointer (some ⟨cb,0,none⟩),.agg #[.int .i64 11,.int .i64 a,.int .i64 b,.int .i64 3],.int .i64 value] w (zbj St w0 D cb gr cr vm (m) 0 x):=by
 have c0:w.cell? ⟨cb,0,none⟩=some (.slice (some ⟨gr,0,none⟩) 8 cr):=zaa h.box 0
 have ra:=h.reg_at ha
 have fa:=h.reg_free a
 have lc:=h.clt
 have lr:=h.rlt
 have hne1:¬gr=cb:=h.rne
 have hne2:¬cb=gr:=fun e=>h.rne e.symm
 have ha':(a:Int)<8:=by omega
 generalize hz:m.reg a=z at *
 have c9:w.cell? ⟨cb,9,none⟩=some (.slice ao m.out.length co):=zaa h.box 9
 have hl2:¬(m.out.length:Int)<200:=by omega
 clear hl
 have HH:=Lib.hid h
 have HM:=Lib.hid hM
 clear h hM hm
 go_enter Tryd.func87,Tryd.ntmps87
 go_wp2_with fail
 go_quiet (fail)
 go_wp2_with fail
 go_ret
 (first|exact⟨rfl,GSt.gs (((HH.out.alloc HM.out _).drewN HM.out _))⟩)
theorem ziB{t fL fS:Nat}{v:Value}{St:World→(Nat→Prop)→List Int→Bool→Prop}(hM:MemI t fL fS v St){w0 w:World}{D:Nat→Prop}{cb gr cr:Nat}{vm:Value}{m:Mach}{x:Bool}{ao:Option Addr}{co:Nat}{F:Nat→Prop}(h:GSt St w0 D cb gr cr vm m (-1) x ao co F w)(hm:MOk m)(a b:Nat)(n value:Int)(ha:a<8)(hr:0≤m.reg a∧m.reg a<16)(hw:¬m.want<0):Calls Tryd.prog 87 #[.pointer (some ⟨cb,0,none⟩),.agg #[.int .i64 11,.int .i64 a,.int .i64 b,.int .i64 4],.int .i64 value] w (zbj St w0 D cb gr cr vm (m) 0 x):=by
 have c0:w.cell? ⟨cb,0,none⟩=some (.slice (some ⟨gr,0,none⟩) 8 cr):=zaa h.box 0
 have ra:=h.reg_at ha
 have fa:=h.reg_free a
 have lc:=h.clt
 have lr:=h.rlt
 have hne1:¬gr=cb:=h.rne
 have hne2:¬cb=gr:=fun e=>h.rne e.symm
 have ha':(a:Int)<8:=by omega
 generalize hz:m.reg a=z at *
 have c11:w.cell? ⟨cb,11,none⟩=some (.int .i64 m.want):=zaa h.box 11
 obtain⟨hr1,hr2⟩:=hr
 have HH:=Lib.hid h
 have HM:=Lib.hid hM
 clear h hM hm
 go_enter Tryd.func87,Tryd.ntmps87
 go_wp2_with fail
 go_quiet (fail)
 go_wp2_with fail
 go_ret
 (first|exact⟨rfl,GSt.gs (((HH.out.alloc HM.out _).drewN HM.out _))⟩)
theorem zhi{t fL fS:Nat}{v:Value}{St:World→(Nat→Prop)→List Int→Bool→Prop}(hM:MemI t fL fS v St){w0 w:World}{D:Nat→Prop}{cb gr cr:Nat}{vm:Value}{m:Mach}{x:Bool}{ao:Option Addr}{co:Nat}{F:Nat→Prop}(h:GSt St w0 D cb gr cr vm m (-1) x ao co F w)(hm:MOk m)(a b:Nat)(n value:Int)(ha:a<8)(hr:0≤m.reg a∧m.reg a<16)(hw:m.want<0):Calls Tryd.prog 87 #[.pointer (some ⟨cb,0,none⟩),.agg #[.int .i64 11,.int .i64 a,.int .i64 b,.int .i64 4],.int .i64 value] w (zbj St w0 D cb gr cr vm ({m with want:=m.reg a,ready:=0}) 0 x):=by
 have c0:w.cell? ⟨cb,0,none⟩=some (.slice (some ⟨gr,0,none⟩) 8 cr):=zaa h.box 0
 have ra:=h.reg_at ha
 have fa:=h.reg_free a
 have lc:=h.clt
 have lr:=h.rlt
 have hne1:¬gr=cb:=h.rne
 have hne2:¬cb=gr:=fun e=>h.rne e.symm
 have ha':(a:Int)<8:=by omega
 generalize hz:m.reg a=z at *
 have c11:w.cell? ⟨cb,11,none⟩=some (.int .i64 m.want):=zaa h.box 11
 have f11:=zab h.box 11
 have f10:=zab h.box 10
 have c10:w.cell? ⟨cb,10,none⟩=some (.int .i64 m.ready):=zaa h.box 10
 obtain⟨hr1,hr2⟩:=hr
 have HH:=Lib.hid h
 have HM:=Lib.hid hM
 clear h hM hm
 go_enter Tryd.func87,Tryd.ntmps87
 go_wp2_with fail
 go_quiet (fail)
 go_wp2_with fail
 go_ret
 (first|exact⟨rfl,GSt.gs (GSt.put HM.out (GSt.put HM.out ((HH.out.alloc HM.out _).drewN HM.out _) 11 _ ({m with want:=z}:Mach) (-1) rfl rfl rfl rfl) 10 _ ({m with want:=z,ready:=0}:Mach) (-1) rfl rfl rfl rfl)⟩)
theorem ziC{t fL fS:Nat}{v:Value}{St:World→(Nat→Prop)→List Int→Bool→Prop}(hM:MemI t fL fS v St){w0 w:World}{D:Nat→Prop}{cb gr cr:Nat}{vm:Value}{m:Mach}{x:Bool}{ao:Option Addr}{co:Nat}{F:Nat→Prop}(h:GSt St w0 D cb gr cr vm m (-1) x ao co F w)(hm:MOk m)(a b:Nat)(n value:Int)(ha:a<8)(hn:¬n=3)(hn4:¬(n=4∧0≤m.reg a∧m.reg a<16)):Calls Tryd.prog 87 #[.pointer (some ⟨cb,0,none⟩),.agg #[.int .i64 11,.int .i64 a,.int .i64 b,.int .i64 n],.int .i64 value] w (zbj St w0 D cb gr cr vm (m) 3 x):=by
 have c0:w.cell? ⟨cb,0,none⟩=some (.slice (some ⟨gr,0,none⟩) 8 cr):=zaa h.box 0
 have ra:=h.reg_at ha
 have fa:=h.reg_free a
 have lc:=h.clt
 have lr:=h.rlt
 have hne1:¬gr=cb:=h.rne
 have hne2:¬cb=gr:=fun e=>h.rne e.symm
 have ha':(a:Int)<8:=by omega
 generalize hz:m.reg a=z at *
 have h3:(n == 3)=false:=by rw[beq_eq_false_iff_ne];exact hn
 have h4:(n == 4)=false∨((n == 4)=true∧z<0)∨((n == 4)=true∧¬z<0∧16≤z):=by
  by_cases e:n=4
  ·
   have e1:(n == 4)=true:=by rw[e];rfl
   rcases (show z<0∨(¬z<0∧16≤z) by omega) with k|k
   ·exact Or.inr (Or.inl ⟨e1,k⟩)
   ·exact Or.inr (Or.inr ⟨e1,k⟩)
  ·exact Or.inl (by rw[beq_eq_false_iff_ne];exact e)
 clear hn hn4
 have HH:=Lib.hid h
 have HM:=Lib.hid hM
 clear h hM hm
 go_enter Tryd.func87,Tryd.ntmps87
 go_wp2_with fail
 go_quiet (fail)
 rcases h4 with h4|⟨h4,h5⟩|⟨h4,h5,h6⟩
 ·
  go_wp2_with fail
  go_ret
  (first|exact⟨rfl,GSt.gs (((HH.out.alloc HM.out _).drewN HM.out _))⟩)
 ·
  go_wp2_with fail
  go_ret
  (first|exact⟨rfl,GSt.gs (((HH.out.alloc HM.out _).drewN HM.out _))⟩)
 ·
  go_wp2_with fail
  go_ret
  (first|exact⟨rfl,GSt.gs (((HH.out.alloc HM.out _).drewN HM.out _))⟩)
theorem zhj(w:World)(H:Nat)(z:Int)(hH:w.heap.size=H):SlV 1 (H+1) (w.alloc (.cells #[.int .i64 z] 3)) (.slice (some ⟨H,0,none⟩) 1 1) [.int .i64 z]:=by
 refine⟨_,1,rfl,by simp,by simp,fun i hi=>?_⟩
 obtain rfl:i=0:=by simpa using hi
 exact⟨H,0,.int .i64 z,rfl,by omega,zaa (alloc_at hH.symm) 0,rfl⟩
theorem zhk{t fL fS:Nat}{v:Value}{St:World→(Nat→Prop)→List Int→Bool→Prop}(hM:MemI t fL fS v St){w0 w:World}{D:Nat→Prop}{cb gr cr:Nat}{vm:Value}{m:Mach}{x:Bool}{ao:Option Addr}{co:Nat}{F:Nat→Prop}(h:GSt St w0 D cb gr cr vm m (-1) x ao co F w)(hm:MOk m)(a b:Nat)(n value:Int)(ha:a<8)(hl:m.out.length<200):Calls Tryd.prog 87 #[.pointer (some ⟨cb,0,none⟩),.agg #[.int .i64 11,.int .i64 a,.int .i64 b,.int .i64 3],.int .i64 value] w (zbj St w0 D cb gr cr vm ({m with out:=m.out++[m.reg a]}) 0 x):=by
 have c0:w.cell? ⟨cb,0,none⟩=some (.slice (some ⟨gr,0,none⟩) 8 cr):=zaa h.box 0
 have ra:=h.reg_at ha
 have fa:=h.reg_free a
 have lc:=h.clt
 have lr:=h.rlt
 have hne1:¬gr=cb:=h.rne
 have hne2:¬cb=gr:=fun e=>h.rne e.symm
 have ha':(a:Int)<8:=by omega
 generalize hz:m.reg a=z at *
 have c9:w.cell? ⟨cb,9,none⟩=some (.slice ao m.out.length co):=zaa h.box 9
 have f9:=zab h.box 9
 have hl2:(m.out.length:Int)<200:=by omega
 have HL:=Lib.hid hl
 have HONE:=Lib.hid h.one
 have HG:=Lib.hid (fun O q=>((h.alloc hM O).drewN hM q).alloc hM (.cells #[.int .i64 z] 3))
 clear hl
 have HH:=Lib.hid h
 have HM:=Lib.hid hM
 clear h hM hm
 go_enter Tryd.func87,Tryd.ntmps87
 go_wp2_with fail
 go_quiet (fail)
 go_wp2_with (at_builtin;go_loud (refine zbm _ rfl (.tmp 83) (.tmp 85) 24 rfl 0 3 (.int .i64 0) 8 Tryd.underlying24 zbh rfl (.slice ao m.out.length co) m.out.length (m.out.map (Value.int .i64)) rfl (HG.out _ _).out (.slice (some ⟨_,0,none⟩) 1 1) 1 _ [.int .i64 z] rfl (zhj _ _ z (by simp)) (by simp[Value.oneCell']) (by have:=HL.out;simp;unfold maxLen;omega) (by have:=HL.out;simp;omega) (Nat.zero_le _) ?_);intro a5 c5 w5 hown5 hgrow5 hat5;have HX:=GSt.tell HM.out (HG.out _ _) hgrow5 hown5 hat5;have hb5:=(hgrow5.block cb (HG.out _ _).clt (fun e=>HONE.out e.symm)).trans (HG.out _ _).box;have f9':=zab hb5 9;have c9':w5.cell? ⟨cb,9,none⟩=some (.slice ao m.out.length co):=zaa hb5 9;have lc5:cb<w5.heap.size:=(Array.getElem?_eq_some_iff.1 hb5).1;have HXX:=Lib.hid HX;have e1:m.out.length+[Value.int IntKind.i64 z].length=m.out.length+1:=rfl;clear hown5 hgrow5 hat5 HX hb5)
 go_ret
 exact⟨rfl,HXX.out.gs⟩
theorem zk5{t fL fS:Nat}{v:Value}{St:World→(Nat→Prop)→List Int→Bool→Prop}(hM:MemI t fL fS v St){w0 w:World}{D:Nat→Prop}{cb gr cr:Nat}{vm:Value}{m:Mach}{x:Bool}{ao:Option Addr}{co:Nat}{F:Nat→Prop}(h:GSt St w0 D cb gr cr vm m (-1) x ao co F w)(hm:MOk m)(a b:Nat)(n value:Int)(ha:a<8)(hb:b<8)(hn:-1048576≤n∧n≤1048575)(hv:WordZ value):Calls Tryd.prog 79 #[.pointer (some ⟨cb,0,none⟩),.iface t v,.agg #[.int .i64 10,.int .i64 a,.int .i64 b,.int .i64 n],.int .i64 value] w (DoPost St w0 D cb gr cr vm m x (doM m 10 a b n value)):=by
 have HOK:=Lib.hid (za9 hm 10 a b n value (by unfold WordZ;omega) hv)
 have c0:w.cell? ⟨cb,0,none⟩=some (.slice (some ⟨gr,0,none⟩) 8 cr):=zaa h.box 0
 have c1:w.cell? ⟨cb,1,none⟩=some (.int .i64 m.pc):=zaa h.box 1
 have f1:=zab h.box 1
 have ra:=h.reg_at ha
 have rb:=h.reg_at hb
 have fa:=h.reg_free a
 have lc:=h.clt
 have lr:=h.rlt
 have hpc:=hm.pc
 have hne1:¬gr=cb:=h.rne
 have hne2:¬cb=gr:=fun e=>h.rne e.symm
 have ha':(a:Int)<8:=by omega
 have hb':(b:Int)<8:=by omega
 have wa:=hm.wreg a
 have wb:=hm.wreg b
 have w1:IntKind.i64.wrap (m.pc+1)=m.pc+1:=IntWalk.i64_in _ (by omega)
 have HH:=Lib.hid h
 have HM:=Lib.hid hM
 have HMO:=Lib.hid hm
 clear h hm hM
 by_cases h1:n=0∨n=1
 ·
  rw[show doM m 10 a b n value=((m.setReg a value).goTo (m.pc+1),0,-1) from (by show (if n=0∨n=1 then _ else _)=_;rw[if_pos h1])] at HOK ⊢
  have H1:=Lib.hid h1
  clear h1
  go_enter Tryd.func79,Tryd.ntmps79
  go_wp2_with (first|(go_at_call 85;refine(zav _ _ (by omega) (by omega)).mono ?_;rintro e w' ⟨rfl,rfl⟩)|(go_at_call 87;refine(zgc HM.out (HH.out.alloc HM.out _) HMO.out a b n value ha H1.out).mono ?_;rintro e w' ⟨rfl,hgs⟩;obtain⟨ao',co',F',hgst⟩:=hgs;have HG:=Lib.hid hgst;have f1':=zab hgst.box 1;have c1':=zaa hgst.box 1;have lc':=hgst.clt;clear hgst))
  go_ret
  refine DoPost.ok HOK.out rfl ?_
  exact(GSt.put HM.out HG.out 1 _ ((m.setReg a value).goTo (m.pc+1)) (-1) rfl rfl rfl rfl).gs
 ·
  by_cases h2:n=2
  ·
   subst h2
   rw[show doM m 10 a b 2 value=((m.setReg a m.ready).goTo (m.pc+1),0,-1) from rfl] at HOK ⊢
   clear h1
   go_enter Tryd.func79,Tryd.ntmps79
   go_wp2_with (first|(go_at_call 85;refine(zav _ _ (by omega) (by omega)).mono ?_;rintro e w' ⟨rfl,rfl⟩)|(go_at_call 87;refine(zgd HM.out (HH.out.alloc HM.out _) HMO.out a b 2 value ha).mono ?_;rintro e w' ⟨rfl,hgs⟩;obtain⟨ao',co',F',hgst⟩:=hgs;have HG:=Lib.hid hgst;have f1':=zab hgst.box 1;have c1':=zaa hgst.box 1;have lc':=hgst.clt;clear hgst))
   go_ret
   refine DoPost.ok HOK.out rfl ?_
   exact(GSt.put HM.out HG.out 1 _ ((m.setReg a m.ready).goTo (m.pc+1)) (-1) rfl rfl rfl rfl).gs
  ·
   rw[show doM m 10 a b n value=(m,3,-1) from (by show (if n=0∨n=1 then _ else if n=2 then _ else _)=_;rw[if_neg h1,if_neg h2])] at HOK ⊢
   have H1:=Lib.hid h1
   have H2:=Lib.hid h2
   clear h1 h2
   go_enter Tryd.func79,Tryd.ntmps79
   go_wp2_with (go_at_call 87;refine(zhg HM.out (HH.out.alloc HM.out _) HMO.out a b n value ha H1.out H2.out).mono ?_;rintro e w' ⟨rfl,hgs⟩;obtain⟨ao',co',F',hgst⟩:=hgs;have HG:=Lib.hid hgst;have f1':=zab hgst.box 1;have c1':=zaa hgst.box 1;have lc':=hgst.clt;clear hgst)
   go_ret
   exact DoPost.ok HOK.out rfl HG.out.gs
theorem zk6{t fL fS:Nat}{v:Value}{St:World→(Nat→Prop)→List Int→Bool→Prop}(hM:MemI t fL fS v St){w0 w:World}{D:Nat→Prop}{cb gr cr:Nat}{vm:Value}{m:Mach}{x:Bool}{ao:Option Addr}{co:Nat}{F:Nat→Prop}(h:GSt St w0 D cb gr cr vm m (-1) x ao co F w)(hm:MOk m)(a b:Nat)(n value:Int)(ha:a<8)(hb:b<8)(hn:-1048576≤n∧n≤1048575)(hv:WordZ value):Calls Tryd.prog 79 #[.pointer (some ⟨cb,0,none⟩),.iface t v,.agg #[.int .i64 11,.int .i64 a,.int .i64 b,.int .i64 n],.int .i64 value] w (DoPost St w0 D cb gr cr vm m x (doM m 11 a b n value)):=by
 have HOK:=Lib.hid (za9 hm 11 a b n value (by unfold WordZ;omega) hv)
 have c0:w.cell? ⟨cb,0,none⟩=some (.slice (some ⟨gr,0,none⟩) 8 cr):=zaa h.box 0
 have c1:w.cell? ⟨cb,1,none⟩=some (.int .i64 m.pc):=zaa h.box 1
 have f1:=zab h.box 1
 have ra:=h.reg_at ha
 have rb:=h.reg_at hb
 have fa:=h.reg_free a
 have lc:=h.clt
 have lr:=h.rlt
 have hpc:=hm.pc
 have hne1:¬gr=cb:=h.rne
 have hne2:¬cb=gr:=fun e=>h.rne e.symm
 have ha':(a:Int)<8:=by omega
 have hb':(b:Int)<8:=by omega
 have wa:=hm.wreg a
 have wb:=hm.wreg b
 have w1:IntKind.i64.wrap (m.pc+1)=m.pc+1:=IntWalk.i64_in _ (by omega)
 have HH:=Lib.hid h
 have HM:=Lib.hid hM
 have HMO:=Lib.hid hm
 clear h hm hM
 by_cases h1:n=3
 ·
  subst h1
  by_cases h2:m.out.length<200
  ·
   rw[show doM m 11 a b 3 value=(({m with out:=m.out++[m.reg a]}:Mach).goTo (m.pc+1),0,-1) from (by show (Mach.goTo {m with out:=if m.out.length<200 then _ else _} _,_)=_;rw[if_pos h2])] at HOK ⊢
   have H2:=Lib.hid h2
   clear h2
   go_enter Tryd.func79,Tryd.ntmps79
   go_wp2_with (first|(go_at_call 85;refine(zav _ _ (by omega) (by omega)).mono ?_;rintro e w' ⟨rfl,rfl⟩)|(go_at_call 87;refine(zhk HM.out (HH.out.alloc HM.out _) HMO.out a b 3 value ha H2.out).mono ?_;rintro e w' ⟨rfl,hgs⟩;obtain⟨ao',co',F',hgst⟩:=hgs;have HG:=Lib.hid hgst;have f1':=zab hgst.box 1;have c1':=zaa hgst.box 1;have lc':=hgst.clt;clear hgst))
   go_ret
   refine DoPost.ok HOK.out rfl ?_
   exact(GSt.put HM.out HG.out 1 _ (({m with out:=m.out++[m.reg a]}:Mach).goTo (m.pc+1)) (-1) rfl rfl rfl rfl).gs
  ·
   rw[show doM m 11 a b 3 value=(m.goTo (m.pc+1),0,-1) from (by show (Mach.goTo {m with out:=if m.out.length<200 then _ else _} _,_)=_;rw[if_neg h2])] at HOK ⊢
   have H2:=Lib.hid h2
   clear h2
   go_enter Tryd.func79,Tryd.ntmps79
   go_wp2_with (first|(go_at_call 85;refine(zav _ _ (by omega) (by omega)).mono ?_;rintro e w' ⟨rfl,rfl⟩)|(go_at_call 87;refine(zhh HM.out (HH.out.alloc HM.out _) HMO.out a b 3 value ha H2.out).mono ?_;rintro e w' ⟨rfl,hgs⟩;obtain⟨ao',co',F',hgst⟩:=hgs;have HG:=Lib.hid hgst;have f1':=zab hgst.box 1;have c1':=zaa hgst.box 1;have lc':=hgst.clt;clear hgst))
   go_ret
   refine DoPost.ok HOK.out rfl ?_
   exact(GSt.put HM.out HG.out 1 _ ((m).goTo (m.pc+1)) (-1) rfl rfl rfl rfl).gs
 ·
  by_cases h2:n=4∧0≤m.reg a∧m.reg a<16
  ·
   have H2:=Lib.hid h2.2
   obtain rfl:n=4:=h2.1
   by_cases h3:m.want<0
   ·
    rw[show doM m 11 a b 4 value=(({m with want:=m.reg a,ready:=0}:Mach).goTo (m.pc+1),0,-1) from (by show (if (4:Int)=4∧0≤m.reg a∧m.reg a<16 then (Mach.goTo (if m.want<0 then _ else _) _,_) else _)=_;rw[if_pos h2,if_pos h3])] at HOK ⊢
    have H3:=Lib.hid h3
    clear h1 h2 h3
    go_enter Tryd.func79,Tryd.ntmps79
    go_wp2_with (first|(go_at_call 85;refine(zav _ _ (by omega) (by omega)).mono ?_;rintro e w' ⟨rfl,rfl⟩)|(go_at_call 87;refine(zhi HM.out (HH.out.alloc HM.out _) HMO.out a b 4 value ha H2.out H3.out).mono ?_;rintro e w' ⟨rfl,hgs⟩;obtain⟨ao',co',F',hgst⟩:=hgs;have HG:=Lib.hid hgst;have f1':=zab hgst.box 1;have c1':=zaa hgst.box 1;have lc':=hgst.clt;clear hgst))
    go_ret
    refine DoPost.ok HOK.out rfl ?_
    exact(GSt.put HM.out HG.out 1 _ (({m with want:=m.reg a,ready:=0}:Mach).goTo (m.pc+1)) (-1) rfl rfl rfl rfl).gs
   ·
    rw[show doM m 11 a b 4 value=(m.goTo (m.pc+1),0,-1) from (by show (if (4:Int)=4∧0≤m.reg a∧m.reg a<16 then (Mach.goTo (if m.want<0 then _ else _) _,_) else _)=_;rw[if_pos h2,if_neg h3])] at HOK ⊢
    have H3:=Lib.hid h3
    clear h1 h2 h3
    go_enter Tryd.func79,Tryd.ntmps79
    go_wp2_with (first|(go_at_call 85;refine(zav _ _ (by omega) (by omega)).mono ?_;rintro e w' ⟨rfl,rfl⟩)|(go_at_call 87;refine(ziB HM.out (HH.out.alloc HM.out _) HMO.out a b 4 value ha H2.out H3.out).mono ?_;rintro e w' ⟨rfl,hgs⟩;obtain⟨ao',co',F',hgst⟩:=hgs;have HG:=Lib.hid hgst;have f1':=zab hgst.box 1;have c1':=zaa hgst.box 1;have lc':=hgst.clt;clear hgst))
    go_ret
    refine DoPost.ok HOK.out rfl ?_
    exact(GSt.put HM.out HG.out 1 _ ((m).goTo (m.pc+1)) (-1) rfl rfl rfl rfl).gs
  ·
   rw[show doM m 11 a b n value=(m,3,-1) from (by show (if n=3 then _ else if n=4∧0≤m.reg a∧m.reg a<16 then _ else _)=_;rw[if_neg h1,if_neg h2])] at HOK ⊢
   have H1:=Lib.hid h1
   have H2:=Lib.hid h2
   clear h1 h2
   go_enter Tryd.func79,Tryd.ntmps79
   go_wp2_with (go_at_call 87;refine(ziC HM.out (HH.out.alloc HM.out _) HMO.out a b n value ha H1.out H2.out).mono ?_;rintro e w' ⟨rfl,hgs⟩;obtain⟨ao',co',F',hgst⟩:=hgs;have HG:=Lib.hid hgst;have f1':=zab hgst.box 1;have c1':=zaa hgst.box 1;have lc':=hgst.clt;clear hgst)
   go_ret
   exact DoPost.ok HOK.out rfl HG.out.gs
theorem do_6{t fL fS:Nat}{v:Value}{St:World→(Nat→Prop)→List Int→Bool→Prop}(hM:MemI t fL fS v St){w0 w:World}{D:Nat→Prop}{cb gr cr:Nat}{vm:Value}{m:Mach}{x:Bool}{ao:Option Addr}{co:Nat}{F:Nat→Prop}(h:GSt St w0 D cb gr cr vm m (-1) x ao co F w)(hm:MOk m)(a b:Nat)(n value:Int)(ha:a<8)(hb:b<8)(hn:-1048576≤n∧n≤1048575)(hv:WordZ value):Calls Tryd.prog 79 #[.pointer (some ⟨cb,0,none⟩),.iface t v,.agg #[.int .i64 6,.int .i64 a,.int .i64 b,.int .i64 n],.int .i64 value] w (DoPost St w0 D cb gr cr vm m x (doM m 6 a b n value)):=by
 have HOK:=Lib.hid (za9 hm 6 a b n value (by unfold WordZ;omega) hv)
 have c0:w.cell? ⟨cb,0,none⟩=some (.slice (some ⟨gr,0,none⟩) 8 cr):=zaa h.box 0
 have c1:w.cell? ⟨cb,1,none⟩=some (.int .i64 m.pc):=zaa h.box 1
 have f1:=zab h.box 1
 have ra:=h.reg_at ha
 have rb:=h.reg_at hb
 have fa:=h.reg_free a
 have lc:=h.clt
 have lr:=h.rlt
 have hpc:=hm.pc
 have hne1:¬gr=cb:=h.rne
 have hne2:¬cb=gr:=fun e=>h.rne e.symm
 have ha':(a:Int)<8:=by omega
 have hb':(b:Int)<8:=by omega
 have wa:=hm.wreg a
 have wb:=hm.wreg b
 have w1:IntKind.i64.wrap (m.pc+1)=m.pc+1:=IntWalk.i64_in _ (by omega)
 have HH:=Lib.hid h
 have HM:=Lib.hid hM
 have HMO:=Lib.hid hm
 have w2:IntKind.i64.wrap (m.reg b+n)=m.reg b+n:=IntWalk.i64_in _ (by unfold WordZ at wb;omega)
 have HST:Hid (∀W,W=(w.alloc (.cells #[.int .i64 6,.int .i64 a,.int .i64 b,.int .i64 n] 123)).drew→Calls Tryd.prog 86 #[.pointer (some ⟨cb,0,none⟩),.iface t v,.int .i64 (m.reg b+n),.int .i64 (m.reg a)] W (fun e w' =>∃en m' wr' x',e=.returned (.int .i64 en)∧GS St w0 D cb gr cr vm m' wr' x' w'∧((x'=x∧(((zan m.table m.mem (m.reg b+n) true).2=0∧en=0∧m'={m with mem:=m.mem.set (zan m.table m.mem (m.reg b+n) true).1.toNat (m.reg a)}∧wr'=(zan m.table m.mem (m.reg b+n) true).1)∨((zan m.table m.mem (m.reg b+n) true).2≠0∧en=(zan m.table m.mem (m.reg b+n) true).2∧m'=m∧wr' = -1)))∨(x'=true∧m'=m∧en=3))∧w'.cell? ⟨w.heap.size,1,none⟩=some (.int .i64 a)∧w'.cell? ⟨w.heap.size,2,none⟩=some (.int .i64 b)∧w'.cell? ⟨w.heap.size,3,none⟩=some (.int .i64 n)∧w'.cell? ⟨gr,a,none⟩=some (.int .i64 (m.reg a))∧w'.cell? ⟨gr,b,none⟩=some (.int .i64 (m.reg b)))):=Lib.hid (fun W hW=>by
  subst hW
  refine(zhf hM ((h.alloc hM _).drew hM) hm.table (m.reg b+n) (m.reg a) wa).mono ?_
  rintro e w' ⟨en,m',wr',x',he,hgs,hcc,hcase⟩
  have hnF:¬F w.heap.size:=fun k=>by have:=hM.lt _ _ _ _ h.mem _ k;omega
  have hb (i:Nat):w'.cell? ⟨w.heap.size,i,none⟩=(#[.int .i64 6,.int .i64 a,.int .i64 b,.int .i64 n]:Array Value)[i]?:=(hcc w.heap.size i (by show w.heap.size<(w.heap.push _).size;simp) hnF (by omega)).trans (zaa (w:=w.alloc (.cells #[.int .i64 6,.int .i64 a,.int .i64 b,.int .i64 n] 123)) (alloc_at rfl) i)
  have hg (i:Nat):w'.cell? ⟨gr,i,none⟩=w.cell? ⟨gr,i,none⟩:=(hcc gr i (by show gr<(w.heap.push _).size;simp;omega) h.fr h.rne).trans (zaw w _ gr i lr)
  exact⟨en,m',wr',x',he,hgs,hcase,hb 1,hb 2,hb 3,(hg a).trans ra,(hg b).trans rb⟩)
 have HQ:=Lib.hid (fun (p:Int×Int) (hp:zan m.table m.mem (m.reg b+n) true=p)=>show doM m 6 a b n value=if p.2=0 then ((({m with mem:=m.mem.set p.1.toNat (m.reg a)}:Mach)).goTo (m.pc+1),0,p.1) else (m,p.2,-1) from by subst hp;rfl)
 generalize hpz:zan m.table m.mem (m.reg b+n) true=pz at *
 have hdo:=HQ.out pz rfl
 have HBD:=Lib.hid (show pz.2=0∨pz.2=3∨pz.2=4 from by rw[←hpz];exact(za2 _ _ _ _).2.2)
 clear HQ hpz
 rw[hdo] at HOK ⊢
 clear hdo
 generalize hrr:(if pz.2=0 then (({m with mem:=m.mem.set pz.1.toNat (m.reg a)}:Mach).goTo (m.pc+1),(0:Int),pz.1) else (m,pz.2,(-1:Int)))=r at *
 have HR:=Lib.hid hrr
 clear hrr
 generalize hza:m.reg a=za at *
 generalize hzz:m.reg b+n=zz at *
 clear h hm hM
 go_enter Tryd.func79,Tryd.ntmps79
 go_upto_region 20 with fail
 go_cut [13] from 15 (fun s13 wx =>∃en m' wr' x',s13=.int .i64 en∧Hid (GS St w0 D cb gr cr vm m' wr' x' wx)∧Hid ((x'=x∧((pz.2=0∧en=0∧m'={m with mem:=m.mem.set pz.1.toNat za}∧wr'=pz.1)∨(pz.2≠0∧en=pz.2∧m'=m∧wr' = -1)))∨(x'=true∧m'=m∧en=3)))
 case first=>
  go_region_held3 (fun w'=>w'.cell? ⟨w.heap.size,1,none⟩=some (.int .i64 a)∧w'.cell? ⟨w.heap.size,2,none⟩=some (.int .i64 b)∧w'.cell? ⟨w.heap.size,3,none⟩=some (.int .i64 n)∧w'.cell? ⟨gr,a,none⟩=some (.int .i64 za)∧w'.cell? ⟨gr,b,none⟩=some (.int .i64 (m.reg b))) (first|((try dsimp only);(repeat' apply And.intro)<;>(first|assumption|go_keep))) ((go_at_call 86;refine(HST.out _ rfl).mono ?_;rintro e w' ⟨en,m',wr',x',rfl,hgs,hcase,s1,s2,s3,s4,s5⟩;have HGS:=Lib.hid hgs;have HCASE:=Lib.hid hcase;clear hgs hcase))
  all_goals (go_wp2_with fail;go_meet)
  all_goals exact⟨_,_,_,_,rfl,HGS,HCASE⟩
 case rest=>
  clear c0 c1 f1 ra rb fa lc lr HST
  obtain⟨en,m',wr',x',rfl,HGS,HCASE⟩:=hcut
  obtain⟨ao',co',F',hgst⟩:=HGS.out
  have HG:=Lib.hid hgst
  have f1:=zab hgst.box 1
  have c1:wc.cell? ⟨cb,1,none⟩=some (.int .i64 m'.pc):=zaa hgst.box 1
  have lc:=hgst.clt
  clear hgst
  rcases HCASE.out with⟨rfl,⟨h0,rfl,rfl,rfl⟩|⟨h0,rfl,rfl,rfl⟩⟩|⟨rfl,rfl,rfl⟩
  ·
   have hr0:=HR.out
   rw[if_pos h0] at hr0
   subst hr0
   clear h0 HCASE HBD
   go_wp2_with (go_at_call 85;refine(zav _ _ (by omega) (by omega)).mono ?_;rintro e w' ⟨rfl,rfl⟩)
   go_ret
   refine DoPost.ok HOK.out rfl ?_
   exact(GSt.put HM.out HG.out 1 _ (({m with mem:=m.mem.set pz.1.toNat za}:Mach).goTo (m.pc+1)) _ rfl rfl rfl rfl).gs
  ·
   have hr0:=HR.out
   rw[if_neg h0] at hr0
   subst hr0
   have hen:(pz.2 != 0)=true:=by rw[bne_iff_ne];exact h0
   clear h0 HCASE HBD
   go_wp2_with fail
   go_ret
   exact DoPost.ok HOK.out rfl HG.out.gs
  ·
   clear HCASE
   go_wp2_with fail
   go_ret
   exact⟨3,_,_,_,rfl,HG.out.gs,HMO.out,by omega,by omega,rfl,Or.inr rfl⟩
end Go.Proofs.YtflonfcemlfbdaaDoor
