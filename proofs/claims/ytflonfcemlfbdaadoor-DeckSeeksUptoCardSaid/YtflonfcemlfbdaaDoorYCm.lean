/- Several texts joined, each with its own heading in the notes: The contract of sameMachine at guests that read alike. Contracts of cpu. No condition beyond those of each row. -/
import Derived.Test.YtflonfcemlfbdaaDoorYCl
import Derived.Test.YtflonfcemlfbdaaDoorYEv
namespace Go.Proofs.YtflonfcemlfbdaaDoor
open Go Go.RowKit Go.ChangeShapes Go.WideShapes Go.Deep
set_option maxHeartbeats 4000000
set_option maxRecDepth 100000
set_option linter.unusedVariables false
def MachR(B:Nat)(w:World)(v:Value)(m:Mach):Prop:=∃ar cr am cm ao co,v=m.agg (.slice ar m.regs.length cr) (.slice am m.mem.length cm) (.slice ao m.out.length co)∧Ints B w (.slice ar m.regs.length cr) m.regs∧Ints B w (.slice am m.mem.length cm) m.mem∧Ints B w (.slice ao m.out.length co) m.out
theorem MachR.to{B B':Nat}{w w':World}{v:Value}{m:Mach}(hB:B≤B')(hw:Same B w w')(h:MachR B w v m):MachR B' w' v m:=by
 obtain⟨ar,cr,am,cm,ao,co,hv,h1,h2,h3⟩:=h
 exact⟨ar,cr,am,cm,ao,co,hv,h1.to hB hw,h2.to hB hw,h3.to hB hw⟩
theorem MachOwn.reads {base : Nat} {w : World} {m : Mach} {ar am ao : Option Addr} {cr cm co : Nat} (h : MachOwn base w m (.slice ar m.regs.length cr) (.slice am m.mem.length cm) (.slice ao m.out.length co)) (hr : ∀ z ∈ m.regs, I64 z) (hm : ∀ z ∈ m.mem, I64 z) (ho : ∀ z ∈ m.out, I64 z)
  (lr:m.regs.length≤17592186043904) (lm:m.mem.length≤17592186043904) (lo:m.out.length≤17592186043904):MachR w.heap.size w (m.agg (.slice ar m.regs.length cr) (.slice am m.mem.length cm) (.slice ao m.out.length co)) m:=
 ⟨ar,cr,am,cm,ao,co,rfl,zaq h.hr lr hr,zaq h.hm lm hm,zaq h.ho lo ho⟩
theorem zcP (v1 v2 : Value) (m : Mach) (w : World) (h1 : MachR w.heap.size w v1 m) (h2 : MachR w.heap.size w v2 m) :
  Calls Tryd.prog 16 #[v1,v2] w fun e w'=>e=.returned (.bool true)∧Below w.heap.size w w':=by
 obtain⟨ar,cr,am,cm,ao,co,rfl,hr,hm,ho⟩:=h1
 obtain⟨ar',cr',am',cm',ao',co',rfl,hr',hm',ho'⟩:=h2
 have HR:=Lib.hid hr
 have HM:=Lib.hid hm
 have HO:=Lib.hid ho
 have HR':=Lib.hid hr'
 have HM':=Lib.hid hm'
 have HO':=Lib.hid ho'
 clear hr hm ho hr' hm' ho'
 obtain⟨regs,pc,back,ints,wait,table,count,fin,mem,out,ready,want⟩:=m
 simp only[Mach.agg] at *
 go_enter Tryd.func16,Tryd.ntmps16
 go_wp2_with fail
 refine(zbz (B:=w.heap.size) _ _ regs _ ?_ ?_).mono ?_
 ·exact HR.out.to (Nat.le_refl _) (zae (below_alloc2 _ _ _))
 ·exact HR'.out.to (Nat.le_refl _) (zae (below_alloc2 _ _ _))
 rintro e w1 ⟨rfl,n1,rfl⟩
 go_wp2_with fail
 refine(zbz (B:=w.heap.size) _ _ mem _ ?_ ?_).mono ?_
 ·exact HM.out.to (Nat.le_refl _) (zae (below_drewN (below_alloc2 _ _ _) _))
 ·exact HM'.out.to (Nat.le_refl _) (zae (below_drewN (below_alloc2 _ _ _) _))
 rintro e w2 ⟨rfl,n2,rfl⟩
 go_wp2_with fail
 refine(zbz (B:=w.heap.size) _ _ out _ ?_ ?_).mono ?_
 ·exact HO.out.to (Nat.le_refl _) (zae (below_drewN (below_alloc2 _ _ _) _))
 ·exact HO'.out.to (Nat.le_refl _) (zae (below_drewN (below_alloc2 _ _ _) _))
 rintro e w3 ⟨rfl,n3,rfl⟩
 go_wp2
 go_ret
 exact⟨zaZ (by simp),below_drewN (below_alloc2 _ _ _) _⟩
section
variable {H:Type} {enc:TypeId × Value→H} {w:World} {held:Bool}
end
structure MOk(m:Mach):Prop where
 regs:m.regs.length=8
 mem:m.mem.length=256
 out:m.out.length≤200
 wr:m.regs.any oddB=false
 wm:m.mem.any oddB=false
 wo:m.out.any oddB=false
 pc:-1099511627776≤m.pc∧m.pc≤1099511627776
 back:-1099511627776≤m.back∧m.back≤1099511627776
 table:-1≤m.table∧m.table<16
 count:0≤m.count∧m.count≤1099511627776
 fin:0≤m.fin∧m.fin≤4
 ready:0≤m.ready∧m.ready≤1
 want:-1≤m.want∧m.want<16
theorem zjJ{z:Int}(h:oddB z=false):-1099511627776≤z∧z≤1099511627776:=by
 unfold oddB at h
 rw[Bool.not_eq_false',Bool.and_eq_true,decide_eq_true_iff,decide_eq_true_iff] at h
 exact h
def Mach.box(m:Mach)(vr vm vo:Value):Obj:=.cells #[vr,.int .i64 m.pc,.int .i64 m.back,.bool m.ints,.bool m.wait,.int .i64 m.table,.int .i64 m.count,.int .i64 m.fin,vm,vo,.int .i64 m.ready,.int .i64 m.want] 48 (0,0)
def zjh(zs:List Int)(w:World)(e:Ending)(w':World):Prop:=(e=.returned (.bool true)∧Hid (zs.any oddB=true)∧∃n,w'=w.drewN n)∨(e=.returned (.bool false)∧Hid (zs.any oddB=false)∧∃n,w'=w.drewN n)
theorem zjK{F:FuncId}{args:Array Value}{zs:List Int}{w:World}(h:Calls Tryd.prog F args w fun e w'=>e=.returned (.bool (zs.any oddB))∧∃n,w'=w.drewN n):Calls Tryd.prog F args w (zjh zs w):=by
 rcases Bool.eq_false_or_eq_true (zs.any oddB) with hq|hq
 ·exact h.mono fun e w' ⟨he,hn⟩=>Or.inl ⟨by rw[he,hq],Lib.hid hq,hn⟩
 ·exact h.mono fun e w' ⟨he,hn⟩=>Or.inr ⟨by rw[he,hq],Lib.hid hq,hn⟩
theorem zji{F:FuncId}{args:Array Value}{zs:List Int}{w:World}(h:Calls Tryd.prog F args w fun e w'=>e=.returned (.bool (!zs.any oddB))∧∃n,w'=w.drewN n):Calls Tryd.prog F args w fun e w'=>(e=.returned (.bool false)∧Hid (zs.any oddB=true)∧∃n,w'=w.drewN n)∨(e=.returned (.bool true)∧Hid (zs.any oddB=false)∧∃n,w'=w.drewN n):=by
 rcases Bool.eq_false_or_eq_true (zs.any oddB) with hq|hq
 ·exact h.mono fun e w' ⟨he,hn⟩=>Or.inl ⟨by rw[he,hq];rfl,Lib.hid hq,hn⟩
 ·exact h.mono fun e w' ⟨he,hn⟩=>Or.inr ⟨by rw[he,hq];rfl,Lib.hid hq,hn⟩
end Go.Proofs.YtflonfcemlfbdaaDoor
