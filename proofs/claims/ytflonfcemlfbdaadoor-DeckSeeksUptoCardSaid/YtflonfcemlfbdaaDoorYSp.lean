/- Several texts joined, each with its own heading in the notes: The contract of cpu. What the keep's laws about steps share: cpuTells, a step of a guest that may step, a guest in a box; a step of a known instruction, in plain Lean. No condition beyond those of each row. -/
import Derived.Test.YtflonfcemlfbdaaDoorYOi
import Derived.Test.YtflonfcemlfbdaaDoorYCpu1
import Derived.KernelRfl
import Derived.Test.YtflonfcemlfbdaaDoorYRl
import Derived.Deep.DeepCutAuto
import Derived.Test.YtflonfcemlfbdaaDoorYRp
import Derived.Handy
import Derived.Test.YtflonfcemlfbdaaDoorYSu
namespace Go.Proofs.YtflonfcemlfbdaaDoor
open Go Go.RowKit Go.ChangeShapes Go.WideShapes Go.Deep
set_option linter.unusedVariables false
attribute [local go_sem ↓] Go.wp_at_zero Go.wp_at_succ
def Mach.zero:Mach:=⟨[],0,0,false,false,0,0,0,[],[],0,0⟩
def StepR(m:Mach)(irq:Bool)(b:List Int)(value:Int)(m':Mach)(wr c:Int):Prop:=
 (¬MOk m∧m'=Mach.zero∧wr=0∧c=8) ∨
 (MOk m∧¬(b.length=0∨b.length=16)∧m'=Mach.zero∧wr=0∧c=1) ∨
 (MOk m∧(b.length=0∨b.length=16)∧(oddB value=true∨b.any oddB=true∨m.count=1099511627776)∧m'=Mach.zero∧wr=0∧c=2) ∨
 (MOk m∧(b.length=0∨b.length=16)∧¬(oddB value=true∨b.any oddB=true∨m.count=1099511627776)∧m'=(zbe m irq b value).1∧wr=(zbe m irq b value).2∧c=0)
theorem StepR.det{m:Mach}{irq:Bool}{b:List Int}{value:Int}{m1 m2:Mach}{r1 r2 c1 c2:Int}(h:StepR m irq b value m1 r1 c1)(k:StepR m irq b value m2 r2 c2):m1=m2∧r1=r2∧c1=c2:=by
 rcases h with⟨h,rfl,rfl,rfl⟩|⟨h,h1,rfl,rfl,rfl⟩|⟨h,h1,h2,rfl,rfl,rfl⟩|⟨h,h1,h2,rfl,rfl,rfl⟩ <;>
  rcases k with⟨k,rfl,rfl,rfl⟩|⟨k,k1,rfl,rfl,rfl⟩|⟨k,k1,k2,rfl,rfl,rfl⟩|⟨k,k1,k2,rfl,rfl,rfl⟩ <;>
  first|exact⟨rfl,rfl,rfl⟩|exact absurd k h|exact absurd h k|exact absurd k1 h1|exact absurd h1 k1|exact absurd k2 h2|exact absurd h2 k2
theorem SInv.drew{w0 w:World}{g:Nat}{m:Mach}{vr vm vo:Value}(h:SInv w0 g m vr vm vo w):SInv w0 g m vr vm vo w.drew:=⟨⟨h.own.hr,h.own.hm,h.own.ho,h.own.rm,h.own.ro,h.own.mo,h.own.mr,h.own.or,h.own.om⟩,h.box,h.below.drew⟩
theorem zkG{w:World}{g:Nat}{c0 c1 c2 c3 c4 c5 c6 c7 c8 c9 c10 c11 v0 v1 v2 v3 v4 v5 v6 v7 v8 v9 v10 v11:Value}{t:TypeId}{fr:Nat×Nat}(h:w.heap[g]?=some (.cells #[c0,c1,c2,c3,c4,c5,c6,c7,c8,c9,c10,c11] t fr)):((((((((((((w.setCell ⟨g,0,none⟩ v0).setCell ⟨g,1,none⟩ v1).setCell ⟨g,2,none⟩ v2).setCell ⟨g,3,none⟩ v3).setCell ⟨g,4,none⟩ v4).setCell ⟨g,5,none⟩ v5).setCell ⟨g,6,none⟩ v6).setCell ⟨g,7,none⟩ v7).setCell ⟨g,8,none⟩ v8).setCell ⟨g,9,none⟩ v9).setCell ⟨g,10,none⟩ v10).setCell ⟨g,11,none⟩ v11).heap[g]?=some (.cells #[v0,v1,v2,v3,v4,v5,v6,v7,v8,v9,v10,v11] t fr):=by
 have h12:=(zaf (i:=11) (zaf (i:=10) (zaf (i:=9) (zaf (i:=8) (zaf (i:=7) (zaf (i:=6) (zaf (i:=5) (zaf (i:=4) (zaf (i:=3) (zaf (i:=2) (zaf (i:=1) (zaf (i:=0) h v0) v1) v2) v3) v4) v5) v6) v7) v8) v9) v10) v11)
 simpa using h12
structure KBox(g gr cr mb cm:Nat)(m:Mach)(ao:Option Addr)(co:Nat)(w:World):Prop where
 box:w.heap[g]?=some (.cells #[.slice (some ⟨gr,0,none⟩) 8 cr,.int .i64 m.pc,.int .i64 m.back,.bool m.ints,.bool m.wait,.int .i64 m.table,.int .i64 m.count,.int .i64 m.fin,.slice (some ⟨mb,0,none⟩) 256 cm,.slice ao m.out.length co,.int .i64 m.ready,.int .i64 m.want] 48 (0,0))
 regs:w.ownsRow 0 3 1 (.slice (some ⟨gr,0,none⟩) 8 cr) 8 (m.regs.map (Value.int .i64))
 mem:w.ownsRow 0 3 1 (.slice (some ⟨mb,0,none⟩) 256 cm) 256 (m.mem.map (Value.int .i64))
 out:w.ownsRow 0 3 1 (.slice ao m.out.length co) m.out.length (m.out.map (Value.int .i64))
 rm:gr≠mb
 ro:(Value.slice ao m.out.length co).ownBlock≠some gr
 mo:(Value.slice ao m.out.length co).ownBlock≠some mb
theorem zkH{F:Nat→Prop}{g:Nat}{a w:World}{v0 v1 v2 v3 v4 v5 v6 v7 v8 v9 v10 v11:Value}(h:OutF F a w)(hg:F g):OutF F a ((((((((((((w.setCell ⟨g,0,none⟩ v0).setCell ⟨g,1,none⟩ v1).setCell ⟨g,2,none⟩ v2).setCell ⟨g,3,none⟩ v3).setCell ⟨g,4,none⟩ v4).setCell ⟨g,5,none⟩ v5).setCell ⟨g,6,none⟩ v6).setCell ⟨g,7,none⟩ v7).setCell ⟨g,8,none⟩ v8).setCell ⟨g,9,none⟩ v9).setCell ⟨g,10,none⟩ v10).setCell ⟨g,11,none⟩ v11):=((((((((((((h.setCell (g:=g) (i:=0) (Or.inl hg) v0).setCell (g:=g) (i:=1) (Or.inl hg) v1).setCell (g:=g) (i:=2) (Or.inl hg) v2).setCell (g:=g) (i:=3) (Or.inl hg) v3).setCell (g:=g) (i:=4) (Or.inl hg) v4).setCell (g:=g) (i:=5) (Or.inl hg) v5).setCell (g:=g) (i:=6) (Or.inl hg) v6).setCell (g:=g) (i:=7) (Or.inl hg) v7).setCell (g:=g) (i:=8) (Or.inl hg) v8).setCell (g:=g) (i:=9) (Or.inl hg) v9).setCell (g:=g) (i:=10) (Or.inl hg) v10).setCell (g:=g) (i:=11) (Or.inl hg) v11)
end Go.Proofs.YtflonfcemlfbdaaDoor
