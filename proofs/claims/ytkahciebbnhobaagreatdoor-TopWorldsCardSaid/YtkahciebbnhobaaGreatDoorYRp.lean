/- Several texts joined, each with its own heading in the notes: The document's guest in a world: its box, its slices, and a result's box; what each change leaves. The document's guest in a world, of which some old blocks may be written: its box, its slices, a result's box; what each change leaves. The pure step, part by part, as the document's stepped does it; what stepped leaves in memory. No condition beyond those of each row. -/
import Derived.Test.YtkahciebbnhobaaGreatDoorYCpu1
import Derived.Test.YtkahciebbnhobaaGreatDoorYOi
import Derived.Handy
namespace Go.Proofs.YtkahciebbnhobaaGreatDoor
open Go Go.RowKit Go.ChangeShapes Go.WideShapes Go.Deep
set_option linter.unusedVariables false
structure KRSt (w0:World) (rb bb gr cr mb cm:Nat) (m:Mach) (ao:Option Addr) (co:Nat) (w:World):Prop where
 box:w.heap[bb]? = some (.cells #[.slice (some ⟨gr,0,none⟩) 8 cr,.int .i64 m.pc,.int .i64 m.back,.bool m.ints,.bool m.wait,.int .i64 m.table,.int .i64 m.count,.int .i64 m.fin,.slice (some ⟨mb,0,none⟩) 256 cm,.slice ao m.out.length co,.int .i64 m.ready,.int .i64 m.want] 34 (0,0))
 rbox:w.heap[rb]? = some (.cells #[.slice none 0 0,.int .i64 0,.int .i64 0,.bool false,.bool false,.int .i64 0,.int .i64 0,.int .i64 0,.slice none 0 0,.slice none 0 0,.int .i64 0,.int .i64 0] 34 (0,0))
 regs:w.ownsRow 0 3 1 (.slice (some ⟨gr,0,none⟩) 8 cr) 8 (m.regs.map (Value.int .i64))
 mem:w.ownsRow 0 3 1 (.slice (some ⟨mb,0,none⟩) 256 cm) 256 (m.mem.map (Value.int .i64))
 out:w.ownsRow 0 3 1 (.slice ao m.out.length co) m.out.length (m.out.map (Value.int .i64))
 ne:rb≠bb
 rm:gr≠mb
 ro:(Value.slice ao m.out.length co).ownBlock≠some gr
 mo:(Value.slice ao m.out.length co).ownBlock≠some mb
 old:Below w0.heap.size w0 w
 lb:w0.heap.size≤bb
 lr:w0.heap.size≤gr
 lm:w0.heap.size≤mb
 lo:∀ g,(Value.slice ao m.out.length co).ownBlock=some g→w0.heap.size≤g
def RS (w0:World) (rb bb gr cr mb cm:Nat) (m:Mach) (w:World):Prop:=∃ ao co,KRSt w0 rb bb gr cr mb cm m ao co w
section
variable {w0 w:World} {rb bb gr cr mb cm:Nat} {m:Mach} {ao:Option Addr} {co:Nat}
theorem KRSt.blt (h:KRSt w0 rb bb gr cr mb cm m ao co w):bb < w.heap.size:=(Array.getElem?_eq_some_iff.1 h.box).1
theorem KRSt.rbl (h:KRSt w0 rb bb gr cr mb cm m ao co w):rb < w.heap.size:=(Array.getElem?_eq_some_iff.1 h.rbox).1
theorem KRSt.kept (h:KRSt w0 rb bb gr cr mb cm m ao co w) {w':World} (hb:Below w.heap.size w w'):KRSt w0 rb bb gr cr mb cm m ao co w':=
 ⟨block_below hb h.box h.blt,block_below hb h.rbox h.rbl,own_below h.regs hb (Nat.le_refl _),own_below h.mem hb (Nat.le_refl _),own_below h.out hb (Nat.le_refl _),h.ne,h.rm,h.ro,h.mo,h.old.trans (hb.mono h.old.size),h.lb,h.lr,h.lm,h.lo⟩
theorem KRSt.alloc (h:KRSt w0 rb bb gr cr mb cm m ao co w) (o:Obj):KRSt w0 rb bb gr cr mb cm m ao co (w.alloc o):=h.kept (below_alloc w o)
theorem KRSt.drewN (h:KRSt w0 rb bb gr cr mb cm m ao co w) (n:Nat):KRSt w0 rb bb gr cr mb cm m ao co (w.drewN n):=h.kept (below_drewN (Below.refl _ _) n)
theorem KRSt.drew (h:KRSt w0 rb bb gr cr mb cm m ao co w):KRSt w0 rb bb gr cr mb cm m ao co w.drew:=h.drewN 1
end
structure ZSt (w0:World) (D:Nat→Prop) (rb bb gr cr mb cm:Nat) (m:Mach) (ao:Option Addr) (co:Nat) (w:World):Prop where
 box:w.heap[bb]? = some (.cells #[.slice (some ⟨gr,0,none⟩) 8 cr,.int .i64 m.pc,.int .i64 m.back,.bool m.ints,.bool m.wait,.int .i64 m.table,.int .i64 m.count,.int .i64 m.fin,.slice (some ⟨mb,0,none⟩) 256 cm,.slice ao m.out.length co,.int .i64 m.ready,.int .i64 m.want] 34 (0,0))
 rbox:w.heap[rb]? = some (.cells #[.slice none 0 0,.int .i64 0,.int .i64 0,.bool false,.bool false,.int .i64 0,.int .i64 0,.int .i64 0,.slice none 0 0,.slice none 0 0,.int .i64 0,.int .i64 0] 34 (0,0))
 regs:w.ownsRow 0 3 1 (.slice (some ⟨gr,0,none⟩) 8 cr) 8 (m.regs.map (Value.int .i64))
 mem:w.ownsRow 0 3 1 (.slice (some ⟨mb,0,none⟩) 256 cm) 256 (m.mem.map (Value.int .i64))
 out:w.ownsRow 0 3 1 (.slice ao m.out.length co) m.out.length (m.out.map (Value.int .i64))
 ne:rb≠bb
 rm:gr≠mb
 ro:(Value.slice ao m.out.length co).ownBlock≠some gr
 mo:(Value.slice ao m.out.length co).ownBlock≠some mb
 old:OutF D w0 w
 lb:D bb∨w0.heap.size≤bb
 lr:D gr∨w0.heap.size≤gr
 lm:D mb∨w0.heap.size≤mb
 lo:∀ g,(Value.slice ao m.out.length co).ownBlock=some g→D g∨w0.heap.size≤g
section
variable {w0 w:World} {D:Nat→Prop} {rb bb gr cr mb cm:Nat} {m:Mach} {ao:Option Addr} {co:Nat}
theorem ZSt.blt (h:ZSt w0 D rb bb gr cr mb cm m ao co w):bb < w.heap.size:=(Array.getElem?_eq_some_iff.1 h.box).1
theorem ZSt.rbl (h:ZSt w0 D rb bb gr cr mb cm m ao co w):rb < w.heap.size:=(Array.getElem?_eq_some_iff.1 h.rbox).1
theorem ZSt.kept (h:ZSt w0 D rb bb gr cr mb cm m ao co w) {w':World} (hb:Below w.heap.size w w'):ZSt w0 D rb bb gr cr mb cm m ao co w':=
 ⟨block_below hb h.box h.blt,block_below hb h.rbox h.rbl,own_below h.regs hb (Nat.le_refl _),own_below h.mem hb (Nat.le_refl _),own_below h.out hb (Nat.le_refl _),h.ne,h.rm,h.ro,h.mo,h.old.trans (OutF.of hb (fun _=>False)) (fun _ q=>q.elim),h.lb,h.lr,h.lm,h.lo⟩
theorem ZSt.alloc (h:ZSt w0 D rb bb gr cr mb cm m ao co w) (o:Obj):ZSt w0 D rb bb gr cr mb cm m ao co (w.alloc o):=h.kept (below_alloc w o)
theorem ZSt.drewN (h:ZSt w0 D rb bb gr cr mb cm m ao co w) (n:Nat):ZSt w0 D rb bb gr cr mb cm m ao co (w.drewN n):=h.kept (below_drewN (Below.refl _ _) n)
theorem ZSt.drew (h:ZSt w0 D rb bb gr cr mb cm m ao co w):ZSt w0 D rb bb gr cr mb cm m ao co w.drew:=h.drewN 1
end
theorem irqM_fin (m:Mach) (irq:Bool):(irqM m irq).fin=m.fin∧(irqM m irq).count=m.count:=by
 unfold irqM;split <;> exact⟨rfl,rfl⟩
theorem blockM_fin (m:Mach) (b:List Int):(blockM m b).fin=m.fin∧(blockM m b).count=m.count:=by
 unfold blockM comesM;repeat' split
 all_goals exact⟨rfl,rfl⟩
theorem enterM_fin (m:Mach):(enterM m).fin=m.fin∧(enterM m).count=m.count:=by
 unfold enterM;split <;> exact⟨rfl,rfl⟩
theorem stepM_end {m:Mach} (h:m.fin≠0) (irq:Bool) (b:List Int) (v:Int):stepM m irq b v=(m,-1):=by
 have h1:irqM m irq=m:=by unfold irqM;rw [if_neg (fun k=>h k.1)]
 have h2:blockM m b=m:=by
  unfold blockM comesM;split
  · rfl
  · rw [if_pos (Or.inr h)]
 have h3:enterM m=m:=by unfold enterM;rw [if_neg (fun k=>h k.2.2)]
 unfold stepM
 rw [h1,h2,h3]
 unfold execM
 rw [if_pos h]
structure ZM (w0:World) (D:Nat→Prop) (rb gr cr mb cm:Nat) (m:Mach) (ao:Option Addr) (co:Nat) (w:World):Prop where
 rbox:∃ cs,w.heap[rb]? = some (.cells cs 34 (0,0))
 regs:w.ownsRow 0 3 1 (.slice (some ⟨gr,0,none⟩) 8 cr) 8 (m.regs.map (Value.int .i64))
 mem:w.ownsRow 0 3 1 (.slice (some ⟨mb,0,none⟩) 256 cm) 256 (m.mem.map (Value.int .i64))
 out:w.ownsRow 0 3 1 (.slice ao m.out.length co) m.out.length (m.out.map (Value.int .i64))
 rm:gr≠mb
 ro:(Value.slice ao m.out.length co).ownBlock≠some gr
 mo:(Value.slice ao m.out.length co).ownBlock≠some mb
 old:OutF D w0 w
 lr:D gr∨w0.heap.size≤gr
 lm:D mb∨w0.heap.size≤mb
 lo:∀ g,(Value.slice ao m.out.length co).ownBlock=some g→D g∨w0.heap.size≤g
section
variable {w0 w:World} {D:Nat→Prop} {rb bb gr cr mb cm:Nat} {m:Mach} {ao:Option Addr} {co:Nat}
theorem ZM.drew (h:ZM w0 D rb gr cr mb cm m ao co w):ZM w0 D rb gr cr mb cm m ao co w.drew:=⟨h.rbox,h.regs,h.mem,h.out,h.rm,h.ro,h.mo,h.old.drewN 1,h.lr,h.lm,h.lo⟩
end
structure ZA (w0:World) (D:Nat→Prop) (gr cr mb cm:Nat) (m:Mach) (ao:Option Addr) (co:Nat) (w:World):Prop where
 regs:w.ownsRow 0 3 1 (.slice (some ⟨gr,0,none⟩) 8 cr) 8 (m.regs.map (Value.int .i64))
 mem:w.ownsRow 0 3 1 (.slice (some ⟨mb,0,none⟩) 256 cm) 256 (m.mem.map (Value.int .i64))
 out:w.ownsRow 0 3 1 (.slice ao m.out.length co) m.out.length (m.out.map (Value.int .i64))
 rm:gr≠mb
 ro:(Value.slice ao m.out.length co).ownBlock≠some gr
 mo:(Value.slice ao m.out.length co).ownBlock≠some mb
 old:OutF D w0 w
 lr:D gr∨w0.heap.size≤gr
 lm:D mb∨w0.heap.size≤mb
 lo:∀ g,(Value.slice ao m.out.length co).ownBlock=some g→D g∨w0.heap.size≤g
end Go.Proofs.YtkahciebbnhobaaGreatDoor
