/- Several texts joined, each with its own heading in the notes: Record's end. run. No condition beyond those of each row. -/
import Derived.Test.YtkahciebbnhobaaGreatDoorYQd
import Derived.Deep.RegionHeld3
import Derived.Handy
import Derived.StillTailTactics
import Derived.Deep.RegionWith
import Derived.Deep.RegionLaw
import Derived.Deep.CutBlock
import Derived.Deep.CutRange
import Derived.Deep.LoopGhost
import Derived.Test.YtkahciebbnhobaaGreatDoorYQg
namespace Go.Proofs.YtkahciebbnhobaaGreatDoor
open Go Go.RowKit Go.ChangeShapes Go.WideShapes Go.Deep
set_option maxHeartbeats 16000000
set_option maxRecDepth 100000
set_option linter.unusedVariables false
attribute [local go_sem ↓] Go.wp_at_zero Go.wp_at_succ
structure FinS (w0:World) (g1 g2:Nat) (m:Mach) (vr vm vo:Value) (va:Value) (na:Nat) (xa:List Value) (vb:Value) (nb:Nat) (xb:List Value) (w:World):Prop where
 own:MachOwn w0.heap.size w m vr vm vo
 ra:w.ownsRow w0.heap.size 3 1 va na xa
 rb:w.ownsRow w0.heap.size 5 1 vb nb xb
 b1:∃ cs,w.heap[g1]? = some (.cells cs 32 (0,0))
 b2:∃ cs,w.heap[g2]? = some (.cells cs 34 (0,0))
 below:Below w0.heap.size w0 w
 ne:g1≠g2
 l1:w0.heap.size≤g1
 l2:w0.heap.size≤g2
section
variable {w0 w:World} {g1 g2:Nat} {m:Mach} {vr vm vo va vb:Value} {na nb:Nat} {xa xb:List Value}
theorem FinS.s1 (h:FinS w0 g1 g2 m vr vm vo va na xa vb nb xb w) (i:Nat) (u:Value):FinS w0 g1 g2 m vr vm vo va na xa vb nb xb (w.setCell ⟨g1,i,none⟩ u):=by
 obtain⟨c1,hx1⟩:=h.b1
 obtain⟨c2,hx2⟩:=h.b2
 exact⟨h.own.set hx1 (by decide),own_set h.ra (own_ne_block h.ra hx1 (by decide)) u,own_set h.rb (own_ne_block h.rb hx1 (by decide)) u,⟨_,set_block hx1 u⟩,⟨_,set_block_ne hx2 (fun e=>h.ne e.symm) u⟩,h.below.setCell (by simpa using h.l1) u,h.ne,h.l1,h.l2⟩
theorem FinS.s2 (h:FinS w0 g1 g2 m vr vm vo va na xa vb nb xb w) (i:Nat) (u:Value):FinS w0 g1 g2 m vr vm vo va na xa vb nb xb (w.setCell ⟨g2,i,none⟩ u):=by
 obtain⟨c1,hx1⟩:=h.b1
 obtain⟨c2,hx2⟩:=h.b2
 exact⟨h.own.set hx2 (by decide),own_set h.ra (own_ne_block h.ra hx2 (by decide)) u,own_set h.rb (own_ne_block h.rb hx2 (by decide)) u,⟨_,set_block_ne hx1 h.ne u⟩,⟨_,set_block hx2 u⟩,h.below.setCell (by simpa using h.l2) u,h.ne,h.l1,h.l2⟩
theorem FinS.drew (h:FinS w0 g1 g2 m vr vm vo va na xa vb nb xb w):FinS w0 g1 g2 m vr vm vo va na xa vb nb xb w.drew:=⟨⟨h.own.hr,h.own.hm,h.own.ho,h.own.rm,h.own.ro,h.own.mo,h.own.mr,h.own.or,h.own.om⟩,h.ra,h.rb,h.b1,h.b2,below_drewN h.below 1,h.ne,h.l1,h.l2⟩
end
theorem RcS.fin {w0 w:World} {E cb ob gr cr mb cm:Nat} {is vs:List Int} {bs:List (List Int)} {ds:List Int} {due:Int} {b:List Int} {ps:List (Ev × Value)} {aa:Option Addr} {ca:Nat} {ak:Option Addr} {nk ck:Nat} {m:Mach} {C:Nat→Prop} (h:RcS w0 E cb ob gr cr mb cm is vs bs ds due b ps aa ca ak nk ck m C w) {wq:World} (hw:Below wq.heap.size wq w0) {g:Nat} (hg:∃ cs,w.heap[g]? = some (.cells cs 34 (0,0))):∃ wro ao co,w.heap[cb]? = some (.cells #[.slice (some ⟨gr,0,none⟩) 8 cr,.int .i64 m.pc,.int .i64 m.back,.bool m.ints,.bool m.wait,.int .i64 m.table,.int .i64 m.count,.int .i64 m.fin,.slice (some ⟨mb,0,none⟩) 256 cm,.slice ao m.out.length co,.int .i64 m.ready,.int .i64 m.want,.int .i64 wro] 66 (0,0))∧SInv wq g m (.slice (some ⟨gr,0,none⟩) 8 cr) (.slice (some ⟨mb,0,none⟩) 256 cm) (.slice ao m.out.length co) w:=by
 obtain⟨wro,ao,co,F,rfl,hgs,_,_,hm,_⟩:=h
 exact⟨wro,ao,co,hgs.box,hgs.sinv (fun k q=>q) hm hw hg⟩
theorem fin_close {w v0 v1 v2 v3 v4 v5 v6 v7 v8 v9 v10 v11 v12 v13 v14 v15:World} {gr cr mb cm nb cb2 ci2:Nat} {ai2 ab ao:Option Addr} {co:Nat} {m:Mach} {img:List Int} {xb:List Value} (HXM:v0.heap[w.heap.size+2]? = some (.cells #[.slice none 0 0,.int .i64 0,.int .i64 0,.bool false,.bool false,.int .i64 0,.int .i64 0,.int .i64 0,.slice none 0 0,.slice none 0 0,.int .i64 0,.int .i64 0] 34 (0,0))) (HXT:v0.heap[w.heap.size+1]? = some (.cells #[.slice none 0 0,.slice none 0 0,.int .i64 0] 32 (0,0))) (hz:FinS w (w.heap.size+1) (w.heap.size+2) m (.slice (some ⟨gr,0,none⟩) 8 cr) (.slice (some ⟨mb,0,none⟩) 256 cm) (.slice ao m.out.length co) (.slice ai2 img.length ci2) img.length (img.map (Value.int .i64)) (.slice ab nb cb2) nb xb v0) (e1:v1=v0.setCell ⟨w.heap.size+1,0,none⟩ (.slice ai2 img.length ci2)) (e2:v2=v1.setCell ⟨w.heap.size+1,1,none⟩ (.slice ab nb cb2)) (e3:v3=v2.setCell ⟨w.heap.size+1,2,none⟩ (.int .i64 m.count)) (e4:v4=v3.setCell ⟨w.heap.size+2,0,none⟩ (.slice (some ⟨gr,0,none⟩) 8 cr)) (e5:v5=v4.setCell ⟨w.heap.size+2,1,none⟩ (.int .i64 m.pc)) (e6:v6=v5.setCell ⟨w.heap.size+2,2,none⟩ (.int .i64 m.back)) (e7:v7=v6.setCell ⟨w.heap.size+2,3,none⟩ (.bool m.ints)) (e8:v8=v7.setCell ⟨w.heap.size+2,4,none⟩ (.bool m.wait)) (e9:v9=v8.setCell ⟨w.heap.size+2,5,none⟩ (.int .i64 m.table)) (e10:v10=v9.setCell ⟨w.heap.size+2,6,none⟩ (.int .i64 m.count)) (e11:v11=v10.setCell ⟨w.heap.size+2,7,none⟩ (.int .i64 m.fin)) (e12:v12=v11.setCell ⟨w.heap.size+2,8,none⟩ (.slice (some ⟨mb,0,none⟩) 256 cm)) (e13:v13=v12.setCell ⟨w.heap.size+2,9,none⟩ (.slice ao m.out.length co)) (e14:v14=v13.setCell ⟨w.heap.size+2,10,none⟩ (.int .i64 m.ready)) (e15:v15=v14.setCell ⟨w.heap.size+2,11,none⟩ (.int .i64 m.want)):v15.heap[w.heap.size+2]? = some (.cells #[.slice (some ⟨gr,0,none⟩) 8 cr,.int .i64 m.pc,.int .i64 m.back,.bool m.ints,.bool m.wait,.int .i64 m.table,.int .i64 m.count,.int .i64 m.fin,.slice (some ⟨mb,0,none⟩) 256 cm,.slice ao m.out.length co,.int .i64 m.ready,.int .i64 m.want] 34 (0,0))∧v15.heap[w.heap.size+1]? = some (.cells #[.slice ai2 img.length ci2,.slice ab nb cb2,.int .i64 m.count] 32 (0,0))∧FinS w (w.heap.size+1) (w.heap.size+2) m (.slice (some ⟨gr,0,none⟩) 8 cr) (.slice (some ⟨mb,0,none⟩) 256 cm) (.slice ao m.out.length co) (.slice ai2 img.length ci2) img.length (img.map (Value.int .i64)) (.slice ab nb cb2) nb xb v15:=by
 have hgt:w.heap.size+2≠w.heap.size+1:=by omega
 have b0:=HXM
 have d0:=HXT
 have z0:=hz
 have b1:v1.heap[w.heap.size+2]? = some (.cells #[.slice none 0 0,.int .i64 0,.int .i64 0,.bool false,.bool false,.int .i64 0,.int .i64 0,.int .i64 0,.slice none 0 0,.slice none 0 0,.int .i64 0,.int .i64 0] 34 (0,0)):=by rw [e1];exact set_block_ne b0 hgt _
 have d1:v1.heap[w.heap.size+1]? = some (.cells #[.slice ai2 img.length ci2,.slice none 0 0,.int .i64 0] 32 (0,0)):=by rw [e1];exact set_block d0 _
 have z1:FinS w (w.heap.size+1) (w.heap.size+2) m (.slice (some ⟨gr,0,none⟩) 8 cr) (.slice (some ⟨mb,0,none⟩) 256 cm) (.slice ao m.out.length co) (.slice ai2 img.length ci2) img.length (img.map (Value.int .i64)) (.slice ab nb cb2) nb xb v1:=by rw [e1];exact z0.s1 0 _
 have b2:v2.heap[w.heap.size+2]? = some (.cells #[.slice none 0 0,.int .i64 0,.int .i64 0,.bool false,.bool false,.int .i64 0,.int .i64 0,.int .i64 0,.slice none 0 0,.slice none 0 0,.int .i64 0,.int .i64 0] 34 (0,0)):=by rw [e2];exact set_block_ne b1 hgt _
 have d2:v2.heap[w.heap.size+1]? = some (.cells #[.slice ai2 img.length ci2,.slice ab nb cb2,.int .i64 0] 32 (0,0)):=by rw [e2];exact set_block d1 _
 have z2:FinS w (w.heap.size+1) (w.heap.size+2) m (.slice (some ⟨gr,0,none⟩) 8 cr) (.slice (some ⟨mb,0,none⟩) 256 cm) (.slice ao m.out.length co) (.slice ai2 img.length ci2) img.length (img.map (Value.int .i64)) (.slice ab nb cb2) nb xb v2:=by rw [e2];exact z1.s1 1 _
 have b3:v3.heap[w.heap.size+2]? = some (.cells #[.slice none 0 0,.int .i64 0,.int .i64 0,.bool false,.bool false,.int .i64 0,.int .i64 0,.int .i64 0,.slice none 0 0,.slice none 0 0,.int .i64 0,.int .i64 0] 34 (0,0)):=by rw [e3];exact set_block_ne b2 hgt _
 have d3:v3.heap[w.heap.size+1]? = some (.cells #[.slice ai2 img.length ci2,.slice ab nb cb2,.int .i64 m.count] 32 (0,0)):=by rw [e3];exact set_block d2 _
 have z3:FinS w (w.heap.size+1) (w.heap.size+2) m (.slice (some ⟨gr,0,none⟩) 8 cr) (.slice (some ⟨mb,0,none⟩) 256 cm) (.slice ao m.out.length co) (.slice ai2 img.length ci2) img.length (img.map (Value.int .i64)) (.slice ab nb cb2) nb xb v3:=by rw [e3];exact z2.s1 2 _
 have b4:v4.heap[w.heap.size+2]? = some (.cells #[.slice (some ⟨gr,0,none⟩) 8 cr,.int .i64 0,.int .i64 0,.bool false,.bool false,.int .i64 0,.int .i64 0,.int .i64 0,.slice none 0 0,.slice none 0 0,.int .i64 0,.int .i64 0] 34 (0,0)):=by rw [e4];exact set_block b3 _
 have d4:v4.heap[w.heap.size+1]? = some (.cells #[.slice ai2 img.length ci2,.slice ab nb cb2,.int .i64 m.count] 32 (0,0)):=by rw [e4];exact set_block_ne d3 hgt.symm _
 have z4:FinS w (w.heap.size+1) (w.heap.size+2) m (.slice (some ⟨gr,0,none⟩) 8 cr) (.slice (some ⟨mb,0,none⟩) 256 cm) (.slice ao m.out.length co) (.slice ai2 img.length ci2) img.length (img.map (Value.int .i64)) (.slice ab nb cb2) nb xb v4:=by rw [e4];exact z3.s2 0 _
 have b5:v5.heap[w.heap.size+2]? = some (.cells #[.slice (some ⟨gr,0,none⟩) 8 cr,.int .i64 m.pc,.int .i64 0,.bool false,.bool false,.int .i64 0,.int .i64 0,.int .i64 0,.slice none 0 0,.slice none 0 0,.int .i64 0,.int .i64 0] 34 (0,0)):=by rw [e5];exact set_block b4 _
 have d5:v5.heap[w.heap.size+1]? = some (.cells #[.slice ai2 img.length ci2,.slice ab nb cb2,.int .i64 m.count] 32 (0,0)):=by rw [e5];exact set_block_ne d4 hgt.symm _
 have z5:FinS w (w.heap.size+1) (w.heap.size+2) m (.slice (some ⟨gr,0,none⟩) 8 cr) (.slice (some ⟨mb,0,none⟩) 256 cm) (.slice ao m.out.length co) (.slice ai2 img.length ci2) img.length (img.map (Value.int .i64)) (.slice ab nb cb2) nb xb v5:=by rw [e5];exact z4.s2 1 _
 have b6:v6.heap[w.heap.size+2]? = some (.cells #[.slice (some ⟨gr,0,none⟩) 8 cr,.int .i64 m.pc,.int .i64 m.back,.bool false,.bool false,.int .i64 0,.int .i64 0,.int .i64 0,.slice none 0 0,.slice none 0 0,.int .i64 0,.int .i64 0] 34 (0,0)):=by rw [e6];exact set_block b5 _
 have d6:v6.heap[w.heap.size+1]? = some (.cells #[.slice ai2 img.length ci2,.slice ab nb cb2,.int .i64 m.count] 32 (0,0)):=by rw [e6];exact set_block_ne d5 hgt.symm _
 have z6:FinS w (w.heap.size+1) (w.heap.size+2) m (.slice (some ⟨gr,0,none⟩) 8 cr) (.slice (some ⟨mb,0,none⟩) 256 cm) (.slice ao m.out.length co) (.slice ai2 img.length ci2) img.length (img.map (Value.int .i64)) (.slice ab nb cb2) nb xb v6:=by rw [e6];exact z5.s2 2 _
 have b7:v7.heap[w.heap.size+2]? = some (.cells #[.slice (some ⟨gr,0,none⟩) 8 cr,.int .i64 m.pc,.int .i64 m.back,.bool m.ints,.bool false,.int .i64 0,.int .i64 0,.int .i64 0,.slice none 0 0,.slice none 0 0,.int .i64 0,.int .i64 0] 34 (0,0)):=by rw [e7];exact set_block b6 _
 have d7:v7.heap[w.heap.size+1]? = some (.cells #[.slice ai2 img.length ci2,.slice ab nb cb2,.int .i64 m.count] 32 (0,0)):=by rw [e7];exact set_block_ne d6 hgt.symm _
 have z7:FinS w (w.heap.size+1) (w.heap.size+2) m (.slice (some ⟨gr,0,none⟩) 8 cr) (.slice (some ⟨mb,0,none⟩) 256 cm) (.slice ao m.out.length co) (.slice ai2 img.length ci2) img.length (img.map (Value.int .i64)) (.slice ab nb cb2) nb xb v7:=by rw [e7];exact z6.s2 3 _
 have b8:v8.heap[w.heap.size+2]? = some (.cells #[.slice (some ⟨gr,0,none⟩) 8 cr,.int .i64 m.pc,.int .i64 m.back,.bool m.ints,.bool m.wait,.int .i64 0,.int .i64 0,.int .i64 0,.slice none 0 0,.slice none 0 0,.int .i64 0,.int .i64 0] 34 (0,0)):=by rw [e8];exact set_block b7 _
 have d8:v8.heap[w.heap.size+1]? = some (.cells #[.slice ai2 img.length ci2,.slice ab nb cb2,.int .i64 m.count] 32 (0,0)):=by rw [e8];exact set_block_ne d7 hgt.symm _
 have z8:FinS w (w.heap.size+1) (w.heap.size+2) m (.slice (some ⟨gr,0,none⟩) 8 cr) (.slice (some ⟨mb,0,none⟩) 256 cm) (.slice ao m.out.length co) (.slice ai2 img.length ci2) img.length (img.map (Value.int .i64)) (.slice ab nb cb2) nb xb v8:=by rw [e8];exact z7.s2 4 _
 have b9:v9.heap[w.heap.size+2]? = some (.cells #[.slice (some ⟨gr,0,none⟩) 8 cr,.int .i64 m.pc,.int .i64 m.back,.bool m.ints,.bool m.wait,.int .i64 m.table,.int .i64 0,.int .i64 0,.slice none 0 0,.slice none 0 0,.int .i64 0,.int .i64 0] 34 (0,0)):=by rw [e9];exact set_block b8 _
 have d9:v9.heap[w.heap.size+1]? = some (.cells #[.slice ai2 img.length ci2,.slice ab nb cb2,.int .i64 m.count] 32 (0,0)):=by rw [e9];exact set_block_ne d8 hgt.symm _
 have z9:FinS w (w.heap.size+1) (w.heap.size+2) m (.slice (some ⟨gr,0,none⟩) 8 cr) (.slice (some ⟨mb,0,none⟩) 256 cm) (.slice ao m.out.length co) (.slice ai2 img.length ci2) img.length (img.map (Value.int .i64)) (.slice ab nb cb2) nb xb v9:=by rw [e9];exact z8.s2 5 _
 have b10:v10.heap[w.heap.size+2]? = some (.cells #[.slice (some ⟨gr,0,none⟩) 8 cr,.int .i64 m.pc,.int .i64 m.back,.bool m.ints,.bool m.wait,.int .i64 m.table,.int .i64 m.count,.int .i64 0,.slice none 0 0,.slice none 0 0,.int .i64 0,.int .i64 0] 34 (0,0)):=by rw [e10];exact set_block b9 _
 have d10:v10.heap[w.heap.size+1]? = some (.cells #[.slice ai2 img.length ci2,.slice ab nb cb2,.int .i64 m.count] 32 (0,0)):=by rw [e10];exact set_block_ne d9 hgt.symm _
 have z10:FinS w (w.heap.size+1) (w.heap.size+2) m (.slice (some ⟨gr,0,none⟩) 8 cr) (.slice (some ⟨mb,0,none⟩) 256 cm) (.slice ao m.out.length co) (.slice ai2 img.length ci2) img.length (img.map (Value.int .i64)) (.slice ab nb cb2) nb xb v10:=by rw [e10];exact z9.s2 6 _
 have b11:v11.heap[w.heap.size+2]? = some (.cells #[.slice (some ⟨gr,0,none⟩) 8 cr,.int .i64 m.pc,.int .i64 m.back,.bool m.ints,.bool m.wait,.int .i64 m.table,.int .i64 m.count,.int .i64 m.fin,.slice none 0 0,.slice none 0 0,.int .i64 0,.int .i64 0] 34 (0,0)):=by rw [e11];exact set_block b10 _
 have d11:v11.heap[w.heap.size+1]? = some (.cells #[.slice ai2 img.length ci2,.slice ab nb cb2,.int .i64 m.count] 32 (0,0)):=by rw [e11];exact set_block_ne d10 hgt.symm _
 have z11:FinS w (w.heap.size+1) (w.heap.size+2) m (.slice (some ⟨gr,0,none⟩) 8 cr) (.slice (some ⟨mb,0,none⟩) 256 cm) (.slice ao m.out.length co) (.slice ai2 img.length ci2) img.length (img.map (Value.int .i64)) (.slice ab nb cb2) nb xb v11:=by rw [e11];exact z10.s2 7 _
 have b12:v12.heap[w.heap.size+2]? = some (.cells #[.slice (some ⟨gr,0,none⟩) 8 cr,.int .i64 m.pc,.int .i64 m.back,.bool m.ints,.bool m.wait,.int .i64 m.table,.int .i64 m.count,.int .i64 m.fin,.slice (some ⟨mb,0,none⟩) 256 cm,.slice none 0 0,.int .i64 0,.int .i64 0] 34 (0,0)):=by rw [e12];exact set_block b11 _
 have d12:v12.heap[w.heap.size+1]? = some (.cells #[.slice ai2 img.length ci2,.slice ab nb cb2,.int .i64 m.count] 32 (0,0)):=by rw [e12];exact set_block_ne d11 hgt.symm _
 have z12:FinS w (w.heap.size+1) (w.heap.size+2) m (.slice (some ⟨gr,0,none⟩) 8 cr) (.slice (some ⟨mb,0,none⟩) 256 cm) (.slice ao m.out.length co) (.slice ai2 img.length ci2) img.length (img.map (Value.int .i64)) (.slice ab nb cb2) nb xb v12:=by rw [e12];exact z11.s2 8 _
 have b13:v13.heap[w.heap.size+2]? = some (.cells #[.slice (some ⟨gr,0,none⟩) 8 cr,.int .i64 m.pc,.int .i64 m.back,.bool m.ints,.bool m.wait,.int .i64 m.table,.int .i64 m.count,.int .i64 m.fin,.slice (some ⟨mb,0,none⟩) 256 cm,.slice ao m.out.length co,.int .i64 0,.int .i64 0] 34 (0,0)):=by rw [e13];exact set_block b12 _
 have d13:v13.heap[w.heap.size+1]? = some (.cells #[.slice ai2 img.length ci2,.slice ab nb cb2,.int .i64 m.count] 32 (0,0)):=by rw [e13];exact set_block_ne d12 hgt.symm _
 have z13:FinS w (w.heap.size+1) (w.heap.size+2) m (.slice (some ⟨gr,0,none⟩) 8 cr) (.slice (some ⟨mb,0,none⟩) 256 cm) (.slice ao m.out.length co) (.slice ai2 img.length ci2) img.length (img.map (Value.int .i64)) (.slice ab nb cb2) nb xb v13:=by rw [e13];exact z12.s2 9 _
 have b14:v14.heap[w.heap.size+2]? = some (.cells #[.slice (some ⟨gr,0,none⟩) 8 cr,.int .i64 m.pc,.int .i64 m.back,.bool m.ints,.bool m.wait,.int .i64 m.table,.int .i64 m.count,.int .i64 m.fin,.slice (some ⟨mb,0,none⟩) 256 cm,.slice ao m.out.length co,.int .i64 m.ready,.int .i64 0] 34 (0,0)):=by rw [e14];exact set_block b13 _
 have d14:v14.heap[w.heap.size+1]? = some (.cells #[.slice ai2 img.length ci2,.slice ab nb cb2,.int .i64 m.count] 32 (0,0)):=by rw [e14];exact set_block_ne d13 hgt.symm _
 have z14:FinS w (w.heap.size+1) (w.heap.size+2) m (.slice (some ⟨gr,0,none⟩) 8 cr) (.slice (some ⟨mb,0,none⟩) 256 cm) (.slice ao m.out.length co) (.slice ai2 img.length ci2) img.length (img.map (Value.int .i64)) (.slice ab nb cb2) nb xb v14:=by rw [e14];exact z13.s2 10 _
 have b15:v15.heap[w.heap.size+2]? = some (.cells #[.slice (some ⟨gr,0,none⟩) 8 cr,.int .i64 m.pc,.int .i64 m.back,.bool m.ints,.bool m.wait,.int .i64 m.table,.int .i64 m.count,.int .i64 m.fin,.slice (some ⟨mb,0,none⟩) 256 cm,.slice ao m.out.length co,.int .i64 m.ready,.int .i64 m.want] 34 (0,0)):=by rw [e15];exact set_block b14 _
 have d15:v15.heap[w.heap.size+1]? = some (.cells #[.slice ai2 img.length ci2,.slice ab nb cb2,.int .i64 m.count] 32 (0,0)):=by rw [e15];exact set_block_ne d14 hgt.symm _
 have z15:FinS w (w.heap.size+1) (w.heap.size+2) m (.slice (some ⟨gr,0,none⟩) 8 cr) (.slice (some ⟨mb,0,none⟩) 256 cm) (.slice ao m.out.length co) (.slice ai2 img.length ci2) img.length (img.map (Value.int .i64)) (.slice ab nb cb2) nb xb v15:=by rw [e15];exact z14.s2 11 _
 exact⟨b15,d15,z15⟩
theorem fin_all {w v0 v1 v2 v3 v4 v5 v6 v7 v8 v9 v10 v11 v12 v13 v14 v15:World} {gr cr mb cm nb cb2 ci2:Nat} {ai2 ab ao:Option Addr} {co:Nat} {m:Mach} {img:List Int} {xb:List Value} (HXM:v0.heap[w.heap.size+2]? = some (.cells #[.slice none 0 0,.int .i64 0,.int .i64 0,.bool false,.bool false,.int .i64 0,.int .i64 0,.int .i64 0,.slice none 0 0,.slice none 0 0,.int .i64 0,.int .i64 0] 34 (0,0))) (HXT:v0.heap[w.heap.size+1]? = some (.cells #[.slice none 0 0,.slice none 0 0,.int .i64 0] 32 (0,0))) (hz:FinS w (w.heap.size+1) (w.heap.size+2) m (.slice (some ⟨gr,0,none⟩) 8 cr) (.slice (some ⟨mb,0,none⟩) 256 cm) (.slice ao m.out.length co) (.slice ai2 img.length ci2) img.length (img.map (Value.int .i64)) (.slice ab nb cb2) nb xb v0) (e1:v1=v0.setCell ⟨w.heap.size+1,0,none⟩ (.slice ai2 img.length ci2)) (e2:v2=v1.setCell ⟨w.heap.size+1,1,none⟩ (.slice ab nb cb2)) (e3:v3=v2.setCell ⟨w.heap.size+1,2,none⟩ (.int .i64 m.count)) (e4:v4=v3.setCell ⟨w.heap.size+2,0,none⟩ (.slice (some ⟨gr,0,none⟩) 8 cr)) (e5:v5=v4.setCell ⟨w.heap.size+2,1,none⟩ (.int .i64 m.pc)) (e6:v6=v5.setCell ⟨w.heap.size+2,2,none⟩ (.int .i64 m.back)) (e7:v7=v6.setCell ⟨w.heap.size+2,3,none⟩ (.bool m.ints)) (e8:v8=v7.setCell ⟨w.heap.size+2,4,none⟩ (.bool m.wait)) (e9:v9=v8.setCell ⟨w.heap.size+2,5,none⟩ (.int .i64 m.table)) (e10:v10=v9.setCell ⟨w.heap.size+2,6,none⟩ (.int .i64 m.count)) (e11:v11=v10.setCell ⟨w.heap.size+2,7,none⟩ (.int .i64 m.fin)) (e12:v12=v11.setCell ⟨w.heap.size+2,8,none⟩ (.slice (some ⟨mb,0,none⟩) 256 cm)) (e13:v13=v12.setCell ⟨w.heap.size+2,9,none⟩ (.slice ao m.out.length co)) (e14:v14=v13.setCell ⟨w.heap.size+2,10,none⟩ (.int .i64 m.ready)) (e15:v15=v14.setCell ⟨w.heap.size+2,11,none⟩ (.int .i64 m.want)):Value.int .i64 0=.int .i64 0∧∃ (ai2:Option Addr) (ci2:Nat),Hid (v15.heap[w.heap.size+2]? = some (.cells #[.slice (some ⟨gr,0,none⟩) 8 cr,.int .i64 m.pc,.int .i64 m.back,.bool m.ints,.bool m.wait,.int .i64 m.table,.int .i64 m.count,.int .i64 m.fin,.slice (some ⟨mb,0,none⟩) 256 cm,.slice ao m.out.length co,.int .i64 m.ready,.int .i64 m.want] 34 (0,0)))∧Hid (v15.heap[w.heap.size+1]? = some (.cells #[.slice ai2 img.length ci2,.slice ab nb cb2,.int .i64 m.count] 32 (0,0)))∧Hid (FinS w (w.heap.size+1) (w.heap.size+2) m (.slice (some ⟨gr,0,none⟩) 8 cr) (.slice (some ⟨mb,0,none⟩) 256 cm) (.slice ao m.out.length co) (.slice ai2 img.length ci2) img.length (img.map (Value.int .i64)) (.slice ab nb cb2) nb xb v15):=by
 have h:=fin_close HXM HXT hz e1 e2 e3 e4 e5 e6 e7 e8 e9 e10 e11 e12 e13 e14 e15
 exact⟨rfl,ai2,ci2,Lib.hid h.1,Lib.hid h.2.1,Lib.hid h.2.2⟩
theorem rc_r37 {w wz:World} {cb gr cr mb cm nb cb2 ci:Nat} {ai ab ao:Option Addr} {co:Nat} {m:Mach} {wro n:Int} {img is vs ds:List Int} {bs:List (List Int)} {xb:List Value} {K:Act→World→Prop}  {x1 x2 x3 x4 x5 x8 x9 x10 x11 x13 x14 x15 x16 x17 x18 x19 x20 x21 x22 x23 x25 x26 x27 x28 x29 x30 x31 x32 x33 x34 x35 x36 x37 x38 x39 x40 x41 x42 x43 x44 x45 x46 x47 x48 x49 x50 x51 x52 x53 x54 x55 x56 x57 x58 x59 x60 x61 x62 x63 x64 x65 x66 x67 x68 x69 x70 x71 x72 x73 x74 x75 x76 x77 x78 x79 x80 x81 x82 x83 x84 x85 x86 x87 x88 x89 x90 x91 x92 x93 x94 x95 x96 x97 x98 x99 x100 x101 x102 x103 x104 x105 x106 x107 x108 x109 x110 x111 x112 x113 x114 x115 x116 x117 x118 x119 x120 x121 x122 x123 x124 x125 x126 x127 x128 x129 x130 x131 x132 x133 x134 x135 x136 x137 x138 x139 x140 x141 x142 x143 x144 x145 x146 x147 x148 x149 x150 x151 x152 x153 x154 x155 x156 x157 x158 x159 x160 x161 x162 x163 x164 x165 x166 x167 x168 x169 x170 x171 x172 x173 x174 x175 x176 x177 x178:Value} (HX:Hid (wz.heap[cb]? = some (.cells #[.slice (some ⟨gr,0,none⟩) 8 cr,.int .i64 m.pc,.int .i64 m.back,.bool m.ints,.bool m.wait,.int .i64 m.table,.int .i64 m.count,.int .i64 m.fin,.slice (some ⟨mb,0,none⟩) 256 cm,.slice ao m.out.length co,.int .i64 m.ready,.int .i64 m.want,.int .i64 wro] 66 (0,0)))) (HXM:Hid (wz.heap[w.heap.size+2]? = some (.cells #[.slice none 0 0,.int .i64 0,.int .i64 0,.bool false,.bool false,.int .i64 0,.int .i64 0,.int .i64 0,.slice none 0 0,.slice none 0 0,.int .i64 0,.int .i64 0] 34 (0,0)))) (HXT:Hid (wz.heap[w.heap.size+1]? = some (.cells #[.slice none 0 0,.slice none 0 0,.int .i64 0] 32 (0,0)))) (HS:Hid (SInv w (w.heap.size+2) m (.slice (some ⟨gr,0,none⟩) 8 cr) (.slice (some ⟨mb,0,none⟩) 256 cm) (.slice ao m.out.length co) wz)) (HOB:Hid (wz.ownsRow w.heap.size 5 1 (.slice ab nb cb2) nb xb)) (HI:Hid (Ints w.heap.size w (.slice ai img.length ci) img)) (hK:∀ (y166 y167 y168 y169 y170 y171 y172 y173 y174 y175 y176 y177 y178:Value) (s8:Value) (wx:World),(s8=.int .i64 0∧∃ (ai2:Option Addr) (ci2:Nat),Hid (wx.heap[w.heap.size+2]? = some (.cells #[.slice (some ⟨gr,0,none⟩) 8 cr,.int .i64 m.pc,.int .i64 m.back,.bool m.ints,.bool m.wait,.int .i64 m.table,.int .i64 m.count,.int .i64 m.fin,.slice (some ⟨mb,0,none⟩) 256 cm,.slice ao m.out.length co,.int .i64 m.ready,.int .i64 m.want] 34 (0,0)))∧Hid (wx.heap[w.heap.size+1]? = some (.cells #[.slice ai2 img.length ci2,.slice ab nb cb2,.int .i64 m.count] 32 (0,0)))∧Hid (FinS w (w.heap.size+1) (w.heap.size+2) m (.slice (some ⟨gr,0,none⟩) 8 cr) (.slice (some ⟨mb,0,none⟩) 256 cm) (.slice ao m.out.length co) (.slice ai2 img.length ci2) img.length (img.map (Value.int .i64)) (.slice ab nb cb2) nb xb wx))→K ⟨List.toArray (.slice ai img.length ci :: x1 :: x2 :: x3 :: x4 :: x5 :: .pointer (some ⟨w.heap.size+1,0,none⟩) :: .pointer (some ⟨w.heap.size+1+1,0,none⟩) :: s8 :: x9 :: x10 :: x11 :: .pointer (some ⟨cb,0,none⟩) :: x13 :: x14 :: x15 :: x16 :: x17 :: x18 :: x19 :: x20 :: x21 :: x22 :: x23 :: .slice ab nb cb2 :: x25 :: x26 :: x27 :: x28 :: x29 :: x30 :: x31 :: x32 :: x33 :: x34 :: x35 :: x36 :: x37 :: x38 :: x39 :: x40 :: x41 :: x42 :: x43 :: x44 :: x45 :: x46 :: x47 :: x48 :: x49 :: x50 :: x51 :: x52 :: x53 :: x54 :: x55 :: x56 :: x57 :: x58 :: x59 :: x60 :: x61 :: x62 :: x63 :: x64 :: x65 :: x66 :: x67 :: x68 :: x69 :: x70 :: x71 :: x72 :: x73 :: x74 :: x75 :: x76 :: x77 :: x78 :: x79 :: x80 :: x81 :: x82 :: x83 :: x84 :: x85 :: x86 :: x87 :: x88 :: x89 :: x90 :: x91 :: x92 :: x93 :: x94 :: x95 :: x96 :: x97 :: x98 :: x99 :: x100 :: x101 :: x102 :: x103 :: x104 :: x105 :: x106 :: x107 :: x108 :: x109 :: x110 :: x111 :: x112 :: x113 :: x114 :: x115 :: x116 :: x117 :: x118 :: x119 :: x120 :: x121 :: x122 :: x123 :: x124 :: x125 :: x126 :: x127 :: x128 :: x129 :: x130 :: x131 :: x132 :: x133 :: x134 :: x135 :: x136 :: x137 :: x138 :: x139 :: x140 :: x141 :: x142 :: x143 :: x144 :: x145 :: x146 :: x147 :: x148 :: x149 :: x150 :: x151 :: x152 :: x153 :: x154 :: x155 :: x156 :: x157 :: x158 :: x159 :: x160 :: x161 :: x162 :: x163 :: x164 :: x165 :: y166 :: y167 :: y168 :: y169 :: y170 :: y171 :: y172 :: y173 :: y174 :: y175 :: y176 :: y177 :: y178 :: []),[]⟩ wx):(c12 [1,1,1,1,1,1,1,1,1,1,1,1,0]).wp Tryz.prog (Exit.then K (bodyPost Tryz.prog Tryz.f9 (RecPost img is vs bs ds n w))) ⟨List.toArray (.slice ai img.length ci :: x1 :: x2 :: x3 :: x4 :: x5 :: .pointer (some ⟨w.heap.size+1,0,none⟩) :: .pointer (some ⟨w.heap.size+1+1,0,none⟩) :: x8 :: x9 :: x10 :: x11 :: .pointer (some ⟨cb,0,none⟩) :: x13 :: x14 :: x15 :: x16 :: x17 :: x18 :: x19 :: x20 :: x21 :: x22 :: x23 :: .slice ab nb cb2 :: x25 :: x26 :: x27 :: x28 :: x29 :: x30 :: x31 :: x32 :: x33 :: x34 :: x35 :: x36 :: x37 :: x38 :: x39 :: x40 :: x41 :: x42 :: x43 :: x44 :: x45 :: x46 :: x47 :: x48 :: x49 :: x50 :: x51 :: x52 :: x53 :: x54 :: x55 :: x56 :: x57 :: x58 :: x59 :: x60 :: x61 :: x62 :: x63 :: x64 :: x65 :: x66 :: x67 :: x68 :: x69 :: x70 :: x71 :: x72 :: x73 :: x74 :: x75 :: x76 :: x77 :: x78 :: x79 :: x80 :: x81 :: x82 :: x83 :: x84 :: x85 :: x86 :: x87 :: x88 :: x89 :: x90 :: x91 :: x92 :: x93 :: x94 :: x95 :: x96 :: x97 :: x98 :: x99 :: x100 :: x101 :: x102 :: x103 :: x104 :: x105 :: x106 :: x107 :: x108 :: x109 :: x110 :: x111 :: x112 :: x113 :: x114 :: x115 :: x116 :: x117 :: x118 :: x119 :: x120 :: x121 :: x122 :: x123 :: x124 :: x125 :: x126 :: x127 :: x128 :: x129 :: x130 :: x131 :: x132 :: x133 :: x134 :: x135 :: x136 :: x137 :: x138 :: x139 :: x140 :: x141 :: x142 :: x143 :: x144 :: x145 :: x146 :: x147 :: x148 :: x149 :: x150 :: x151 :: x152 :: x153 :: x154 :: x155 :: x156 :: x157 :: x158 :: x159 :: x160 :: x161 :: x162 :: x163 :: x164 :: x165 :: x166 :: x167 :: x168 :: x169 :: x170 :: x171 :: x172 :: x173 :: x174 :: x175 :: x176 :: x177 :: x178 :: []),[]⟩ wz:=by
 have HK:=Lib.hid hK
 clear hK
 conv=>arg 2;whnf
 go_cut [8] from 166 (fun s8 wx=>s8=.int .i64 0∧∃ (ai2:Option Addr) (ci2:Nat),Hid (wx.heap[w.heap.size+2]? = some (.cells #[.slice (some ⟨gr,0,none⟩) 8 cr,.int .i64 m.pc,.int .i64 m.back,.bool m.ints,.bool m.wait,.int .i64 m.table,.int .i64 m.count,.int .i64 m.fin,.slice (some ⟨mb,0,none⟩) 256 cm,.slice ao m.out.length co,.int .i64 m.ready,.int .i64 m.want] 34 (0,0)))∧Hid (wx.heap[w.heap.size+1]? = some (.cells #[.slice ai2 img.length ci2,.slice ab nb cb2,.int .i64 m.count] 32 (0,0)))∧Hid (FinS w (w.heap.size+1) (w.heap.size+2) m (.slice (some ⟨gr,0,none⟩) 8 cr) (.slice (some ⟨mb,0,none⟩) 256 cm) (.slice ao m.out.length co) (.slice ai2 img.length ci2) img.length (img.map (Value.int .i64)) (.slice ab nb cb2) nb xb wx))
 case rest =>
  exact HK.out _ _ _ _ _ _ _ _ _ _ _ _ _ _ _ hcut
 case first =>
  clear HK
  have HZ0:=fun (w14:World) (ai2:Option Addr) (ci2:Nat) (HXM14:w14.heap[w.heap.size+2]? = some (.cells #[.slice none 0 0,.int .i64 0,.int .i64 0,.bool false,.bool false,.int .i64 0,.int .i64 0,.int .i64 0,.slice none 0 0,.slice none 0 0,.int .i64 0,.int .i64 0] 34 (0,0))) (HXT14:w14.heap[w.heap.size+1]? = some (.cells #[.slice none 0 0,.slice none 0 0,.int .i64 0] 32 (0,0))) (HOWN:w14.ownsRow wz.drew.heap.size 3 1 (.slice ai2 img.length ci2) img.length (img.map (Value.int .i64))) (HB14:Below wz.drew.heap.size wz.drew w14)=>(have hb:Below wz.heap.size wz w14:=(below_drewN (Below.refl _ _) 1).trans HB14;⟨mown_below HS.out.own hb,own_base HOWN HS.out.below.size,own_below HOB.out hb (Nat.le_refl _),⟨_,HXT14⟩,⟨_,HXM14⟩,HS.out.below.trans (hb.mono HS.out.below.size),by omega,by omega,by omega⟩:FinS w (w.heap.size+1) (w.heap.size+2) m (.slice (some ⟨gr,0,none⟩) 8 cr) (.slice (some ⟨mb,0,none⟩) 256 cm) (.slice ao m.out.length co) (.slice ai2 img.length ci2) img.length (img.map (Value.int .i64)) (.slice ab nb cb2) nb xb w14)
  first | (obtain⟨p0,p1,p2,p3,p4,p5,p6,p7,p8,p9,p10,p11⟩:=cells12 HX.out) | (obtain⟨p0,p1,p2,p3,p4,p5,p6,p7,p8,p9,p10,p11⟩:=cells13 HX.out)
  have lc:cb < wz.heap.size:=(Array.getElem?_eq_some_iff.1 HX.out).1
  have HCL:=Lib.hid (fun (W:World) (hb:Below w.heap.size w W)=>cloneV_any (.slice ai img.length ci) (img.map (Value.int .i64)) W ((HI.out.to hb.size (same_below hb)).vals) (ints_one img))
  have lm1:w.heap.size+2 < wz.heap.size:=(Array.getElem?_eq_some_iff.1 HXM.out).1
  have lm2:w.heap.size+1 < wz.heap.size:=by omega
  have hcm:¬ cb=w.heap.size+2:=fun e=>by have h1:=HX.out;have h2:=HXM.out;rw [← e,h1] at h2;injection h2 with h2;injection h2 with _ h3;exact absurd h3 (by decide)
  have hct:¬ cb=w.heap.size+1:=fun e=>by have h1:=HX.out;have h2:=HXT.out;rw [← e,h1] at h2;injection h2 with h2;injection h2 with _ h3;exact absurd h3 (by decide)
  go_region_with ((go_at_call 12;(with_reducible refine (HCL.out _ ?_).mono ?_);(first | exact HS.out.below | exact below_drewN HS.out.below 1);rintro e w14 ⟨v14,rfl,hown,hb14⟩;rw [List.length_map] at hown;obtain⟨ai2,ci2,rfl⟩:=own_shape hown;have HOWN:=Lib.hid hown;have HB14:=Lib.hid hb14;have y0:w14.cell? ⟨cb,0,none⟩=some (.slice (some ⟨gr,0,none⟩) 8 cr):=(hb14.cell (p:=⟨cb,0,none⟩) lc).trans p0;have y1:w14.cell? ⟨cb,1,none⟩=some (.int .i64 m.pc):=(hb14.cell (p:=⟨cb,1,none⟩) lc).trans p1;have y2:w14.cell? ⟨cb,2,none⟩=some (.int .i64 m.back):=(hb14.cell (p:=⟨cb,2,none⟩) lc).trans p2;have y3:w14.cell? ⟨cb,3,none⟩=some (.bool m.ints):=(hb14.cell (p:=⟨cb,3,none⟩) lc).trans p3;have y4:w14.cell? ⟨cb,4,none⟩=some (.bool m.wait):=(hb14.cell (p:=⟨cb,4,none⟩) lc).trans p4;have y5:w14.cell? ⟨cb,5,none⟩=some (.int .i64 m.table):=(hb14.cell (p:=⟨cb,5,none⟩) lc).trans p5;have y6:w14.cell? ⟨cb,6,none⟩=some (.int .i64 m.count):=(hb14.cell (p:=⟨cb,6,none⟩) lc).trans p6;have y7:w14.cell? ⟨cb,7,none⟩=some (.int .i64 m.fin):=(hb14.cell (p:=⟨cb,7,none⟩) lc).trans p7;have y8:w14.cell? ⟨cb,8,none⟩=some (.slice (some ⟨mb,0,none⟩) 256 cm):=(hb14.cell (p:=⟨cb,8,none⟩) lc).trans p8;have y9:w14.cell? ⟨cb,9,none⟩=some (.slice ao m.out.length co):=(hb14.cell (p:=⟨cb,9,none⟩) lc).trans p9;have y10:w14.cell? ⟨cb,10,none⟩=some (.int .i64 m.ready):=(hb14.cell (p:=⟨cb,10,none⟩) lc).trans p10;have y11:w14.cell? ⟨cb,11,none⟩=some (.int .i64 m.want):=(hb14.cell (p:=⟨cb,11,none⟩) lc).trans p11;have hxm14:=block_below hb14 HXM.out lm1;have hxt14:=block_below hb14 HXT.out lm2;have HXM14:=Lib.hid hxm14;have HXT14:=Lib.hid hxt14;have r0:w14.cell? ⟨w.heap.size+2,0,none⟩=some (.slice none 0 0):=cell_block hxm14 0;have g0:=free_block hxm14 0;have r1:w14.cell? ⟨w.heap.size+2,1,none⟩=some (.int .i64 0):=cell_block hxm14 1;have g1:=free_block hxm14 1;have r2:w14.cell? ⟨w.heap.size+2,2,none⟩=some (.int .i64 0):=cell_block hxm14 2;have g2:=free_block hxm14 2;have r3:w14.cell? ⟨w.heap.size+2,3,none⟩=some (.bool false):=cell_block hxm14 3;have g3:=free_block hxm14 3;have r4:w14.cell? ⟨w.heap.size+2,4,none⟩=some (.bool false):=cell_block hxm14 4;have g4:=free_block hxm14 4;have r5:w14.cell? ⟨w.heap.size+2,5,none⟩=some (.int .i64 0):=cell_block hxm14 5;have g5:=free_block hxm14 5;have r6:w14.cell? ⟨w.heap.size+2,6,none⟩=some (.int .i64 0):=cell_block hxm14 6;have g6:=free_block hxm14 6;have r7:w14.cell? ⟨w.heap.size+2,7,none⟩=some (.int .i64 0):=cell_block hxm14 7;have g7:=free_block hxm14 7;have r8:w14.cell? ⟨w.heap.size+2,8,none⟩=some (.slice none 0 0):=cell_block hxm14 8;have g8:=free_block hxm14 8;have r9:w14.cell? ⟨w.heap.size+2,9,none⟩=some (.slice none 0 0):=cell_block hxm14 9;have g9:=free_block hxm14 9;have r10:w14.cell? ⟨w.heap.size+2,10,none⟩=some (.int .i64 0):=cell_block hxm14 10;have g10:=free_block hxm14 10;have r11:w14.cell? ⟨w.heap.size+2,11,none⟩=some (.int .i64 0):=cell_block hxm14 11;have g11:=free_block hxm14 11;have s0:w14.cell? ⟨w.heap.size+1,0,none⟩=some (.slice none 0 0):=cell_block hxt14 0;have t0:=free_block hxt14 0;have s1:w14.cell? ⟨w.heap.size+1,1,none⟩=some (.slice none 0 0):=cell_block hxt14 1;have t1:=free_block hxt14 1;have s2:w14.cell? ⟨w.heap.size+1,2,none⟩=some (.int .i64 0):=cell_block hxt14 2;have t2:=free_block hxt14 2;have lm14:w.heap.size+2 < w14.heap.size:=(Array.getElem?_eq_some_iff.1 hxm14).1;have lt14:w.heap.size+1 < w14.heap.size:=(Array.getElem?_eq_some_iff.1 hxt14).1;have lc14:cb < w14.heap.size:=Nat.lt_of_lt_of_le lc hb14.size;clear hown hb14 hxm14 hxt14;clear p0 p1 p2 p3 p4 p5 p6 p7 p8 p9 p10 p11))
  all_goals (go_wp2_with fail;go_meet)
  all_goals (have hzz:=HZ0 _ _ _ HXM14.out HXT14.out HOWN.out HB14.out;exact fin_all HXM14.out HXT14.out hzz rfl rfl rfl rfl rfl rfl rfl rfl rfl rfl rfl rfl rfl rfl rfl)
theorem record_any (ai:Option Addr) (ci:Nat) (a0 a1 a2 a3:Option Addr) (c0 c1 c2 c3:Nat) (img is vs:List Int) (bs:List (List Int)) (ds:List Int) (n:Int) (w:World) (ht:Tab w) (hi:Ints w.heap.size w (.slice ai img.length ci) img) (h0:Ints w.heap.size w (.slice a0 is.length c0) is) (h1:Ints w.heap.size w (.slice a1 vs.length c1) vs) (h2:RowsR w.heap.size w (.slice a2 bs.length c2) bs) (h3:Ints w.heap.size w (.slice a3 ds.length c3) ds) (hn:I64 n):Calls Tryz.prog 9 #[.slice ai img.length ci,.agg #[.slice a0 is.length c0,.slice a1 vs.length c1,.slice a2 bs.length c2,.slice a3 ds.length c3],.int .i64 n] w (RecPost img is vs bs ds n w):=by
 have HI:=Lib.hid hi
 have H0:=Lib.hid h0
 have H1:=Lib.hid h1
 have H2:=Lib.hid h2
 have H3:=Lib.hid h3
 have HT:=Lib.hid ht
 obtain⟨hn1,hn2⟩:=hn
 clear hi h0 h1 h2 h3 ht
 obtain⟨W1,hW1⟩:∃ W1,W1=(((w.alloc (.cells #[.slice a0 is.length c0,.slice a1 vs.length c1,.slice a2 bs.length c2,.slice a3 ds.length c3] 27 (0,0))).alloc (.cells #[.slice none 0 0,.slice none 0 0,.int .i64 0] 32 (0,0))).alloc (.cells #[.slice none 0 0,.int .i64 0,.int .i64 0,.bool false,.bool false,.int .i64 0,.int .i64 0,.int .i64 0,.slice none 0 0,.slice none 0 0,.int .i64 0,.int .i64 0] 34 (0,0))):=⟨_,rfl⟩
 have HBA:=Lib.hid (show Below w.heap.size w W1 from by rw [hW1];exact (below_alloc2 w _ _).alloc (by simp;omega) _)
 have hsz:W1.heap.size=w.heap.size+3:=by rw [hW1];simp
 have hxw:W1.heap[w.heap.size]? = some (.cells #[.slice a0 is.length c0,.slice a1 vs.length c1,.slice a2 bs.length c2,.slice a3 ds.length c3] 27 (0,0)):=by rw [hW1];exact (alloc_lt (by simp;omega)).trans ((alloc_lt (by simp)).trans (alloc_at rfl))
 have hxt:W1.heap[w.heap.size+1]? = some (.cells #[.slice none 0 0,.slice none 0 0,.int .i64 0] 32 (0,0)):=by rw [hW1];exact (alloc_lt (by simp)).trans (alloc_at (by simp))
 have hxm:W1.heap[w.heap.size+2]? = some (.cells #[.slice none 0 0,.int .i64 0,.int .i64 0,.bool false,.bool false,.int .i64 0,.int .i64 0,.int .i64 0,.slice none 0 0,.slice none 0 0,.int .i64 0,.int .i64 0] 34 (0,0)):=by rw [hW1];exact alloc_at (by simp)
 have HXW:=Lib.hid hxw
 have HXT:=Lib.hid hxt
 have HXM:=Lib.hid hxm
 have HNW:=Lib.hid (cnew_all (.slice ai img.length ci) img W1 (HI.out.to HBA.out.size (same_below HBA.out)))
 go_enter Tryz.func9,Tryz.ntmps9
 go_upto_region 1 with fail
 rw [← hW1]
 clear hW1 hxw hxt hxm
 obtain⟨nc,hnc⟩:∃ nc,newC img=nc:=⟨_,rfl⟩
 rw [hnc] at HNW
 have HNC:=Lib.hid hnc
 clear hnc
 go_wp2_with fail
 refine HNW.out.mono ?_
 rintro e w1 ⟨ar,cr,am,cm,ao,co,rfl,hown,hb1⟩
 rw [Mach.agg]
 have hs1:=hb1.size
 have HBF:=Lib.hid hb1
 have HOWN:=Lib.hid hown
 go_upto_region 2 with fail
 obtain⟨W2,hW2⟩:∃ W2,W2=w1.alloc (.cells #[.slice ar (newM img).regs.length cr,.int .i64 (newM img).pc,.int .i64 (newM img).back,.bool (newM img).ints,.bool (newM img).wait,.int .i64 (newM img).table,.int .i64 (newM img).count,.int .i64 (newM img).fin,.slice am (newM img).mem.length cm,.slice ao (newM img).out.length co,.int .i64 (newM img).ready,.int .i64 (newM img).want] 34 (0,0)):=⟨_,rfl⟩
 have hbw2:Below w1.heap.size w1 W2:=by rw [hW2];exact below_alloc _ _
 have hxg:W2.heap[w1.heap.size]? = some (.cells #[.slice ar (newM img).regs.length cr,.int .i64 (newM img).pc,.int .i64 (newM img).back,.bool (newM img).ints,.bool (newM img).wait,.int .i64 (newM img).table,.int .i64 (newM img).count,.int .i64 (newM img).fin,.slice am (newM img).mem.length cm,.slice ao (newM img).out.length co,.int .i64 (newM img).ready,.int .i64 (newM img).want] 34 (0,0)):=by rw [hW2];exact alloc_at rfl
 rw [← hW2]
 have hxw:=block_below hbw2 (block_below hb1 HXW.out (by omega)) (by omega)
 have hxt:=block_below hbw2 (block_below hb1 HXT.out (by omega)) (by omega)
 have hxm:=block_below hbw2 (block_below hb1 HXM.out (by omega)) (by omega)
 have HB1:=Lib.hid (HBA.out.trans ((hb1.trans (hbw2.mono hs1)).mono HBA.out.size))
 have HBG:=Lib.hid hbw2
 have HXG:=Lib.hid hxg
 have lw1:w.heap.size+2 < W2.heap.size:=(Array.getElem?_eq_some_iff.1 hxm).1
 have lw2:w.heap.size+1 < W2.heap.size:=by omega
 have lw3:w.heap.size < W2.heap.size:=by omega
 have lw4:w.heap.size+2 < w1.heap.size:=by omega
 generalize hgb:w1.heap.size=gb at *
 first | (obtain⟨r0,r1,r2,r3,r4,r5,r6,r7,r8,r9,r10,r11⟩:=cells12 hxm) | (obtain⟨r0,r1,r2,r3,r4,r5,r6,r7,r8,r9,r10,r11⟩:=cells13 hxm)
 have g0:=free_block hxm 0
 have g1:=free_block hxm 1
 have g2:=free_block hxm 2
 have g3:=free_block hxm 3
 have g4:=free_block hxm 4
 have g5:=free_block hxm 5
 have g6:=free_block hxm 6
 have g7:=free_block hxm 7
 have g8:=free_block hxm 8
 have g9:=free_block hxm 9
 have g10:=free_block hxm 10
 have g11:=free_block hxm 11
 have s0:W2.cell? ⟨w.heap.size+1,0,none⟩=some (.slice none 0 0):=cell_block hxt 0
 have t0:=free_block hxt 0
 have s1:W2.cell? ⟨w.heap.size+1,1,none⟩=some (.slice none 0 0):=cell_block hxt 1
 have t1:=free_block hxt 1
 have s2:W2.cell? ⟨w.heap.size+1,2,none⟩=some (.int .i64 0):=cell_block hxt 2
 have t2:=free_block hxt 2
 have u0:W2.cell? ⟨w.heap.size,0,none⟩=some (.slice a0 is.length c0):=cell_block hxw 0
 have u1:W2.cell? ⟨w.heap.size,1,none⟩=some (.slice a1 vs.length c1):=cell_block hxw 1
 have u2:W2.cell? ⟨w.heap.size,2,none⟩=some (.slice a2 bs.length c2):=cell_block hxw 2
 have u3:W2.cell? ⟨w.heap.size,3,none⟩=some (.slice a3 ds.length c3):=cell_block hxw 3
 have HXW1:=Lib.hid hxw
 have HXT1:=Lib.hid hxt
 have HXM1:=Lib.hid hxm
 clear hxw hxt hxm hown hb1 HNW HXW hsz hs1 hW2 hbw2 hxg
 by_cases hz:nc=0
 ·
  subst hz
  have HIM:=Lib.hid (imgM_ok HNC.out)
  have hbw:=HB1.out.size
  have HWC:=Lib.hid (wcheck_any a0 a1 a2 a3 c0 c1 c2 c3 is vs bs ds W2 (H0.out.to hbw (same_below HB1.out)) (H1.out.to hbw (same_below HB1.out)) (H2.out.to hbw (same_below HB1.out)) (H3.out.to hbw (same_below HB1.out)))
  obtain⟨wc,hwc⟩:∃ wc,worldC is vs bs ds=wc:=⟨_,rfl⟩
  unfold WorldPost at HWC
  rw [hwc] at HWC
  have HWCE:=Lib.hid hwc
  have HBGE:=Lib.hid (And.intro hgb hbw)
  clear hwc hgb hbw r0 r1 r2 r3 r4 r5 r6 r7 r8 r9 r10 r11 g0 g1 g2 g3 g4 g5 g6 g7 g8 g9 g10 g11 s0 s1 s2 t0 t1 t2
  go_wp2_with fail
  refine HWC.out.mono ?_
  rintro e w3 ⟨rfl,hb3⟩
  have hs3:=hb3.size
  have hxw:=block_below hb3 HXW1.out lw3
  have hxt:=block_below hb3 HXT1.out lw2
  have hxm:=block_below hb3 HXM1.out lw1
  have hxg:=block_below hb3 HXG.out (Array.getElem?_eq_some_iff.1 HXG.out).1
  have HB3:=Lib.hid (HB1.out.trans (hb3.mono HB1.out.size))
  have HBG3:=Lib.hid ((HBG.out.trans (hb3.mono (by rw [← HBGE.out.1];exact HBG.out.size))))
  have HXW3:=Lib.hid hxw
  have HXT3:=Lib.hid hxt
  have HXM3:=Lib.hid hxm
  have HXG3:=Lib.hid hxg
  have lv1:w.heap.size+2 < w3.heap.size:=by omega
  have lv2:w.heap.size+1 < w3.heap.size:=by omega
  have lv3:w.heap.size < w3.heap.size:=by omega
  clear lw1 lw2 lw3 u0 u1 u2 u3 hb3 hs3 HWC
  by_cases hwz:wc=0
  ·
   subst hwz
   by_cases hno:n < 0∨3000 < n
   ·
    have HR:=Lib.hid (show RecR img is vs bs ds n 2 [] 0 [] zeroM from Or.inr (Or.inr (Or.inl ⟨HNC.out,HWCE.out,hno,rfl,recE0⟩)))
    first | (obtain⟨r0,r1,r2,r3,r4,r5,r6,r7,r8,r9,r10,r11⟩:=cells12 hxm) | (obtain⟨r0,r1,r2,r3,r4,r5,r6,r7,r8,r9,r10,r11⟩:=cells13 hxm)
    have g0:=free_block hxm 0
    have g1:=free_block hxm 1
    have g2:=free_block hxm 2
    have g3:=free_block hxm 3
    have g4:=free_block hxm 4
    have g5:=free_block hxm 5
    have g6:=free_block hxm 6
    have g7:=free_block hxm 7
    have g8:=free_block hxm 8
    have g9:=free_block hxm 9
    have g10:=free_block hxm 10
    have g11:=free_block hxm 11
    have s0:w3.cell? ⟨w.heap.size+1,0,none⟩=some (.slice none 0 0):=cell_block hxt 0
    have t0:=free_block hxt 0
    have s1:w3.cell? ⟨w.heap.size+1,1,none⟩=some (.slice none 0 0):=cell_block hxt 1
    have t1:=free_block hxt 1
    have s2:w3.cell? ⟨w.heap.size+1,2,none⟩=some (.int .i64 0):=cell_block hxt 2
    have t2:=free_block hxt 2
    clear hxw hxt hxm hxg
    rcases (show n < 0∨(¬ n < 0∧3000 < n) by omega) with h | ⟨h,h2⟩
    ·
     clear hno
     go_wp2_with fail
     refine bodyPost_ret (v:=.tuple #[.agg #[.slice none 0 0,.slice none 0 0,.int .i64 0],.agg #[.slice none 0 0,.int .i64 0,.int .i64 0,.bool false,.bool false,.int .i64 0,.int .i64 0,.int .i64 0,.slice none 0 0,.slice none 0 0,.int .i64 0,.int .i64 0],.int .i64 2]) (by simp [results,Tryz.results9,go_sem,r0,r1,r2,r3,r4,r5,r6,r7,r8,r9,r10,r11,s0,s1,s2]) rfl ?_
     refine RecPost.no HR.out ?_
     go_grown
     exact HB3.out
    ·
     clear hno
     go_wp2_with fail
     refine bodyPost_ret (v:=.tuple #[.agg #[.slice none 0 0,.slice none 0 0,.int .i64 0],.agg #[.slice none 0 0,.int .i64 0,.int .i64 0,.bool false,.bool false,.int .i64 0,.int .i64 0,.int .i64 0,.slice none 0 0,.slice none 0 0,.int .i64 0,.int .i64 0],.int .i64 2]) (by simp [results,Tryz.results9,go_sem,r0,r1,r2,r3,r4,r5,r6,r7,r8,r9,r10,r11,s0,s1,s2]) rfl ?_
     refine RecPost.no HR.out ?_
     go_grown
     exact HB3.out
   ·
    have hn0:0≤n:=by omega
    have hn3:n≤3000:=by omega
    have hnn0:¬ n < 0:=by omega
    have hnn3:¬ 3000 < n:=by omega
    have HN3:=Lib.hid (And.intro hn0 hn3)
    have HWD:=Lib.hid (worldC_ok HWCE.out)
    have HB13:=Lib.hid (HBF.out.trans (HBG3.out.mono (by rw [← HBGE.out.1];exact HBF.out.size)))
    have hgst:=gst_start HIM.out.1 (mown_below (by have:=HOWN.out;rw [HIM.out.2] at this;exact this) (by rw [HBGE.out.1];exact HBG3.out)) HB13.out
    have hg38:=HXG3.out
    rw [HIM.out.2] at hg38 ⊢
    have h8:=HIM.out.1.regs
    have h256:=HIM.out.1.mem
    obtain⟨gr,mb,rfl,rfl,hgst⟩:=hgst
    rw [h8,h256] at hg38 ⊢
    first | (obtain⟨p0,p1,p2,p3,p4,p5,p6,p7,p8,p9,p10,p11⟩:=cells12 hg38) | (obtain⟨p0,p1,p2,p3,p4,p5,p6,p7,p8,p9,p10,p11⟩:=cells13 hg38)
    have lgb:gb < w3.heap.size:=(Array.getElem?_eq_some_iff.1 hg38).1
    have u0:w3.cell? ⟨w.heap.size,0,none⟩=some (.slice a0 is.length c0):=cell_block hxw 0
    have u1:w3.cell? ⟨w.heap.size,1,none⟩=some (.slice a1 vs.length c1):=cell_block hxw 1
    have u2:w3.cell? ⟨w.heap.size,2,none⟩=some (.slice a2 bs.length c2):=cell_block hxw 2
    have u3:w3.cell? ⟨w.heap.size,3,none⟩=some (.slice a3 ds.length c3):=cell_block hxw 3
    have HG4:=Lib.hid hgst
    clear hno h8 h256 hg38 hgst hxt hxm hxg hxw
    go_upto_region 10 with fail
    obtain⟨W4,hW4⟩:∃ W4,W4=w3.alloc (.cells #[.slice (some ⟨gr,0,none⟩) 8 cr,.int .i64 (imageM img).pc,.int .i64 (imageM img).back,.bool (imageM img).ints,.bool (imageM img).wait,.int .i64 (imageM img).table,.int .i64 (imageM img).count,.int .i64 (imageM img).fin,.slice (some ⟨mb,0,none⟩) 256 cm,.slice ao (imageM img).out.length co,.int .i64 (imageM img).ready,.int .i64 (imageM img).want,.int .i64 0] 66 (0,0)):=⟨_,rfl⟩
    rw [← hW4] at HG4 ⊢
    have c8:W4.cell? ⟨w3.heap.size,8,none⟩=some (.slice (some ⟨mb,0,none⟩) 256 cm):=cell_block HG4.out.box 8
    have hs4:W4.heap.size=w3.heap.size+1:=by rw [hW4];simp
    have hx4:∀ {g:Nat} {o:Obj},w3.heap[g]? = some o→W4.heap[g]? = some o:=fun h=>by rw [hW4];exact (alloc_lt (Array.getElem?_eq_some_iff.1 h).1).trans h
    have hxw4:=hx4 HXW3.out
    clear p0 p1 p2 p3 p4 p5 p6 p7 p8 p9 p10 p11 u0 u1 u2 u3 lgb
    generalize hcb:w3.heap.size=cb at *
    have u0:W4.cell? ⟨w.heap.size,0,none⟩=some (.slice a0 is.length c0):=cell_block hxw4 0
    have u1:W4.cell? ⟨w.heap.size,1,none⟩=some (.slice a1 vs.length c1):=cell_block hxw4 1
    have u2:W4.cell? ⟨w.heap.size,2,none⟩=some (.slice a2 bs.length c2):=cell_block hxw4 2
    have u3:W4.cell? ⟨w.heap.size,3,none⟩=some (.slice a3 ds.length c3):=cell_block hxw4 3
    have HSTART:=rcs_start (b:=bs.getD 0 zero16) HIM.out.1 HG4.out (H0.out.to HBA.out.size (same_below HBA.out)) (H1.out.to HBA.out.size (same_below HBA.out)) (H2.out.to HBA.out.size (same_below HBA.out)) (H3.out.to HBA.out.size (same_below HBA.out))
    obtain⟨C0,hst⟩:=HSTART
    have HSTART:=Lib.hid hst
    have lcb:cb < W4.heap.size:=by omega
    have lww:w.heap.size < W4.heap.size:=by omega
    clear hst hx4 hxw4 hW4 hcb
    go_upto_region 12 with fail
    generalize World.alloc W4 _=wz at *
    rw [hs4] at HSTART
    generalize cb+1=ob at *
    clear c8 u0 u1 u2 u3 lcb lww hs4 HG4 lv1 lv2 lv3 hnn0 hnn3 lw4 hn1 hn2
    go_upto_block 0 with fail
    refine rc_loop HBA HXM HXT (Lib.hid (And.intro HNC.out HWCE.out)) HN3 HWD HIM HSTART hn0 hn3 ?_
    intros
    rename_i s15 s16 s17 s19 s20 s21 s22 s23 wx hcut
    obtain⟨s,ps,aa,ca,ak,nk,ck,C,rfl,HR8,HP,HOK,HRL⟩:=hcut
    have hob:=HR8.out.low.2
    have HBX:=Lib.hid (HBA.out.trans (hob.below (B:=w.heap.size) (fun g hg=>hg.elim) HBA.out.size))
    have hxm:=hob.at HXM.out (fun q=>q)
    have hxt:=hob.at HXT.out (fun q=>q)
    have HXM8:=Lib.hid hxm
    have HXT8:=Lib.hid hxt
    have hpl:ps.length≤1000:=by have:=congrArg List.length HP.out;rw [List.length_map] at this;rw [this];exact HOK.out.len
    obtain⟨d,hd⟩:=evres_ex s.all
    have hev:EvsR wx.heap.size wx (.slice aa ps.length ca) s.all:=by rw [← HP.out];exact HR8.out.q.all.evs (by omega)
    have lx1:w.heap.size+2 < wx.heap.size:=(Array.getElem?_eq_some_iff.1 hxm).1
    clear hob hxm hxt HSTART
    by_cases hd0:d=0
    ·
     subst hd0
     have HEN:=Lib.hid (encode_good _ s.all wx hev (HT.out.to HBX.out) hd)
     have HR:=Lib.hid (show RecR img is vs bs ds n 0 (encE s.all) s.m.count img s.m from Or.inr (Or.inr (Or.inr ⟨HNC.out,HWCE.out,HN3.out.1,HN3.out.2,Or.inr ⟨by rw [HRL.out],0,by rw [HRL.out];exact hd,Or.inr ⟨rfl,rfl,by rw [HRL.out],by rw [HRL.out],rfl,by rw [HRL.out]⟩⟩⟩)))
     have HLE:=Lib.hid (show (encE s.all).length≤100000000 from by have hp:=payE_le hd.ok.1 hd.ok.2;unfold encE;rw [List.length_append,show (sumB (payE s.all)).length=4 from rfl];omega)
     clear hev hd
     go_upto_region 37 with (go_at_call 16;refine HEN.out.mono ?_;rintro e w13 ⟨ab,cb2,rfl,hob,hb13⟩;have HOB:=Lib.hid hob;have HB13:=Lib.hid hb13;clear hob hb13)
     obtain⟨wro,ao,co,hcx,hsv⟩:=(HR8.out.below HB13.out).fin HBA.out (g:=w.heap.size+2) ⟨_,block_below HB13.out HXM8.out lx1⟩
     have hok:=HR8.out.ok
     have hxm:=block_below HB13.out HXM8.out lx1
     have hxt:=block_below HB13.out HXT8.out (by omega)
     refine rc_r37 (Lib.hid hcx) (Lib.hid hxm) (Lib.hid hxt) (Lib.hid hsv) (Lib.hid (own_base HOB.out HBX.out.size)) HI ?_
     intros
     rename_i s8 wy hcut
     obtain⟨rfl,ai2,ci2,HM2,HT2,HFS⟩:=hcut
     clear hcx hsv hxm hxt HEN lx1
     first | (obtain⟨r0,r1,r2,r3,r4,r5,r6,r7,r8,r9,r10,r11⟩:=cells12 HM2.out) | (obtain⟨r0,r1,r2,r3,r4,r5,r6,r7,r8,r9,r10,r11⟩:=cells13 HM2.out)
     have s0:wy.cell? ⟨w.heap.size+1,0,none⟩=some (.slice ai2 img.length ci2):=cell_block HT2.out 0
     have s1:wy.cell? ⟨w.heap.size+1,1,none⟩=some (.slice ab (encE s.all).length cb2):=cell_block HT2.out 1
     have s2:wy.cell? ⟨w.heap.size+1,2,none⟩=some (.int .i64 s.m.count):=cell_block HT2.out 2
     go_wp2_with fail
     refine bodyPost_ret (v:=.tuple #[.agg #[.slice ai2 img.length ci2,.slice ab (encE s.all).length cb2,.int .i64 s.m.count],.agg #[.slice (some ⟨gr,0,none⟩) 8 cr,.int .i64 s.m.pc,.int .i64 s.m.back,.bool s.m.ints,.bool s.m.wait,.int .i64 s.m.table,.int .i64 s.m.count,.int .i64 s.m.fin,.slice (some ⟨mb,0,none⟩) 256 cm,.slice ao s.m.out.length co,.int .i64 s.m.ready,.int .i64 s.m.want],.int .i64 0]) (by simp [results,Tryz.results9,go_sem,r0,r1,r2,r3,r4,r5,r6,r7,r8,r9,r10,r11,s0,s1,s2]) rfl ?_
     exact⟨0,encE s.all,s.m.count,img,s.m,_,_,some ⟨gr,0,none⟩,cr,some ⟨mb,0,none⟩,cm,ao,co,HR.out,by rw [hok.regs,hok.mem];rfl,HFS.out.ra,HFS.out.rb,⟨HI.out.i64,HI.out.len,HLE.out⟩,by rw [hok.regs,hok.mem];exact HFS.out.own,HFS.out.below⟩
    ·
     have HEN:=Lib.hid (encode_bad _ s.all wx hev (HT.out.to HBX.out) d hd hd0)
     have HR:=Lib.hid (show RecR img is vs bs ds n d [] 0 [] zeroM from Or.inr (Or.inr (Or.inr ⟨HNC.out,HWCE.out,HN3.out.1,HN3.out.2,Or.inr ⟨by rw [HRL.out],d,by rw [HRL.out];exact hd,Or.inl ⟨hd0,rfl,recE0⟩⟩⟩)))
     have hd1:(d != 0)=true:=by rw [bne_iff_ne];exact hd0
     clear hev hd hd0
     go_wp2_with fail
     refine HEN.out.mono ?_
     rintro e w13 ⟨rfl,hb13⟩
     have hxm:=block_below hb13 HXM8.out lx1
     have hxt:=block_below hb13 HXT8.out (by omega)
     have HB13:=Lib.hid (HBX.out.trans (hb13.mono HBX.out.size))
     have ly1:w.heap.size+2 < w13.heap.size:=(Array.getElem?_eq_some_iff.1 hxm).1
     have ly2:w.heap.size+1 < w13.heap.size:=by omega
     first | (obtain⟨r0,r1,r2,r3,r4,r5,r6,r7,r8,r9,r10,r11⟩:=cells12 hxm) | (obtain⟨r0,r1,r2,r3,r4,r5,r6,r7,r8,r9,r10,r11⟩:=cells13 hxm)
     have g0:=free_block hxm 0
     have g1:=free_block hxm 1
     have g2:=free_block hxm 2
     have g3:=free_block hxm 3
     have g4:=free_block hxm 4
     have g5:=free_block hxm 5
     have g6:=free_block hxm 6
     have g7:=free_block hxm 7
     have g8:=free_block hxm 8
     have g9:=free_block hxm 9
     have g10:=free_block hxm 10
     have g11:=free_block hxm 11
     have s0:w13.cell? ⟨w.heap.size+1,0,none⟩=some (.slice none 0 0):=cell_block hxt 0
     have t0:=free_block hxt 0
     have s1:w13.cell? ⟨w.heap.size+1,1,none⟩=some (.slice none 0 0):=cell_block hxt 1
     have t1:=free_block hxt 1
     have s2:w13.cell? ⟨w.heap.size+1,2,none⟩=some (.int .i64 0):=cell_block hxt 2
     have t2:=free_block hxt 2
     clear hxm hxt hb13 HEN lx1
     go_wp2_with fail
     refine bodyPost_ret (v:=.tuple #[.agg #[.slice none 0 0,.slice none 0 0,.int .i64 0],.agg #[.slice none 0 0,.int .i64 0,.int .i64 0,.bool false,.bool false,.int .i64 0,.int .i64 0,.int .i64 0,.slice none 0 0,.slice none 0 0,.int .i64 0,.int .i64 0],.int .i64 d]) (by simp [results,Tryz.results9,go_sem,r0,r1,r2,r3,r4,r5,r6,r7,r8,r9,r10,r11,s0,s1,s2]) rfl ?_
     refine RecPost.no HR.out ?_
     go_grown
     exact HB13.out
  ·
   have HR:=Lib.hid (show RecR img is vs bs ds n wc [] 0 [] zeroM from Or.inr (Or.inl ⟨HNC.out,by rw [HWCE.out];exact hwz,HWCE.out.symm,recE0⟩))
   first | (obtain⟨r0,r1,r2,r3,r4,r5,r6,r7,r8,r9,r10,r11⟩:=cells12 hxm) | (obtain⟨r0,r1,r2,r3,r4,r5,r6,r7,r8,r9,r10,r11⟩:=cells13 hxm)
   have g0:=free_block hxm 0
   have g1:=free_block hxm 1
   have g2:=free_block hxm 2
   have g3:=free_block hxm 3
   have g4:=free_block hxm 4
   have g5:=free_block hxm 5
   have g6:=free_block hxm 6
   have g7:=free_block hxm 7
   have g8:=free_block hxm 8
   have g9:=free_block hxm 9
   have g10:=free_block hxm 10
   have g11:=free_block hxm 11
   have s0:w3.cell? ⟨w.heap.size+1,0,none⟩=some (.slice none 0 0):=cell_block hxt 0
   have t0:=free_block hxt 0
   have s1:w3.cell? ⟨w.heap.size+1,1,none⟩=some (.slice none 0 0):=cell_block hxt 1
   have t1:=free_block hxt 1
   have s2:w3.cell? ⟨w.heap.size+1,2,none⟩=some (.int .i64 0):=cell_block hxt 2
   have t2:=free_block hxt 2
   clear hxw hxt hxm hxg
   have hd1:(wc != 0)=true:=by rw [bne_iff_ne];exact hwz
   clear hwz
   go_wp2_with fail
   refine bodyPost_ret (v:=.tuple #[.agg #[.slice none 0 0,.slice none 0 0,.int .i64 0],.agg #[.slice none 0 0,.int .i64 0,.int .i64 0,.bool false,.bool false,.int .i64 0,.int .i64 0,.int .i64 0,.slice none 0 0,.slice none 0 0,.int .i64 0,.int .i64 0],.int .i64 wc]) (by simp [results,Tryz.results9,go_sem,r0,r1,r2,r3,r4,r5,r6,r7,r8,r9,r10,r11,s0,s1,s2]) rfl ?_
   refine RecPost.no HR.out ?_
   go_grown
   exact HB3.out
 ·
  have HR:=Lib.hid (show RecR img is vs bs ds n nc [] 0 [] zeroM from Or.inl ⟨by rw [HNC.out];exact hz,HNC.out.symm,recE0⟩)
  have hd1:(nc != 0)=true:=by rw [bne_iff_ne];exact hz
  clear hz
  go_wp2_with fail
  refine bodyPost_ret (v:=.tuple #[.agg #[.slice none 0 0,.slice none 0 0,.int .i64 0],.agg #[.slice none 0 0,.int .i64 0,.int .i64 0,.bool false,.bool false,.int .i64 0,.int .i64 0,.int .i64 0,.slice none 0 0,.slice none 0 0,.int .i64 0,.int .i64 0],.int .i64 nc]) (by simp [results,Tryz.results9,go_sem,r0,r1,r2,r3,r4,r5,r6,r7,r8,r9,r10,r11,s0,s1,s2]) rfl ?_
  refine RecPost.no HR.out ?_
  go_grown
  exact HB1.out
end Go.Proofs.YtkahciebbnhobaaGreatDoor
