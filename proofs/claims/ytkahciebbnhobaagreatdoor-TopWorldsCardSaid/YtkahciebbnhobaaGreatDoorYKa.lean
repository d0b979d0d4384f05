/- Several texts joined, each with its own heading in the notes: The contracts of the keep's words, guest and cpuTells. The contract of cpu. What the keep's laws about steps share: cpuTells, a step of a guest that may step, a guest in a box; a step of a known instruction, in plain Lean. No condition beyond those of each row. -/
import Derived.Test.YtkahciebbnhobaaGreatDoorYRp
import Derived.Test.YtkahciebbnhobaaGreatDoorYPk
import Derived.Handy
import Derived.Test.YtkahciebbnhobaaGreatDoorYOi
import Derived.Deep.DeepCutAuto
import Derived.Test.YtkahciebbnhobaaGreatDoorYSu
namespace Go.Proofs.YtkahciebbnhobaaGreatDoor
open Go Go.RowKit Go.ChangeShapes Go.WideShapes Go.Deep
set_option maxHeartbeats 4000000
set_option maxRecDepth 100000
set_option linter.unusedVariables false
attribute [local go_sem ↓] Go.wp_at_zero Go.wp_at_succ
structure Ins where
 op:Int
 a:Int
 b:Int
 n:Int
def Ins.enc (x:Ins):Int:=encZ x.op x.a x.b x.n
def InsV (cs:List Value) (x:Ins):Prop:=cs=[.int .i64 x.op,.int .i64 x.a,.int .i64 x.b,.int .i64 x.n]
def InsR (B:Nat) (w:World) (v:Value) (l:List Ins):Prop:=SlN 4 1000 B w InsV v l
theorem kwords_any (v:Value) (l:List Ins) (w:World) (h:InsR w.heap.size w v l):Calls Tryz.prog 33 #[v] w fun e w' =>∃a c,e=.returned (.slice a l.length c)∧w'.ownsRow w.heap.size 3 1 (.slice a l.length c) l.length ((l.map Ins.enc).map (Value.int .i64))∧Below w.heap.size w w':=by
 obtain⟨a,c,rfl,hl,hlc,hcell⟩:=h
 have HC:=Lib.hid hcell
 clear hcell
 go_enter Tryz.func33,Tryz.ntmps33
 go_wp2_with fail
 go_loopg [3,10] l.length (fun gg s3 s10 wr =>∃(k:Nat) (a1:Option Addr) (c1:Nat),k≤l.length∧l.length - k≤gg∧s10=.int .i64 k∧s3=.slice a1 k c1∧Hid (wr.ownsRow w.heap.size 3 1 (.slice a1 k c1) k (((l.take k).map Ins.enc).map (Value.int .i64)))∧Hid (Below w.heap.size w wr))
 case atStart=>exact⟨0,none,0,Nat.zero_le _,by omega,rfl,rfl,Lib.hid (by simpa using World.ownsRow_nil w w.heap.size 3 1),Lib.hid (Below.refl _ _)⟩
 case round =>
  obtain⟨k,a1,c1,hk,hg,rfl,rfl,HO,HB⟩:=hrel
  by_cases hlt:k < l.length
  ·
   obtain⟨b,off,cs,ha,hbb,hcs,hcl,hiv⟩:=HC.out k hlt
   have HSB:=Lib.hid (fun o=>same_below HB.out b o hbb)
   have HT:=Lib.hid (show (l.take (k+1)).map Ins.enc=(l.take k).map Ins.enc ++ [l[k].enc] by rw [← List.take_append_getElem hlt,List.map_append];rfl)
   have hlr:w.heap.size≤wr.heap.size:=HB.out.size
   unfold InsV at hiv
   subst ha hiv
   have r0:wr.cell? ⟨b,off+k * 4,none⟩=some (.int .i64 l[k].op):=(HSB.out _).trans (hcl 0 (by simp))
   have r1:wr.cell? ⟨b,off+k * 4+1,none⟩=some (.int .i64 l[k].a):=(HSB.out _).trans (hcl 1 (by simp))
   have r2:wr.cell? ⟨b,off+k * 4+2,none⟩=some (.int .i64 l[k].b):=(HSB.out _).trans (hcl 2 (by simp))
   have r3:wr.cell? ⟨b,off+k * 4+3,none⟩=some (.int .i64 l[k].n):=(HSB.out _).trans (hcl 3 (by simp))
   have hbw:b < wr.heap.size:=by omega
   have HE:=Lib.hid (fun w=>encode_any l[k].op l[k].a l[k].b l[k].n w)
   rw [show encZ l[k].op l[k].a l[k].b l[k].n=l[k].enc from rfl] at HE
   clear hcl hcs
   generalize l[k]=x at *
   generalize x.enc=z at *
   generalize iCode x.op x.a x.b x.n=ic at *
   generalize x.op=x1 at *
   generalize x.a=x2 at *
   generalize x.b=x3 at *
   generalize x.n=x4 at *
   go_wp2_with (first
    | (go_at_call 56;refine (HE.out _).mono ?_;rintro e w5 ⟨rfl,hb5⟩;have ho5:=own_below (own_below HO.out (below_alloc wr _) (Nat.le_refl _)) hb5 (Nat.le_refl _);have hB5:=(HB.out.trans ((below_alloc wr _).mono hlr)).trans (hb5.mono (by simp;omega));have hs5:=hB5.size;have HO5:=Lib.hid ho5;have HB5:=Lib.hid hB5;clear ho5 hB5 hb5)
    | (at_builtin;go_loud (refine wpList_push w5 rfl (.tmp 19) (.tmp 21) 24 rfl w.heap.size 3 (.int .i64 0) 1 8 Tryz.underlying24 info_int rfl (by decide) [.int .i64 z] rfl (by simp [Value.oneCell']) _ _ _ (by rfl) HO5.out (by rfl) rfl (by omega) (by omega) hs5 ?_);intro g1 cp1 w1 hown1 hgrow1;have HO6:=Lib.hid hown1;have HB6:=Lib.hid (below_grown HB5.out HO5.out hgrow1 hs5 (Nat.le_refl _));clear hown1 hgrow1))
   go_roundg (l.length - (k+1))
   case measure=>omega
   case rel=>exact⟨k+1,_,_,by omega,by omega,by go_num,rfl,Lib.hid (by rw [HT.out,List.map_append];exact HO6.out),HB6⟩
  ·
   have hkl:k=l.length:=by omega
   subst hkl
   rw [List.take_length] at HO
   go_wp2
   go_ret
   exact⟨a1,c1,rfl,HO.out,HB.out⟩
theorem own_re {w:World} {base b2:Nat} {t:TypeId} {s:Nat} {v:Value} {n:Nat} {xs:List Value} (h:w.ownsRow base t s v n xs) (hb:∀ g,v.ownBlock=some g→b2≤g):w.ownsRow b2 t s v n xs:=by
 obtain⟨h1,h2⟩:=h
 refine⟨h1,?_⟩
 rcases h2 with h2 | ⟨g,cap,cur,rfl,hg,r⟩
 · exact Or.inl h2
 · exact Or.inr ⟨g,cap,cur,rfl,hb g rfl,r⟩
theorem SInv.drew {w0 w:World} {g:Nat} {m:Mach} {vr vm vo:Value} (h:SInv w0 g m vr vm vo w):SInv w0 g m vr vm vo w.drew:=⟨⟨h.own.hr,h.own.hm,h.own.ho,h.own.rm,h.own.ro,h.own.mo,h.own.mr,h.own.or,h.own.om⟩,h.box,h.below.drew⟩
theorem kset12 {w:World} {g:Nat} {c0 c1 c2 c3 c4 c5 c6 c7 c8 c9 c10 c11 v0 v1 v2 v3 v4 v5 v6 v7 v8 v9 v10 v11:Value} {t:TypeId} {fr:Nat × Nat} (h:w.heap[g]? = some (.cells #[c0,c1,c2,c3,c4,c5,c6,c7,c8,c9,c10,c11] t fr)):((((((((((((w.setCell ⟨g,0,none⟩ v0).setCell ⟨g,1,none⟩ v1).setCell ⟨g,2,none⟩ v2).setCell ⟨g,3,none⟩ v3).setCell ⟨g,4,none⟩ v4).setCell ⟨g,5,none⟩ v5).setCell ⟨g,6,none⟩ v6).setCell ⟨g,7,none⟩ v7).setCell ⟨g,8,none⟩ v8).setCell ⟨g,9,none⟩ v9).setCell ⟨g,10,none⟩ v10).setCell ⟨g,11,none⟩ v11).heap[g]? = some (.cells #[v0,v1,v2,v3,v4,v5,v6,v7,v8,v9,v10,v11] t fr):=by
 have h12:=(set_block (i:=11) (set_block (i:=10) (set_block (i:=9) (set_block (i:=8) (set_block (i:=7) (set_block (i:=6) (set_block (i:=5) (set_block (i:=4) (set_block (i:=3) (set_block (i:=2) (set_block (i:=1) (set_block (i:=0) h v0) v1) v2) v3) v4) v5) v6) v7) v8) v9) v10) v11)
 simpa using h12
def flatI:List Ins→List Value
 | []=>[]
 | x :: l=>.int .i64 x.op :: .int .i64 x.a :: .int .i64 x.b :: .int .i64 x.n :: flatI l
theorem flatI_get:∀ (l:List Ins) (i:Nat) (h:i < l.length) (j:Nat) (hj:j < 4),(flatI l)[i * 4+j]? = ([.int .i64 l[i].op,.int .i64 l[i].a,.int .i64 l[i].b,.int .i64 l[i].n]:List Value)[j]?
 | [],i,h,j,hj=>absurd h (Nat.not_lt_zero _)
 | x :: l,0,h,j,hj=>by
  rcases j with _ | _ | _ | _ | j
  · rfl
  · rfl
  · rfl
  · rfl
  · omega
 | x :: l,i+1,h,j,hj=>by
  have:=flatI_get l i (by simpa using h) j hj
  rw [show (i+1) * 4+j=(i * 4+j)+4 by omega]
  exact this
theorem insr_block {w:World} {g c:Nat} {l:List Ins} {t:TypeId} {fr:Nat × Nat} (h:w.heap[g]? = some (.cells (flatI l).toArray t fr)) (hl:l.length≤1000) (hc:l.length≤c):InsR w.heap.size w (.slice (some ⟨g,0,none⟩) l.length c) l:=by
 refine⟨some ⟨g,0,none⟩,c,rfl,hl,hc,fun i hi=>⟨g,0,[.int .i64 l[i].op,.int .i64 l[i].a,.int .i64 l[i].b,.int .i64 l[i].n],rfl,(Array.getElem?_eq_some_iff.1 h).1,rfl,fun j hj=>?_,rfl⟩⟩
 have hj4:j < 4:=hj
 have hc:=cell_block h (0+i * 4+j)
 rw [hc]
 have hf:=flatI_get l i hi j hj4
 rw [Nat.zero_add]
 simp only [List.getElem?_toArray]
 rw [hf,List.getElem?_eq_getElem hj]
structure KBox (g gr cr mb cm:Nat) (m:Mach) (ao:Option Addr) (co:Nat) (w:World):Prop where
 box:w.heap[g]? = some (.cells #[.slice (some ⟨gr,0,none⟩) 8 cr,.int .i64 m.pc,.int .i64 m.back,.bool m.ints,.bool m.wait,.int .i64 m.table,.int .i64 m.count,.int .i64 m.fin,.slice (some ⟨mb,0,none⟩) 256 cm,.slice ao m.out.length co,.int .i64 m.ready,.int .i64 m.want] 34 (0,0))
 regs:w.ownsRow 0 3 1 (.slice (some ⟨gr,0,none⟩) 8 cr) 8 (m.regs.map (Value.int .i64))
 mem:w.ownsRow 0 3 1 (.slice (some ⟨mb,0,none⟩) 256 cm) 256 (m.mem.map (Value.int .i64))
 out:w.ownsRow 0 3 1 (.slice ao m.out.length co) m.out.length (m.out.map (Value.int .i64))
 rm:gr≠mb
 ro:(Value.slice ao m.out.length co).ownBlock≠some gr
 mo:(Value.slice ao m.out.length co).ownBlock≠some mb
theorem out12 {F:Nat→Prop} {g:Nat} {a w:World} {v0 v1 v2 v3 v4 v5 v6 v7 v8 v9 v10 v11:Value} (h:OutF F a w) (hg:F g):OutF F a ((((((((((((w.setCell ⟨g,0,none⟩ v0).setCell ⟨g,1,none⟩ v1).setCell ⟨g,2,none⟩ v2).setCell ⟨g,3,none⟩ v3).setCell ⟨g,4,none⟩ v4).setCell ⟨g,5,none⟩ v5).setCell ⟨g,6,none⟩ v6).setCell ⟨g,7,none⟩ v7).setCell ⟨g,8,none⟩ v8).setCell ⟨g,9,none⟩ v9).setCell ⟨g,10,none⟩ v10).setCell ⟨g,11,none⟩ v11):=((((((((((((h.setCell (g:=g) (i:=0) (Or.inl hg) v0).setCell (g:=g) (i:=1) (Or.inl hg) v1).setCell (g:=g) (i:=2) (Or.inl hg) v2).setCell (g:=g) (i:=3) (Or.inl hg) v3).setCell (g:=g) (i:=4) (Or.inl hg) v4).setCell (g:=g) (i:=5) (Or.inl hg) v5).setCell (g:=g) (i:=6) (Or.inl hg) v6).setCell (g:=g) (i:=7) (Or.inl hg) v7).setCell (g:=g) (i:=8) (Or.inl hg) v8).setCell (g:=g) (i:=9) (Or.inl hg) v9).setCell (g:=g) (i:=10) (Or.inl hg) v10).setCell (g:=g) (i:=11) (Or.inl hg) v11)
theorem encZ_word {op a b n:Int} (h:iCode op a b n=0):encZ op a b n=wordZ op a b n:=by unfold encZ;rw [if_pos h]
theorem encZ_WordZ (op a b n:Int):WordZ (encZ op a b n):=by
 by_cases h:iCode op a b n=0
 ·
  rw [encZ_word h]
  obtain⟨h1,h2,h3,h4,h5,h6,h7,h8⟩:=iCode_rng h
  unfold wordZ WordZ;omega
 · unfold encZ;rw [if_neg h];unfold WordZ;omega
end Go.Proofs.YtkahciebbnhobaaGreatDoor
