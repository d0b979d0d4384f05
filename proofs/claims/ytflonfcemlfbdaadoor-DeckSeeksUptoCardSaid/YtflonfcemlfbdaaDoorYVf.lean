/- Several texts joined, each with its own heading in the notes: The deck's look for a checkpoint at its count. slices. The contract of the deck's bare: a guest without its memory, its registers and what it told in rows of the call's own. What the deck's keep is made of. What the deck's begin is made of. No condition beyond those of each row. -/
import Derived.Test.YtflonfcemlfbdaaDoorYVb
import Derived.Handy
import Derived.StillTailTactics
import Derived.Deep.LoopGhost
import Derived.Deep.RegionWith
import Derived.Test.YtflonfcemlfbdaaDoorYCl
import Derived.Shelf.RegionOpenPlain
import Derived.WalkKit
import Derived.Deep.RegionLaw
import Derived.Lib.Walk
import Derived.Lib.SliceRun
import Derived.Deep.CutBlock
import Derived.Test.YtflonfcemlfbdaaDoorYTk
import Derived.Test.YtflonfcemlfbdaaDoorYNg
namespace Go.Proofs.YtflonfcemlfbdaaDoor
open Go Go.RowKit Go.ChangeShapes Go.WideShapes Go.Deep
set_option maxHeartbeats 4000000
set_option maxRecDepth 100000
set_option linter.unusedVariables false
attribute [local go_sem ↓] Go.wp_at_zero Go.wp_at_succ
theorem zep:∀(pts:List Pt) (j k:Nat) (hj:j<pts.length) (hk:k<14),(pts.flatMap Pt.cells)[j*14+k]?=pts[j].cells[k]?
 | [],j,k,hj,hk=>absurd hj (Nat.not_lt_zero _)
 | p::pts,0,k,hj,hk=>by
  rw[List.flatMap_cons,Nat.zero_mul,Nat.zero_add,List.getElem?_append_left (by rw[zbH];exact hk)]
  rfl
 | p::pts,j+1,k,hj,hk=>by
  rw[List.flatMap_cons,List.getElem?_append_right (by rw[zbH];omega),show (j+1)*14+k-p.cells.length=j*14+k by rw[zbH];omega]
  exact zep pts j k (by simpa using hj) hk
theorem zdK{K:DkC}{ap:Option Addr}{cp:Nat}{pts:List Pt}{w:World}(h:RowP K ap cp pts w)(hn:0<pts.length):∃g,ap=some ⟨g,0,none⟩∧g<w.heap.size∧pts.length≤cp∧∀(j:Nat) (hj:j<pts.length) (k:Nat) (v:Value),k<14→pts[j].cells[k]?=some v→w.cell? ⟨g,j*14+k,none⟩=some v:=by
 rcases h.2 with⟨hv,h0⟩|⟨g,cap,cur,hv,hb,hg,hnc,hcap,hcs,htk⟩
 ·omega
 ·
  injection hv with h1 h2 h3
  subst h1 h3
  refine⟨g,rfl,(Array.getElem?_eq_some_iff.1 hg).1,by omega,fun j hj k v hk he=>?_⟩
  have:=h.cells (g:=g) rfl (j*14+k) v ((zep pts j k hj hk).trans he)
  rw[add_plain,Nat.zero_add] at this
  exact this
def Pt.agg(p:Pt):Value:=.agg #[.slice (some ⟨p.gr,0,none⟩) 8 p.cr,.int .i64 p.m.pc,.int .i64 p.m.back,.bool p.m.ints,.bool p.m.wait,.int .i64 p.m.table,.int .i64 p.m.count,.int .i64 p.m.fin,.slice none 0 0,.slice p.ao p.m.out.length p.co,.int .i64 p.m.ready,.int .i64 p.m.want,.pointer (some ⟨p.sb,0,none⟩),.slice p.al p.nl p.cl]
def PtIs(F:FuncId)(cap:Value)(pts:List Pt)(t:Pt→Bool)(w0:World):Prop:=∀q∈pts,∀W,Below w0.heap.size w0 W→Calls Tryd.prog F #[q.agg,cap] W fun e w'=>e=.returned (.bool (t q))∧Below W.heap.size W w'
theorem zhR{xb db cb:Nat}{c:Int}(p:Pt)(w:World)(h0:w.cell? ⟨xb,0,none⟩=some (.pointer (some ⟨db,0,none⟩)))(h1:w.cell? ⟨db,8,none⟩=some (.pointer (some ⟨cb,0,none⟩)))(h2:w.cell? ⟨cb,6,none⟩=some (.int .i64 c))(l0:xb<w.heap.size)(l1:db<w.heap.size)(l2:cb<w.heap.size):Calls Tryd.prog 62 #[p.agg,.pointer (some ⟨xb,0,none⟩)] w fun e w'=>e=.returned (.bool (p.m.count == c))∧Below w.heap.size w w':=by
 unfold Pt.agg
 generalize p.m.count=pc at *
 go_enter Tryd.func62,Tryd.ntmps62
 go_wp2_with fail
 have HB:=Lib.hid (fun O=>zai w O)
 go_quiet (fail)
 go_wp2
 go_ret
 exact⟨rfl,below_drewN (HB.out _) _⟩
theorem ziW {K : DkC} {ap : Option Addr} {cp : Nat} {pts : List Pt} (F : FuncId) (cap : Value) (t : Pt → Bool) (eg : ∀ args w, (callFunc F args).run Tryd.prog w = .ok (.enter F args) w) (w : World) (hr : RowP K ap cp pts w) (hp : PtIs F cap pts t w) (hl : pts.length ≤ 100) :
  Calls Tryd.prog 80 #[.slice ap pts.length cp,.func (.func F) #[] #[cap]] w fun e w'=>(∃i:Int,e=.returned (.int .i64 i)∧-1≤i∧i≤100∧((0≤i)=(pts.any t=true)))∧Below w.heap.size w w':=by
 have HR:=Lib.hid hr
 have HP:=Lib.hid hp
 clear hr hp
 go_enter Tryd.func80,Tryd.ntmps80
 go_wp2
 go_loopg [5,8] pts.length (fun gg _ s8 wr =>∃k:Nat,k≤pts.length∧pts.length-k≤gg∧s8=.int .i64 k∧Hid (Below w.heap.size w wr)∧Hid ((pts.take k).any t=false))
 case atStart=>exact⟨0,Nat.zero_le _,by omega,rfl,Lib.hid (Below.refl _ _),Lib.hid rfl⟩
 case round=>
  obtain⟨k,hk,hg,rfl,HB,A⟩:=hrel
  by_cases hlt:k<pts.length
  ·
   obtain⟨g,rfl,hgl,hcap,hcell⟩:=zdK (HR.out.below HB.out) (by omega)
   have hc:=hcell k hlt
   have hcall:=Lib.hid (HP.out pts[k] (List.getElem_mem hlt) wr HB.out)
   have HT:=Lib.hid (show ∀b,t pts[k]=b→(pts.take (k+1)).any t=b from fun b hb=>by
    rw[List.take_succ_eq_append_getElem hlt,List.any_append,A.out]
    simp[hb])
   have HH:=Lib.hid (show t pts[k]=true→pts.any t=true from fun h=>List.any_eq_true.2 ⟨_,List.getElem_mem hlt,h⟩)
   generalize pts[k]=q at *
   unfold Pt.cells at hc
   have k0:wr.cell? ⟨g,k*14,none⟩=_:=hc 0 _ (by omega) rfl
   have k1:=hc 1 _ (by omega) rfl
   have k2:=hc 2 _ (by omega) rfl
   have k3:=hc 3 _ (by omega) rfl
   have k4:=hc 4 _ (by omega) rfl
   have k5:=hc 5 _ (by omega) rfl
   have k6:=hc 6 _ (by omega) rfl
   have k7:=hc 7 _ (by omega) rfl
   have k8:=hc 8 _ (by omega) rfl
   have k9:=hc 9 _ (by omega) rfl
   have k10:=hc 10 _ (by omega) rfl
   have k11:=hc 11 _ (by omega) rfl
   have k12:=hc 12 _ (by omega) rfl
   have k13:=hc 13 _ (by omega) rfl
   unfold Pt.agg at hcall
   clear hc hcell
   cases hq:t q with
   | true=>
    rw[hq] at hcall
    have HQ:=Lib.hid hq
    clear hq
    go_wp2_with (go_at_fn F;refine hcall.out.mono ?_;rintro e w' ⟨rfl,hbw⟩)
    go_ret
    exact⟨⟨k,rfl,by omega,by omega,by simp[HH.out HQ.out]⟩,HB.out.trans (hbw.mono HB.out.size)⟩
   | false=>
    rw[hq] at hcall
    have HQ:=Lib.hid hq
    clear hq
    go_wp2_with (go_at_fn F;refine hcall.out.mono ?_;rintro e w' ⟨rfl,hbw⟩)
    go_roundg (pts.length-(k+1))
    case measure=>omega
    case rel=>exact⟨k+1,by omega,by omega,by go_num,Lib.hid (HB.out.trans (hbw.mono HB.out.size)),Lib.hid (HT.out _ HQ.out)⟩
  ·
   have hm:pts.any t=false:=by have:=A.out;rw[List.take_of_length_le (by omega)] at this;exact this
   have HM:=Lib.hid hm
   clear hm
   go_wp2
   go_ret
   exact⟨⟨-1,rfl,by omega,by omega,by simp[HM.out]⟩,HB.out⟩
theorem zdL {K : DkC} {ap : Option Addr} {cp : Nat} {pts : List Pt} (F : FuncId) (cap : Value) (t : Pt → Bool) (eg : ∀ args w, (callFunc F args).run Tryd.prog w = .ok (.enter F args) w) (w : World) (hr : RowP K ap cp pts w) (hp : PtIs F cap pts t w) (hl : pts.length ≤ 100) :
  Calls Tryd.prog 61 #[.slice ap pts.length cp,.func (.func F) #[] #[cap]] w fun e w'=>e=.returned (.bool (pts.any t))∧Below w.heap.size w w':=by
 have HI:=Lib.hid (ziW F cap t eg w hr hp hl)
 clear hr hp eg
 go_enter Tryd.func61,Tryd.ntmps61
 go_wp2_with fail
 refine HI.out.mono ?_
 rintro e w' ⟨⟨i,rfl,h1,h2,h3⟩,hb⟩
 have H3:=Lib.hid h3
 have HB:=Lib.hid hb
 clear h3 hb
 go_wp2
 go_ret
 refine⟨zaZ ?_,HB.out⟩
 rw[Bool.eq_iff_iff,decide_eq_true_iff,H3.out]
theorem ze9{g:Nat}{t:TypeId}{fr:Nat×Nat}:∀(vs pre mid post:List Value) (w:World),mid.length=vs.length→w.heap[g]?=some (.cells (pre++mid++post).toArray t fr)→(w.setCells g pre.length vs).heap[g]?=some (.cells (pre++vs++post).toArray t fr)
 | [],pre,mid,post,w,hl,h=>by
  rw[List.length_eq_zero_iff.1 hl] at h
  exact h
 | v::vs,pre,mid,post,w,hl,h=>by
  cases mid with
  | nil=>cases hl
  | cons r mid=>
   have h1:=zaf (i:=pre.length) h v
   have e:((pre++r::mid++post).toArray.setIfInBounds pre.length v)=((pre++[v])++mid++post).toArray:=by
    rw[List.setIfInBounds_toArray,List.append_assoc,List.set_append_right _ _ (Nat.le_refl _),Nat.sub_self]
    simp
   rw[e] at h1
   have h2:=ze9 vs (pre++[v]) mid post (w.setCell ⟨g,pre.length,none⟩ v) (by simpa using hl) h1
   rw[List.length_append] at h2
   rw[show pre++v::vs++post=(pre++[v])++vs++post by simp]
   exact h2
structure OneB(g:Nat)(w w':World):Prop where
 os:w'.os=w.os
 tape:w'.tape=w.tape
 output:w'.output=w.output
 size:w'.heap.size=w.heap.size
 block:∀k,k≠g→w'.heap[k]?=w.heap[k]?
theorem OneB.set{g o:Nat}{w w':World}(h:OneB g w w')(v:Value):OneB g w (w'.setCell ⟨g,o,none⟩ v):=
 ⟨h.os,h.tape,h.output,by simp[World.setCell];exact h.size,fun k hk=>(Below.heap_setCell w' ⟨g,o,none⟩ v k hk).trans (h.block k hk)⟩
theorem OneB.sets{g:Nat}:∀(vs:List Value) (o:Nat) {w w':World},OneB g w w'→OneB g w (w'.setCells g o vs)
 | [],_,_,_,h=>h
 | v::vs,o,_,_,h=>OneB.sets vs (o+1) (h.set v)
theorem OneB.drew{g:Nat}(w:World):OneB g w w.drew:=⟨rfl,rfl,rfl,rfl,fun _ _=>rfl⟩
def zeroPt:List Value:=[.slice none 0 0,.int .i64 0,.int .i64 0,.bool false,.bool false,.int .i64 0,.int .i64 0,.int .i64 0,.slice none 0 0,.slice none 0 0,.int .i64 0,.int .i64 0,.pointer none,.slice none 0 0]
def zPt:Value:=.agg #[.slice none 0 0,.int .i64 0,.int .i64 0,.bool false,.bool false,.int .i64 0,.int .i64 0,.int .i64 0,.slice none 0 0,.slice none 0 0,.int .i64 0,.int .i64 0,.pointer none,.slice none 0 0]
theorem zeq:(Tryd.prog.info? 86).map (fun i=>(i.zero,i.size))=some (some zPt,14):=by kernel_rfl
theorem ziX (w : World) (ty : TypeId) (b o c : Nat) (hc : ∀ j, j < 14 → (w.cell? ⟨b, o + j, none⟩).isSome = true) (hf : ∀ j, j < 14 → w.frozen? ⟨b, o + j, none⟩ = false) :
  (Builtin.clear_ #[42] ty #[.slice (some ⟨b,o,none⟩) 1 c]).run Tryd.prog w=.ok (.tuple #[]) (w.setCells b o zeroPt):=by
 have hst:=run_storeCells_cells (P:=Tryd.prog) b o zeroPt 0 w (by simpa[zeroPt] using hc) (by simpa[zeroPt] using hf) (by intro v hv;exact List.all_eq_true.1 (show zeroPt.all (fun v=>v.oneCell')=true from rfl) v hv)
 simp only[Nat.add_zero] at hst
 obtain⟨i,hi,h2⟩:=Option.map_eq_some_iff.1 zeq
 injection h2 with h3 h4
 have hzc:(Builtin.zeroCells zPt.cells 1).toList=zeroPt:=by kernel_rfl
 simp[Builtin.clear_,run_underlying Tryd.underlying42,zeroValue,typeInfo,hi,h3,hzc,hst]
theorem zgx (base g n cap : Nat) (c0 cs : List Value) (w : World) (h0 : c0.length = 14) (hone : ∀ u ∈ cs, u.oneCell' = true) (hr : w.ownsRow base 86 14 (.slice (some ⟨g, 0, none⟩) (n + 1) cap) (n + 1) (c0 ++ cs)) :
  Calls Tryd.prog 63 #[.slice (some ⟨g,0,none⟩) (n+1) cap,.int .i64 0,.int .i64 1] w fun e w'=>e=.returned (.slice (some ⟨g,0,none⟩) n cap)∧w'.ownsRow base 86 14 (.slice (some ⟨g,0,none⟩) n cap) n cs∧OneB g w w':=by
 obtain⟨i0,hi0,h2⟩:=Option.map_eq_some_iff.1 zeq
 injection h2 with hz0 hz1
 obtain⟨hlen,hr⟩:=hr
 rcases hr with⟨hv,hn⟩|⟨g2,cap2,cur,hv,hb,hg,hnc,hcm,hcs,htk⟩
 ·omega
 injection hv with e1 e2 e3
 injection e1 with e1;injection e1 with e1
 subst e1 e3
 have hln:cs.length=n*14:=by rw[List.length_append,h0] at hlen;omega
 have hmax:cap≤9223372036854775807:=Nat.le_trans hcm (by decide)
 obtain⟨tail,htail⟩:∃tail,cur.toList=c0++cs++tail:=⟨cur.toList.drop ((n+1)*14),by rw[←htk,List.take_append_drop]⟩
 have hcur:cur=(c0++cs++tail).toArray:=by rw[←htail]
 rw[hcur] at hg
 have cell:∀j v,(c0++cs++tail)[j]?=some v→w.cell? ⟨g,j,none⟩=some v:=fun j v hv=>by rw[zaa hg j];simpa using hv
 have cellI:∀j,j<(n+1)*14→(w.cell? ⟨g,j,none⟩).isSome=true:=fun j hj=>by
  rw[zaa hg j]
  rw[List.getElem?_toArray,List.getElem?_eq_getElem (by rw[List.length_append,hlen];omega)]
  rfl
 have free:∀j,w.frozen? ⟨g,j,none⟩=false:=fun j=>zab hg j
 obtain⟨A,hA,hsrc⟩:∃A:Addr,(if cap=1 then some (⟨g,0,none⟩:Addr) else some ⟨g,14,none⟩)=some A∧Hid (∀t u,cs[t]?=some u→w.drew.cell? (A.add t)=some u):=by
  by_cases h:cap=1
  ·
   refine⟨⟨g,0,none⟩,by simp[h],fun t u hu=>?_⟩
   have:cs.length=0:=by omega
   rw[List.length_eq_zero_iff.1 this] at hu
   simp at hu
  ·
   refine⟨⟨g,14,none⟩,by simp[h],fun t u hu=>?_⟩
   have ht:=(List.getElem?_eq_some_iff.1 hu).1
   rw[Addr.add_lit]
   refine cell (14+t) u ?_
   rw[List.append_assoc,List.getElem?_append_right (by omega),h0,Nat.add_sub_cancel_left,List.getElem?_append_left ht]
   exact hu
 have s1:Hid (cs.length=n*14):=Lib.hid hln
 have s2:Hid (∀u∈cs,u.oneCell'=true):=Lib.hid hone
 have s3:Hid (∀t,t<cs.length→(w.drew.cell? ⟨g,0+0*14+t,none⟩).isSome=true∧w.drew.frozen? ⟨g,0+0*14+t,none⟩=false):=Lib.hid (fun t ht=>by
  simp only[Nat.zero_mul,Nat.zero_add]
  exact⟨cellI t (by omega),free t⟩)
 obtain⟨W1,hW1⟩:∃W1,W1=w.drew.setCells g (0+0*14) cs:=⟨_,rfl⟩
 have hB1:W1.heap[g]?=some (.cells (cs++(c0++cs).drop (n*14)++tail).toArray 86 (0,0)):=by
  rw[hW1]
  have:=ze9 (g:=g) cs [] ((c0++cs).take (n*14)) ((c0++cs).drop (n*14)++tail) w.drew (by rw[List.length_take,hlen,hln];omega) (by rw[List.nil_append,←List.append_assoc,List.take_append_drop];exact hg)
  rw[List.nil_append,←List.append_assoc] at this
  exact this
 have hO1:OneB g w W1:=by rw[hW1];exact OneB.sets cs _ (OneB.drew w)
 have hd14:((c0++cs).drop (n*14)).length=14:=by rw[List.length_drop,hlen];omega
 have hcl:∀ty,(Builtin.clear_ #[42] ty #[.slice (some ⟨g,n*14,none⟩) 1 (cap-n)]).run Tryd.prog W1=.ok (.tuple #[]) (W1.setCells g (n*14) zeroPt):=fun ty=>ziX W1 ty g (n*14) (cap-n) (fun j hj=>by
  rw[zaa hB1,List.getElem?_toArray,List.getElem?_eq_getElem (by rw[List.length_append,List.length_append,hd14,hln];omega)];rfl) (fun j _=>zab hB1 _)
 have hB2:(W1.setCells g (n*14) zeroPt).heap[g]?=some (.cells (cs++zeroPt++tail).toArray 86 (0,0)):=by
  have:=ze9 (g:=g) zeroPt cs ((c0++cs).drop (n*14)) tail W1 (by rw[hd14];rfl) hB1
  rw[hln] at this
  exact this
 have HF:Hid ((W1.setCells g (n*14) zeroPt).ownsRow base 86 14 (.slice (some ⟨g,0,none⟩) n cap) n cs∧OneB g w (W1.setCells g (n*14) zeroPt)):=Lib.hid (by
  refine⟨⟨hln,Or.inr ⟨g,cap,_,rfl,hb,hB2,by omega,hcm,?_,?_⟩⟩,OneB.sets zeroPt _ hO1⟩
  ·
   have h1:cur.size=(c0++cs++tail).length:=by rw[hcur];simp
   rw[hcs] at h1
   rw[List.size_toArray,List.length_append,List.length_append,hln,show zeroPt.length=14 from rfl]
   rw[List.length_append,hlen] at h1
   omega
  ·
   rw[List.append_assoc]
   exact List.take_left' hln)
 have hW:Hid (W1=w.drew.setCells g (0+0*14) cs):=Lib.hid hW1
 have hnc1:1≤cap:=by omega
 have h1n:(1:Int)≤(n:Int)+1:=by omega
 have hncn:n≤cap:=by omega
 have hn1:n+1≤cap:=hnc
 clear hW1 hB1 hO1 hd14 hB2 hg hcur htail htk hcs cell cellI free hlen hln hone
 go_enter Tryd.func63,Tryd.ntmps63
 go_wp2_with fail
 go_region_law (refine step_append_room rfl (.tmp 22) (.tmp 25) 42 rfl 86 i0 14 Tryd.underlying42 hi0 hz1 g 0 0 cap (by simp[Act.eval,Act.put]) A n (cap-1) cs (by simp[Act.eval,Act.put]) s1.out hsrc.out s2.out (by omega) s3.out ?_;rw[←hW.out])
 go_wp2
 go_ret
 exact⟨rfl,HF.out.1,HF.out.2⟩
structure BareOwn(base:Nat)(w:World)(m:Mach)(vr vo:Value):Prop where
 hr:w.ownsRow base 3 1 vr m.regs.length (m.regs.map (Value.int .i64))
 ho:w.ownsRow base 3 1 vo m.out.length (m.out.map (Value.int .i64))
 ro:Apart vr vo
 or:Apart vo vr
def zdM(w:World)(m:Mach)(e:Ending)(w':World):Prop:=∃ar cr ao co,e=.returned (.agg #[.slice ar m.regs.length cr,.int .i64 m.pc,.int .i64 m.back,.bool m.ints,.bool m.wait,.int .i64 m.table,.int .i64 m.count,.int .i64 m.fin,.slice none 0 0,.slice ao m.out.length co,.int .i64 m.ready,.int .i64 m.want])∧BareOwn w.heap.size w' m (.slice ar m.regs.length cr) (.slice ao m.out.length co)∧Below w.heap.size w w'
def zhS(w:World)(m:Mach)(wx:World):Prop:=∃ar cr ao co,wx.heap[w.heap.size]?=some (.cells #[.slice ar m.regs.length cr,.int .i64 m.pc,.int .i64 m.back,.bool m.ints,.bool m.wait,.int .i64 m.table,.int .i64 m.count,.int .i64 m.fin,.slice none 0 0,.slice ao m.out.length co,.int .i64 m.ready,.int .i64 m.want] 48 (0,0))∧wx.heap[w.heap.size+1]?=some (.cells #[.slice none 0 0,.int .i64 0,.int .i64 0,.bool false,.bool false,.int .i64 0,.int .i64 0,.int .i64 0,.slice none 0 0,.slice none 0 0,.int .i64 0,.int .i64 0] 48 (0,0))∧BareOwn w.heap.size wx m (.slice ar m.regs.length cr) (.slice ao m.out.length co)∧Below w.heap.size w wx
theorem BareOwn.set{base g i:Nat}{w:World}{m:Mach}{vr vo u:Value}{cs:Array Value}{t:TypeId}{fr:Nat×Nat}(h:BareOwn base w m vr vo)(hg:w.heap[g]?=some (.cells cs t fr))(ht:3≠t):BareOwn base (w.setCell ⟨g,i,none⟩ u) m vr vo:=
 ⟨zao h.hr (zad h.hr hg ht) _,zao h.ho (zad h.ho hg ht) _,h.ro,h.or⟩
structure BareInv(w0:World)(m:Mach)(vr vo:Value)(w:World):Prop where
 own:BareOwn w0.heap.size w m vr vo
 box:∃cs,w.heap[w0.heap.size+1]?=some (.cells cs 48 (0,0))
 below:Below w0.heap.size w0 w
theorem BareInv.step{w0 w:World}{m:Mach}{vr vo:Value}(h:BareInv w0 m vr vo w)(i:Nat)(u:Value):BareInv w0 m vr vo (w.setCell ⟨w0.heap.size+1,i,none⟩ u):=by
 obtain⟨ho,⟨cs,hb⟩,hB⟩:=h
 exact⟨ho.set hb (by decide),⟨_,zaf hb u⟩,hB.setCell (by simp) u⟩
theorem zgy {w W2 W2' w1 w3 : World} (m : Mach) {vr vm vo : Value} {a1 a3 : Option Addr} {c1 c3 : Nat} (hd : W2' = W2.drew) (hs0 : W2.heap.size = w.heap.size + 2) (hb0 : Below w.heap.size w W2)
  (hx2:W2.heap[w.heap.size+1]?=some (.cells #[.slice none 0 0,.int .i64 0,.int .i64 0,.bool false,.bool false,.int .i64 0,.int .i64 0,.int .i64 0,.slice none 0 0,.slice none 0 0,.int .i64 0,.int .i64 0] 48 (0,0)))
  (hx3:w3.heap[w.heap.size]?=some (.cells #[vr,.int .i64 m.pc,.int .i64 m.back,.bool m.ints,.bool m.wait,.int .i64 m.table,.int .i64 m.count,.int .i64 m.fin,vm,vo,.int .i64 m.ready,.int .i64 m.want] 48 (0,0)))
  (h1:w1.ownsRow W2'.heap.size 3 1 (.slice a1 m.regs.length c1) m.regs.length (m.regs.map (Value.int .i64))) (k1:Below W2'.heap.size W2' w1)
  (h3:w3.ownsRow w1.heap.size 3 1 (.slice a3 m.out.length c3) m.out.length (m.out.map (Value.int .i64))) (k3:Below w1.heap.size w1 w3):
  zhS w m (((w3.setCell ⟨w.heap.size,0,none⟩ (.slice a1 m.regs.length c1)).setCell ⟨w.heap.size,9,none⟩ (.slice a3 m.out.length c3)).setCell ⟨w.heap.size,8,none⟩ (.slice none 0 0)):=by
 subst hd
 have s0:W2.drew.heap.size=w.heap.size+2:=hs0
 have s1:=k1.size
 have s3:=k3.size
 have y2:=zac k3 (zac k1 hx2 (by omega)) (by omega)
 have o1:=own_below (zar h1 (b':=w.heap.size) (by omega)) k3 (Nat.le_refl _)
 have o3:=zar h3 (b':=w.heap.size) (by omega)
 have set3:∀{v:Value} {n:Nat} {xs:List Value},w3.ownsRow w.heap.size 3 1 v n xs→(((w3.setCell ⟨w.heap.size,0,none⟩ (.slice a1 m.regs.length c1)).setCell ⟨w.heap.size,9,none⟩ (.slice a3 m.out.length c3)).setCell ⟨w.heap.size,8,none⟩ (.slice none 0 0)).ownsRow w.heap.size 3 1 v n xs:=fun h=>zao (zao (zao h (zad h hx3 (by decide)) _) (zad h hx3 (by decide)) _) (zad h hx3 (by decide)) _
 refine⟨a1,c1,a3,c3,?_,?_,⟨set3 o1,set3 o3,(zaQ h1 h3 (Nat.le_refl _)).1,(zaQ h1 h3 (Nat.le_refl _)).2⟩,?_⟩
 ·
  have:=zaf (zaf (zaf hx3 (i:=0) (.slice a1 m.regs.length c1)) (i:=9) (.slice a3 m.out.length c3)) (i:=8) (.slice none 0 0)
  simpa using this
 ·exact zah (zah (zah y2 (by omega) _) (by omega) _) (by omega) _
 ·
  have hB:Below w.heap.size w w3:=(hb0.drew.trans (k1.mono (by omega))).trans (k3.mono (by omega))
  exact((hB.setCell (by simp) _).setCell (by simp) _).setCell (by simp) _
theorem zfP (m : Mach) (vm : Value) (ar ao : Option Addr) (cr co : Nat) (w : World) (hone : ∃ a n c, vm = .slice a n c)
  (hr:Ints w.heap.size w (.slice ar m.regs.length cr) m.regs) (ho:Ints w.heap.size w (.slice ao m.out.length co) m.out):
  Calls Tryd.prog 23 #[.agg #[.slice ar m.regs.length cr,.int .i64 m.pc,.int .i64 m.back,.bool m.ints,.bool m.wait,.int .i64 m.table,.int .i64 m.count,.int .i64 m.fin,vm,.slice ao m.out.length co,.int .i64 m.ready,.int .i64 m.want]] w (zdM w m):=by
 have HR:=Lib.hid hr
 have HO:=Lib.hid ho
 obtain⟨am,nm,cm,rfl⟩:=hone
 clear hr ho
 obtain⟨regs,pc,back,ints,wait,table,count,fin,mem,out,ready,want⟩:=m
 simp only at *
 go_enter Tryd.func23,Tryd.ntmps23
 go_upto_region 1 with fail
 generalize hW:(w.alloc _).alloc _=W2
 have hx1:W2.heap[w.heap.size]?=some (.cells #[.slice ar regs.length cr,.int .i64 pc,.int .i64 back,.bool ints,.bool wait,.int .i64 table,.int .i64 count,.int .i64 fin,.slice am nm cm,.slice ao out.length co,.int .i64 ready,.int .i64 want] 48 (0,0)):=by rw[←hW];exact(zaj (by simp)).trans (alloc_at rfl)
 have hx2:W2.heap[w.heap.size+1]?=some (.cells #[.slice none 0 0,.int .i64 0,.int .i64 0,.bool false,.bool false,.int .i64 0,.int .i64 0,.int .i64 0,.slice none 0 0,.slice none 0 0,.int .i64 0,.int .i64 0] 48 (0,0)):=by rw[←hW];exact alloc_at (by simp)
 have hb0:Below w.heap.size w W2:=by rw[←hW];exact below_alloc2 _ _ _
 have hs0:W2.heap.size=w.heap.size+2:=by rw[←hW];simp
 clear hW
 have c00:W2.cell? ⟨w.heap.size,0,none⟩=some (.slice ar regs.length cr):=zaa hx1 0
 have c09:W2.cell? ⟨w.heap.size,9,none⟩=some (.slice ao out.length co):=zaa hx1 9
 have HX1:=Lib.hid hx1
 have HX2:=Lib.hid hx2
 have HS0:=Lib.hid hs0
 clear hx1 hx2 hs0
 go_cut [] (fun wx=>zhS w ⟨regs,pc,back,ints,wait,table,count,fin,mem,out,ready,want⟩ wx)
 case first=>
  go_region_with (first
   | (go_at_call_of 38 (Value.slice ar regs.length cr);refine(zbl _ regs _ ?_).mono ?_;(exact HR.out.to (by have:=HS0.out;simp;omega) (zae hb0.drew));rintro e w1 ⟨a1,cc1,rfl,hown1,hb1⟩;have HX11:=Lib.hid (zac hb1 HX1.out (by have:=HS0.out;simp;omega));have c10:w1.cell? ⟨w.heap.size,0,none⟩=some (.slice ar regs.length cr):=zaa HX11.out 0;have c19:w1.cell? ⟨w.heap.size,9,none⟩=some (.slice ao out.length co):=zaa HX11.out 9)
   | (go_at_call_of 38 (Value.slice ao out.length co);refine(zbl _ out _ ?_).mono ?_;(exact HO.out.to (by have:=HS0.out;have:=hb1.size;simp at *;omega) ((zae hb0.drew).trans ((zae hb1).mono (by have:=HS0.out;simp;omega))));rintro e w3 ⟨a3,cc3,rfl,hown3,hb3⟩;have HX13:=Lib.hid (zac hb3 HX11.out (by have:=HS0.out;have:=hb1.size;simp at *;omega));have c30:w3.cell? ⟨w.heap.size,0,none⟩=some (.slice ar regs.length cr):=zaa HX13.out 0;have c38:w3.cell? ⟨w.heap.size,8,none⟩=some (.slice am nm cm):=zaa HX13.out 8;have c39:w3.cell? ⟨w.heap.size,9,none⟩=some (.slice ao out.length co):=zaa HX13.out 9;have f30:=zab HX13.out 0;have f38:=zab HX13.out 8;have f39:=zab HX13.out 9))
  all_goals (go_wp2_with fail;go_meet)
  all_goals exact zgy ⟨regs,pc,back,ints,wait,table,count,fin,mem,out,ready,want⟩ rfl HS0.out hb0 HX2.out HX13.out hown1 hb1 hown3 hb3
 case rest=>
  obtain⟨a1,c1,a3,c3,hx,hy,hown,hb⟩:=hcut
  simp only at *
  have HO:=Lib.hid hown
  have HB:=Lib.hid hb
  have HY:=Lib.hid hy
  first|(obtain⟨q0,q1,q2,q3,q4,q5,q6,q7,q8,q9,q10,q11⟩:=zaz hx)|(obtain⟨q0,q1,q2,q3,q4,q5,q6,q7,q8,q9,q10,q11⟩:=zaA hx)
  first|(obtain⟨r0,r1,r2,r3,r4,r5,r6,r7,r8,r9,r10,r11⟩:=zaz hy)|(obtain⟨r0,r1,r2,r3,r4,r5,r6,r7,r8,r9,r10,r11⟩:=zaA hy)
  have g0:=zab hy 0
  have g1:=zab hy 1
  have g2:=zab hy 2
  have g3:=zab hy 3
  have g4:=zab hy 4
  have g5:=zab hy 5
  have g6:=zab hy 6
  have g7:=zab hy 7
  have g8:=zab hy 8
  have g9:=zab hy 9
  have g10:=zab hy 10
  have g11:=zab hy 11
  have HX:=Lib.hid hx
  clear hx hy hown hb
  go_wp2
  refine bodyPost_ret (v:=.agg #[.slice a1 regs.length c1,.int .i64 pc,.int .i64 back,.bool ints,.bool wait,.int .i64 table,.int .i64 count,.int .i64 fin,.slice none 0 0,.slice a3 out.length c3,.int .i64 ready,.int .i64 want]) (by simp[results,Tryd.results23,go_sem,r0,r1,r2,r3,r4,r5,r6,r7,r8,r9,r10,r11]) rfl ?_
  have hS':=(((((((((((((⟨HO.out,⟨_,HY.out⟩,HB.out⟩:BareInv w ⟨regs,pc,back,ints,wait,table,count,fin,mem,out,ready,want⟩ _ _ wc).step 0 (.slice a1 regs.length c1)).step 1 (.int .i64 pc)).step 2 (.int .i64 back)).step 3 (.bool ints)).step 4 (.bool wait)).step 5 (.int .i64 table)).step 6 (.int .i64 count)).step 7 (.int .i64 fin)).step 8 (.slice none 0 0)).step 9 (.slice a3 out.length c3)).step 10 (.int .i64 ready)).step 11 (.int .i64 want))
  exact⟨a1,c1,a3,c3,rfl,hS'.own,hS'.below⟩
end Go.Proofs.YtflonfcemlfbdaaDoor
namespace Go.Proofs.YtflonfcemlfbdaaDoor
open Go Go.RowKit Go.ChangeShapes Go.WideShapes Go.Deep
set_option linter.unusedVariables false
structure DkO(K:DkC)(m:Mach)(cb gr cr:Nat)(wrote:Int)(v9 v10 v11:Value)(ao:Option Addr)(co:Nat)(ss:List Spc)(ap:Option Addr)(cp:Nat)(rows pts:List Pt)(w:World)(rs:List (List Int))(zs:List Int)(ad ar:Option Addr)(cd cr2:Nat)(vs:List Value):Prop where
 n:DkN K (.pointer (some ⟨cb,0,none⟩)) v9 v10 v11 ss rs zs ad ar cd cr2 vs pts w
 c:CorS K cb gr cr m wrote ao co w
 r:RowP K ap cp rows w
 h1:∀g,CB cb gr ao m.out.length co g→¬HoFP K.pp K.hb rs zs ad ar cd cr2 vs g
 h2:∀p∈pts,∀g,PB p g→¬CB cb gr ao m.out.length co g
def DkOE(K:DkC)(m:Mach)(cb gr cr:Nat)(wrote:Int)(v9 v10 v11:Value)(ao:Option Addr)(co:Nat)(ss:List Spc)(ap:Option Addr)(cp:Nat)(rows pts:List Pt)(w:World):Prop:=∃rs zs ad ar cd cr2 vs,DkO K m cb gr cr wrote v9 v10 v11 ao co ss ap cp rows pts w rs zs ad ar cd cr2 vs
def BoxS(w w':World):Prop:=∀g,(Ty w g 35∨Ty w g 86)→w'.heap[g]?=w.heap[g]?
theorem zfa{pp:PX}{hb N sb:Nat}{sl:List (List Int)}{rs:List (List Int)}{zs:List Int}{ad ar:Option Addr}{cd cr:Nat}{vs:List Value}{w w':World}(h:HoSP pp hb N sl w rs zs ad ar cd cr vs)(hs:Ty w sb 84){D:Nat→Prop}(ho:OutF D w w')(hD:∀g,D g→g=sb∨HoFP pp hb rs zs ad ar cd cr vs g):BoxS w w':=by
 rintro g (hg|hg)
 all_goals (
  obtain⟨cs,fr,hx⟩:=id hg
  refine ho.block g (Array.getElem?_eq_some_iff.1 hx).1 (fun hd=>?_)
  rcases hD g hd with rfl|hd
  ·exact absurd (zaL hg hs) (by decide)
  ·exact zc3 h hg (by decide) (by decide) (by decide) (by decide) hd)
section
variable {K:DkC} {m:Mach} {i:Nat} {cb gr cr sb:Nat} {wrote:Int} {x:Bool} {vl:Value} {ao:Option Addr} {co:Nat} {F:Nat→Prop} {ap:Option Addr} {cp:Nat} {rows pts:List Pt} {w w':World} {v8 v9 v10 v11:Value} {ss:List Spc} {rs:List (List Int)} {zs:List Int} {ad ar:Option Addr} {cd cr2:Nat} {vs:List Value}
theorem DkP.opened(hK:DkK K)(h:DkP K m cb gr cr sb wrote false vl ao co F ap cp pts w):∃pg,DkOE K m cb gr cr wrote (.pointer (some ⟨sb,0,none⟩)) vl (.slice ap pts.length cp) ao co [⟨sb,pg,m.mem⟩] ap cp pts pts w:=by
 obtain⟨rs,zs,ad,ar,cd,cr2,vs,pg,h1,h2,h3,h4,h5⟩:=h.open hK
 exact⟨pg,rs,zs,ad,ar,cd,cr2,vs,h1,h2,h3,h4,h5⟩
theorem DkOE.closed(hK:DkK K){pg:List Int}(h:DkOE K m cb gr cr wrote (.pointer (some ⟨sb,0,none⟩)) vl (.slice ap pts.length cp) ao co [⟨sb,pg,m.mem⟩] ap cp pts pts w)(hl:(pts.length:Int)≤K.kp):∃F,DkP K m cb gr cr sb wrote false vl ao co F ap cp pts w:=by
 obtain⟨rs,zs,ad,ar,cd,cr2,vs,h⟩:=h
 exact⟨_,DkP.close hK h.n h.c h.r h.h1 h.h2 hl⟩
theorem DkOE.below(hK:DkK K)(h:DkOE K m cb gr cr wrote v9 v10 v11 ao co ss ap cp rows pts w)(hb:Below w.heap.size w w'):DkOE K m cb gr cr wrote v9 v10 v11 ao co ss ap cp rows pts w':=by
 obtain⟨rs,zs,ad,ar,cd,cr2,vs,h⟩:=h
 exact⟨rs,zs,ad,ar,cd,cr2,vs,h.n.below hK hb,h.c.stay (fun g hg=>hb.block g (h.c.lt g hg)),h.r.below hb,h.h1,h.h2⟩
theorem DkOE.box(h:DkOE K m cb gr cr wrote v9 v10 v11 ao co ss ap cp rows pts w):w.heap[K.db]?=some (.cells #[.int .i64 K.N,.int .i64 K.ev,.int .i64 K.kp,K.vi,K.vb,.int .i64 K.cnt,.slice K.al K.L.length K.cl,.pointer (some ⟨K.hb,0,none⟩),.pointer (some ⟨cb,0,none⟩),v9,v10,v11] 44 (0,0)):=by
 obtain⟨rs,zs,ad,ar,cd,cr2,vs,h⟩:=h
 exact h.n.box
theorem DkOE.set(hK:DkK K)(h:DkOE K m cb gr cr wrote v9 v10 v11 ao co ss ap cp rows pts w){j:Nat}{u u9 u10 u11:Value}(hb:(#[.int .i64 K.N,.int .i64 K.ev,.int .i64 K.kp,K.vi,K.vb,.int .i64 K.cnt,.slice K.al K.L.length K.cl,.pointer (some ⟨K.hb,0,none⟩),.pointer (some ⟨cb,0,none⟩),v9,v10,v11]:Array Value).setIfInBounds j u=#[.int .i64 K.N,.int .i64 K.ev,.int .i64 K.kp,K.vi,K.vb,.int .i64 K.cnt,.slice K.al K.L.length K.cl,.pointer (some ⟨K.hb,0,none⟩),.pointer (some ⟨cb,0,none⟩),u9,u10,u11]):DkOE K m cb gr cr wrote u9 u10 u11 ao co ss ap cp rows pts (w.setCell ⟨K.db,j,none⟩ u):=by
 obtain⟨rs,zs,ad,ar,cd,cr2,vs,h⟩:=h
 exact⟨rs,zs,ad,ar,cd,cr2,vs,h.n.set hK hb,h.c.set hK j u,h.r.set (h.n.box_ne hK) j u,h.h1,h.h2⟩
theorem DkOE.rowed(hK:DkK K)(h:DkOE K m cb gr cr wrote v9 v10 v11 ao co ss ap cp rows pts w){D:Nat→Prop}(ho:OutF D w w')(hD:∀g,D g→(Value.slice ap rows.length cp).ownBlock=some g){ap':Option Addr}{cp':Nat}{rows':List Pt}(hr:RowP K ap' cp' rows' w'):DkOE K m cb gr cr wrote v9 v10 v11 ao co ss ap' cp' rows' pts w':=by
 obtain⟨rs,zs,ad,ar,cd,cr2,vs,h⟩:=h
 exact⟨rs,zs,ad,ar,cd,cr2,vs,h.n.rowmoved hK ho (fun g hg=>h.r.ty g (hD g hg)),h.c.rowmoved ho (fun g hg=>(h.r.ty g (hD g hg)).1),hr,h.h1,h.h2⟩
theorem DkOE.drop0(hK:DkK K){s:Spc}{p:Pt}(h:DkOE K m cb gr cr wrote v9 v10 v11 ao co [s] ap cp (p::pts) (p::pts) w):Calls Tryd.prog 32 #[.pointer (some ⟨p.sb,0,none⟩)] w fun e w'=>e=.returned (.tuple #[])∧BoxS w w'∧DkOE K m cb gr cr wrote v9 v10 v11 ao co [s] ap cp (p::pts) pts w':=by
 obtain⟨rs,zs,ad,ar,cd,cr2,vs,h⟩:=h
 have hst:Ty w p.sb 84:=⟨_,_,(h.n.pt p (List.mem_cons_self ..)).sp⟩
 have hplo:=(h.n.pt p (List.mem_cons_self ..)).spb
 refine(h.n.drop0 hK).mono ?_
 rintro e w' ⟨he,rs',zs',ad',ar',cd',cr',vs',h2,h3,h4⟩
 refine⟨he,zfa h.n.hs.hos hst h3 (fun g hg=>hg),rs',zs',ad',ar',cd',cr',vs',h2,h.c.hmoved h3 (fun g hg hd=>?_),h.r.hmoved h3 (fun g hg hd=>?_),fun g hg hf=>?_,fun q hq=>h.h2 q (List.mem_cons_of_mem _ hq)⟩
 ·
  rcases hd with rfl|hd
  ·exact h.c.not_sp hst (by decide) (by decide) hg
  ·exact h.h1 g hg hd
 ·
  rcases hd with rfl|hd
  ·exact absurd (zaL hg hst) (by decide)
  ·exact zc3 h.n.hs.hos hg (by decide) (by decide) (by decide) (by decide) hd
 ·
  rcases h4 g hf with q|q
  ·exact h.h1 g hg q
  ·have:=h.c.lt g hg;omega
theorem DkOE.fork0(hK:DkK K){s t:Spc}(h:DkOE K m cb gr cr wrote v9 v10 v11 ao co [s] ap cp rows pts w)(ht:t∈[s]++pts.map Pt.spc)(hl:pts.length≤10):Calls Tryd.prog 35 #[.pointer (some ⟨t.sb,0,none⟩)] w fun e w' =>∃nb,e=.returned (.tuple #[.pointer (some ⟨nb,0,none⟩),.int .i64 0])∧w.heap.size≤nb∧BoxS w w'∧DkOE K m cb gr cr wrote v9 v10 v11 ao co [⟨nb,t.pg,t.mem⟩,s] ap cp rows pts w':=by
 obtain⟨rs,zs,ad,ar,cd,cr2,vs,h⟩:=h
 refine(h.n.fork0 hK ht hl).mono ?_
 rintro e w' ⟨nb,he,hn,zs',ad',ar',cd',cr',vs',h2,h3,h4⟩
 refine⟨nb,he,hn,zfa h.n.hs.hos (⟨_,_,h.n.hs.spc s (List.mem_append_left _ (List.mem_singleton.2 rfl))⟩:Ty w s.sb 84) h3 (fun g hg=>Or.inr hg),rs,zs',ad',ar',cd',cr',vs',h2,h.c.hmoved h3 (fun g hg hd=>h.h1 g hg hd),h.r.hmoved h3 (fun g hg hd=>zc3 h.n.hs.hos hg (by decide) (by decide) (by decide) (by decide) hd),fun g hg hf=>?_,h.h2⟩
 rcases h4 g hf with q|q
 ·exact h.h1 g hg q
 ·have:=h.c.lt g hg;omega
theorem DkOE.kept(hK:DkK K){p:Pt}{t:Spc}(h:DkOE K m cb gr cr wrote v9 v10 v11 ao co [p.spc,t] ap cp rows pts w)(hb:Below w.heap.size w w')(hreg:w'.ownsRow w.heap.size 3 1 (.slice (some ⟨p.gr,0,none⟩) 8 p.cr) 8 (p.m.regs.map (Value.int .i64)))(hout:w'.ownsRow w.heap.size 3 1 (.slice p.ao p.m.out.length p.co) p.m.out.length (p.m.out.map (Value.int .i64)))(hevs:EvsR K.E K.wE (.slice p.al p.nl p.cl) p.L)(hst:Stands K.L p.m p.i p.L)(hrun:Runs K.L (zas K.img) p.m p.i)(hfin:p.m.fin=0)(hle:(p.i:Int)≤K.cnt):DkOE K m cb gr cr wrote v9 v10 v11 ao co [t] ap cp rows (pts++[p]) w':=by
 obtain⟨rs,zs,ad,ar,cd,cr2,vs,h⟩:=h
 have hlo:=(h.n.dlo hK).2
 have hn:=h.n.below hK hb
 have hsp:SpcS p.sb K.hb p.pg 0 w:=h.n.hs.spc p.spc (List.mem_cons_self ..)
 have hsp':SpcS p.sb K.hb p.pg 0 w':=hn.hs.spc p.spc (List.mem_cons_self ..)
 have hty:Ty w p.sb 84:=⟨_,_,hsp⟩
 have hfresh:∀g,(g=p.gr∨(Value.slice p.ao p.m.out.length p.co).ownBlock=some g)→w.heap.size≤g:=by
  rintro g (rfl|hg)
  ·exact(hreg.lt _ rfl).1
  ·exact(hout.lt g hg).1
 have hperm:([p.spc,t]++pts.map Pt.spc).Perm ([t]++(pts++[p]).map Pt.spc):=by
  rw[List.map_append]
  exact(List.Perm.swap _ _ _).trans ((List.perm_append_singleton _ _).symm.cons _)
 refine⟨rs,zs,ad,ar,cd,cr2,vs,⟨hn.box,hn.hs.perm hperm,fun q hq=>?_,fun q hq g hg hf=>?_,hn.out⟩,h.c.stay (fun g hg=>hb.block g (h.c.lt g hg)),h.r.below hb,h.h1,fun q hq g hg hc=>?_⟩
 ·
  rcases List.mem_append.1 hq with hq|hq
  ·exact hn.pt q hq
  ·
   rw[List.mem_singleton.1 hq]
   exact⟨zar hreg hlo,zar hout hlo,hsp',h.n.hs.slo p.spc (List.mem_cons_self ..),hevs,hst,hrun,hfin,hle⟩
 ·
  rcases List.mem_append.1 hq with hq|hq
  ·exact h.n.sep q hq g hg hf
  ·
   rw[List.mem_singleton.1 hq] at hg
   rcases hg with rfl|hg
   ·exact zhQ h.n.hs.hos hsp hf
   ·have:=hfresh g hg;have:=h.n.hs.hos.lt g hf;omega
 ·
  rcases List.mem_append.1 hq with hq|hq
  ·exact h.h2 q hq g hg hc
  ·
   rw[List.mem_singleton.1 hq] at hg
   rcases hg with rfl|hg
   ·exact h.c.not_sp hty (by decide) (by decide) hc
   ·have:=hfresh g hg;have:=h.c.lt g hc;omega
theorem zcn(hK:DkK K){al:Option Addr}{nl cl:Nat}{LL:List Ev}{nb sb g2 cr2 g8 cp8:Nat}{pg:List Int}{ao2:Option Addr}{co2:Nat}{w7 w8:World}(h6:DkOE K m cb gr cr wrote (.pointer (some ⟨sb,0,none⟩)) (.slice al nl cl) (.slice ap pts.length cp) ao co [⟨nb,pg,m.mem⟩,⟨sb,pg,m.mem⟩] ap cp pts pts w)(hb:Below w.drew.heap.size w.drew w7)(hreg:w7.ownsRow w.drew.heap.size 3 1 (.slice (some ⟨g2,0,none⟩) 8 cr2) 8 (m.regs.map (Value.int .i64)))(hout:w7.ownsRow w.drew.heap.size 3 1 (.slice ao2 m.out.length co2) m.out.length (m.out.map (Value.int .i64)))(hR:w8.ownsRow K.w1.heap.size 86 14 (.slice (some ⟨g8,0,none⟩) (pts.length+1) cp8) (pts.length+1) (pts.flatMap Pt.cells++Pt.cells ⟨m,i,LL,nb,pg,g2,cr2,ao2,co2,al,nl,cl⟩))(hG:w7.grownBy w8 (Value.slice ap pts.length cp).ownBlock)(hevs:EvsR K.E K.wE (.slice al nl cl) LL)(hst:Stands K.L m i LL)(hrun:Runs K.L (zas K.img) m i)(hfin:m.fin=0)(hle:(i:Int)≤K.cnt)(hl:(pts.length:Int)+1≤K.kp):∃F' ap' cp' pts',DkP K m cb gr cr sb wrote false (.slice al nl cl) ao co F' ap' cp' pts' (w8.setCell ⟨K.db,11,none⟩ (.slice (some ⟨g8,0,none⟩) (pts.length+1) cp8)):=by
 have h7:=(h6.below hK (below_drewN (Below.refl w.heap.size w) 1)).kept hK (p:=⟨m,i,LL,nb,pg,g2,cr2,ao2,co2,al,nl,cl⟩) (t:=⟨sb,pg,m.mem⟩) hb hreg hout hevs hst hrun hfin hle
 have hlen:(pts++[(⟨m,i,LL,nb,pg,g2,cr2,ao2,co2,al,nl,cl⟩:Pt)]).length=pts.length+1:=by rw[List.length_append];rfl
 have hRP:RowP K (some ⟨g8,0,none⟩) cp8 (pts++[(⟨m,i,LL,nb,pg,g2,cr2,ao2,co2,al,nl,cl⟩:Pt)]) w8:=by
  unfold RowP
  rw[hlen,List.flatMap_append,List.flatMap_singleton]
  exact hR
 have h8:=h7.rowed hK ((OutF.refl (fun g=>(Value.slice ap pts.length cp).ownBlock=some g) w7).grown hG (fun k hk=>Or.inl hk)) (fun g hg=>hg) hRP
 have h9:=h8.set hK (j:=11) (u:=.slice (some ⟨g8,0,none⟩) (pts.length+1) cp8) (u9:=.pointer (some ⟨sb,0,none⟩)) (u10:=.slice al nl cl) (u11:=.slice (some ⟨g8,0,none⟩) (pts.length+1) cp8) rfl
 rw[←hlen] at h9
 obtain⟨F',h10⟩:=h9.closed hK (by rw[hlen];push_cast;exact hl)
 rw[hlen] at h10
 exact⟨F',_,_,_,h10⟩
end
def BegS(K:DkC)(v8 v9 v10:Value)(ss:List Spc)(ap:Option Addr)(cp:Nat)(pts:List Pt)(L:Nat)(w:World):Prop:=∃rs zs ad ar cd cr2 vs,DkN K v8 v9 v10 (.slice ap pts.length cp) ss rs zs ad ar cd cr2 vs pts w∧RowP K ap cp pts w∧(∀g,HoFP K.pp K.hb rs zs ad ar cd cr2 vs g→g<L)∧(∀p∈pts,∀g,PB p g→g<L)∧L≤w.heap.size
section
variable {K:DkC} {m:Mach} {i:Nat} {cb gr cr sb:Nat} {wrote:Int} {x:Bool} {vl:Value} {ao:Option Addr} {co:Nat} {F:Nat→Prop} {ap:Option Addr} {cp L:Nat} {rows pts:List Pt} {w w':World} {v8 v9 v10 v11:Value} {ss:List Spc}
theorem BegS.below(hK:DkK K)(h:BegS K v8 v9 v10 ss ap cp pts L w)(hb:Below w.heap.size w w'):BegS K v8 v9 v10 ss ap cp pts L w':=by
 obtain⟨rs,zs,ad,ar,cd,cr2,vs,h,hr,h1,h2,h3⟩:=h
 exact⟨rs,zs,ad,ar,cd,cr2,vs,h.below hK hb,hr.below hb,h1,h2,Nat.le_trans h3 hb.size⟩
theorem BegS.lift(h:BegS K v8 v9 v10 ss ap cp pts L w):BegS K v8 v9 v10 ss ap cp pts w.heap.size w:=by
 obtain⟨rs,zs,ad,ar,cd,cr2,vs,h,hr,h1,h2,h3⟩:=h
 exact⟨rs,zs,ad,ar,cd,cr2,vs,h,hr,fun g hg=>by have:=h1 g hg;omega,fun p hp g hg=>by have:=h2 p hp g hg;omega,Nat.le_refl _⟩
theorem BegS.box(h:BegS K v8 v9 v10 ss ap cp pts L w):w.heap[K.db]?=some (.cells #[.int .i64 K.N,.int .i64 K.ev,.int .i64 K.kp,K.vi,K.vb,.int .i64 K.cnt,.slice K.al K.L.length K.cl,.pointer (some ⟨K.hb,0,none⟩),v8,v9,v10,.slice ap pts.length cp] 44 (0,0)):=by
 obtain⟨rs,zs,ad,ar,cd,cr2,vs,h,hr⟩:=h
 exact h.box
theorem BegS.out(h:BegS K v8 v9 v10 ss ap cp pts L w):OutF (fun g=>g=K.db) K.w1 w:=by
 obtain⟨rs,zs,ad,ar,cd,cr2,vs,h,hr⟩:=h
 exact h.out
theorem BegS.set(hK:DkK K)(h:BegS K v8 v9 v10 ss ap cp pts L w){j:Nat}{u u8 u9 u10:Value}(hb:(#[.int .i64 K.N,.int .i64 K.ev,.int .i64 K.kp,K.vi,K.vb,.int .i64 K.cnt,.slice K.al K.L.length K.cl,.pointer (some ⟨K.hb,0,none⟩),v8,v9,v10,.slice ap pts.length cp]:Array Value).setIfInBounds j u=#[.int .i64 K.N,.int .i64 K.ev,.int .i64 K.kp,K.vi,K.vb,.int .i64 K.cnt,.slice K.al K.L.length K.cl,.pointer (some ⟨K.hb,0,none⟩),u8,u9,u10,.slice ap pts.length cp]):BegS K u8 u9 u10 ss ap cp pts L (w.setCell ⟨K.db,j,none⟩ u):=by
 obtain⟨rs,zs,ad,ar,cd,cr2,vs,h,hr,h1,h2,h3⟩:=h
 exact⟨rs,zs,ad,ar,cd,cr2,vs,h.set hK hb,hr.set (h.box_ne hK) j u,h1,h2,by simp[World.setCell];exact h3⟩
theorem DkOE.begs(h:DkOE K m cb gr cr wrote v9 v10 (.slice ap pts.length cp) ao co ss ap cp pts pts w):BegS K (.pointer (some ⟨cb,0,none⟩)) v9 v10 ss ap cp pts w.heap.size w:=by
 obtain⟨rs,zs,ad,ar,cd,cr2,vs,h⟩:=h
 exact⟨rs,zs,ad,ar,cd,cr2,vs,h.n,h.r,h.n.hs.hos.lt,fun p hp g hg=>((h.n.pt p hp).lt g hg).2,Nat.le_refl _⟩
theorem BegS.drop1(hK:DkK K){t:Spc}(h:BegS K v8 v9 v10 (ss++[t]) ap cp pts L w):Calls Tryd.prog 32 #[.pointer (some ⟨t.sb,0,none⟩)] w fun e w'=>e=.returned (.tuple #[])∧BoxS w w'∧BegS K v8 v9 v10 ss ap cp pts w'.heap.size w':=by
 obtain⟨rs,zs,ad,ar,cd,cr2,vs,h1,hr,_,_,_⟩:=h
 have hperm:((ss++[t])++pts.map Pt.spc).Perm (t::(ss++pts.map Pt.spc)):=by
  rw[List.append_assoc]
  exact List.perm_middle
 have hh:=h1.hs.perm hperm
 have hty:Ty w t.sb 84:=⟨_,_,hh.spc t (List.mem_cons_self ..)⟩
 have hnd:=hh.nd
 refine(HSt.drop (s:=t) (rest:=ss++pts.map Pt.spc) hh (h1.dlo hK).2).mono ?_
 rintro e w' ⟨he,rs',zs',ad',ar',cd',cr',vs',k2,k3,k4⟩
 have hn:DkN K v8 v9 v10 (.slice ap pts.length cp) ss rs' zs' ad' ar' cd' cr' vs' pts w':=by
  refine h1.moved hK (fun p hp=>hp) k2 k3 ?_ ?_ k4
  ·
   rintro g (rfl|hg)
   ·exact hh.slo t (List.mem_cons_self ..)
   ·exact h1.hs.hof g hg
  ·
   rintro p hp g hg (rfl|hd)
   ·
    rcases hg with q2|q2|q2
    ·
     rw[List.map_cons,List.nodup_cons] at hnd
     exact hnd.1 (List.mem_map.2 ⟨p.spc,List.mem_append_right _ (List.mem_map_of_mem hp),q2.symm⟩)
    ·exact absurd (zaL hty (by rw[q2];exact zaD (h1.pt p hp).regs rfl)) (by decide)
    ·exact absurd (zaL hty (zaD (h1.pt p hp).out q2)) (by decide)
   ·exact h1.sep p hp g hg hd
 refine⟨he,zfa h1.hs.hos hty k3 (fun g hg=>hg),rs',zs',ad',ar',cd',cr',vs',hn,hr.hmoved k3 (fun g hg hd=>?_),hn.hs.hos.lt,fun p hp g hg=>((hn.pt p hp).lt g hg).2,Nat.le_refl _⟩
 rcases hd with rfl|hd
 ·exact absurd (zaL hg hty) (by decide)
 ·exact zc3 h1.hs.hos hg (by decide) (by decide) (by decide) (by decide) hd
theorem DkP.dropped(hK:DkK K)(h:DkP K m cb gr cr sb wrote false vl ao co F ap cp pts w):Calls Tryd.prog 32 #[.pointer (some ⟨sb,0,none⟩)] w fun e w'=>e=.returned (.tuple #[])∧BegS K (.pointer (some ⟨cb,0,none⟩)) (.pointer (some ⟨sb,0,none⟩)) vl [] ap cp pts w'.heap.size w':=by
 obtain⟨pg,ho⟩:=h.opened hK
 exact(BegS.drop1 (ss:=[]) (t:=⟨sb,pg,m.mem⟩) hK ho.begs).mono (fun e w' h=>⟨h.1,h.2.2⟩)
theorem BegS.new(hK:DkK K)(h:BegS K v8 v9 v10 [] ap cp pts L w):Calls Tryd.prog 33 #[.pointer (some ⟨K.hb,0,none⟩)] w fun e w' =>∃nb,e=.returned (.pointer (some ⟨nb,0,none⟩))∧w.heap.size≤nb∧Below w.heap.size w w'∧BegS K v8 v9 v10 [⟨nb,List.replicate 16 (-1),List.replicate 256 0⟩] ap cp pts L w':=by
 obtain⟨rs,zs,ad,ar,cd,cr2,vs,h,hr,h1,h2,h3⟩:=h
 refine(h.hs.new (h.dlo hK).2).mono ?_
 rintro e w' ⟨nb,he,hn,hb,hs⟩
 have h':=h.below hK hb
 exact⟨nb,he,hn,hb,rs,zs,ad,ar,cd,cr2,vs,⟨h'.box,hs,h'.pt,h'.sep,h'.out⟩,hr.below hb,h1,h2,Nat.le_trans h3 hb.size⟩
theorem BegS.core(hK:DkK K){pg:List Int}(h:BegS K (.pointer (some ⟨cb,0,none⟩)) (.pointer (some ⟨sb,0,none⟩)) vl [⟨sb,pg,m.mem⟩] ap cp pts L w)(hlo:K.w1.heap.size≤L)(hbox:w.heap[cb]?=some (.cells #[.slice (some ⟨gr,0,none⟩) 8 cr,.int .i64 m.pc,.int .i64 m.back,.bool m.ints,.bool m.wait,.int .i64 m.table,.int .i64 m.count,.int .i64 m.fin,.slice none 0 0,.slice ao m.out.length co,.int .i64 m.ready,.int .i64 m.want,.int .i64 wrote] 67 (0,0)))(hreg:w.ownsRow L 3 1 (.slice (some ⟨gr,0,none⟩) 8 cr) 8 (m.regs.map (Value.int .i64)))(hout:w.ownsRow L 3 1 (.slice ao m.out.length co) m.out.length (m.out.map (Value.int .i64)))(hro:(Value.slice ao m.out.length co).ownBlock≠some gr)(hcl:L≤cb)(hl:(pts.length:Int)≤K.kp):∃F,DkP K m cb gr cr sb wrote false vl ao co F ap cp pts w:=by
 obtain⟨rs,zs,ad,ar,cd,cr2,vs,h,hr,h1,h2,h3⟩:=h
 have hC:∀g,CB cb gr ao m.out.length co g→L≤g:=by
  rintro g (rfl|rfl|hg)
  ·exact hcl
  ·exact(hreg.lt _ rfl).1
  ·exact(hout.lt g hg).1
 exact⟨_,DkP.close hK h ⟨hbox,zar hreg (Nat.zero_le _),zar hout (Nat.zero_le _),hro,fun g hg=>by have:=hC g hg;omega⟩ hr (fun g hg hf=>by have:=hC g hg;have:=h1 g hf;omega) (fun p hp g hg hc=>by have:=hC g hc;have:=h2 p hp g hg;omega) hl⟩
theorem zer(hK:DkK K){nb:Nat}{pg:List Int}{u8 u9 u10:Value}(h:BegS K u8 u9 u10 [⟨nb,pg,m.mem⟩] ap cp pts L w)(hlo:K.w1.heap.size≤L)(hbox:w.heap[cb]?=some (.cells #[.slice (some ⟨gr,0,none⟩) 8 cr,.int .i64 m.pc,.int .i64 m.back,.bool m.ints,.bool m.wait,.int .i64 m.table,.int .i64 m.count,.int .i64 m.fin,.slice none 0 0,.slice ao m.out.length co,.int .i64 m.ready,.int .i64 m.want,.int .i64 wrote] 67 (0,0)))(hreg:w.ownsRow L 3 1 (.slice (some ⟨gr,0,none⟩) 8 cr) 8 (m.regs.map (Value.int .i64)))(hout:w.ownsRow L 3 1 (.slice ao m.out.length co) m.out.length (m.out.map (Value.int .i64)))(hro:(Value.slice ao m.out.length co).ownBlock≠some gr)(hcl:L≤cb)(hl:(pts.length:Int)≤K.kp):∃F,DkP K m cb gr cr nb wrote false vl ao co F ap cp pts (((w.setCell ⟨K.db,8,none⟩ (.pointer (some ⟨cb,0,none⟩))).setCell ⟨K.db,9,none⟩ (.pointer (some ⟨nb,0,none⟩))).setCell ⟨K.db,10,none⟩ vl):=by
 have hbt:Ty w K.db 44:=⟨_,_,h.box⟩
 have h1:=((h.set hK (j:=8) (u:=.pointer (some ⟨cb,0,none⟩)) (u8:=.pointer (some ⟨cb,0,none⟩)) (u9:=u9) (u10:=u10) rfl).set hK (j:=9) (u:=.pointer (some ⟨nb,0,none⟩)) (u8:=.pointer (some ⟨cb,0,none⟩)) (u9:=.pointer (some ⟨nb,0,none⟩)) (u10:=u10) rfl).set hK (j:=10) (u:=vl) (u8:=.pointer (some ⟨cb,0,none⟩)) (u9:=.pointer (some ⟨nb,0,none⟩)) (u10:=vl) rfl
 have hne:cb≠K.db:=fun e=>absurd (zaL hbt (by rw[←e];exact⟨_,_,hbox⟩)) (by decide)
 have hown:∀{v:Value} {n:Nat} {xs:List Value},w.ownsRow L 3 1 v n xs→(((w.setCell ⟨K.db,8,none⟩ (.pointer (some ⟨cb,0,none⟩))).setCell ⟨K.db,9,none⟩ (.pointer (some ⟨nb,0,none⟩))).setCell ⟨K.db,10,none⟩ vl).ownsRow L 3 1 v n xs:=fun h'=>by
  have hn:some K.db≠_:=zad h' h.box (by decide)
  exact zao (zao (zao h' hn _) hn _) hn _
 exact h1.core hK hlo (zah (zah (zah hbox hne _) hne _) hne _) (hown hreg) (hown hout) hro hcl hl
theorem zco(hK:DkK K){nb:Nat}{pg:List Int}{u8 u9 u10:Value}(h:BegS K u8 u9 u10 [⟨nb,pg,m.mem⟩] ap cp pts L w)(hlo:K.w1.heap.size≤L)(hreg:w.ownsRow L 3 1 (.slice (some ⟨gr,0,none⟩) 8 cr) 8 (m.regs.map (Value.int .i64)))(hout:w.ownsRow L 3 1 (.slice ao m.out.length co) m.out.length (m.out.map (Value.int .i64)))(hro:(Value.slice ao m.out.length co).ownBlock≠some gr)(hcl:L≤w.heap.size)(hl:(pts.length:Int)≤K.kp):∃F,DkP K m w.heap.size gr cr nb wrote false vl ao co F ap cp pts ((((w.setCell ⟨K.db,8,none⟩ (.pointer (some ⟨w.heap.size,0,none⟩))).setCell ⟨K.db,9,none⟩ (.pointer (some ⟨nb,0,none⟩))).setCell ⟨K.db,10,none⟩ vl).alloc (.cells #[.slice (some ⟨gr,0,none⟩) 8 cr,.int .i64 m.pc,.int .i64 m.back,.bool m.ints,.bool m.wait,.int .i64 m.table,.int .i64 m.count,.int .i64 m.fin,.slice none 0 0,.slice ao m.out.length co,.int .i64 m.ready,.int .i64 m.want,.int .i64 wrote] 67 (0,0))):=by
 have h1:=((h.set hK (j:=8) (u:=.pointer (some ⟨w.heap.size,0,none⟩)) (u8:=.pointer (some ⟨w.heap.size,0,none⟩)) (u9:=u9) (u10:=u10) rfl).set hK (j:=9) (u:=.pointer (some ⟨nb,0,none⟩)) (u8:=.pointer (some ⟨w.heap.size,0,none⟩)) (u9:=.pointer (some ⟨nb,0,none⟩)) (u10:=u10) rfl).set hK (j:=10) (u:=vl) (u8:=.pointer (some ⟨w.heap.size,0,none⟩)) (u9:=.pointer (some ⟨nb,0,none⟩)) (u10:=vl) rfl
 have hs:(((w.setCell ⟨K.db,8,none⟩ (.pointer (some ⟨w.heap.size,0,none⟩))).setCell ⟨K.db,9,none⟩ (.pointer (some ⟨nb,0,none⟩))).setCell ⟨K.db,10,none⟩ vl).heap.size=w.heap.size:=by simp[World.setCell]
 have hown:∀{v:Value} {n:Nat} {xs:List Value},w.ownsRow L 3 1 v n xs→(((w.setCell ⟨K.db,8,none⟩ (.pointer (some ⟨w.heap.size,0,none⟩))).setCell ⟨K.db,9,none⟩ (.pointer (some ⟨nb,0,none⟩))).setCell ⟨K.db,10,none⟩ vl).ownsRow L 3 1 v n xs:=fun h'=>by
  have hn:some K.db≠_:=zad h' h.box (by decide)
  exact zao (zao (zao h' hn _) hn _) hn _
 generalize (((w.setCell ⟨K.db,8,none⟩ (.pointer (some ⟨w.heap.size,0,none⟩))).setCell ⟨K.db,9,none⟩ (.pointer (some ⟨nb,0,none⟩))).setCell ⟨K.db,10,none⟩ vl)=W at *
 have hb:=zai W (.cells #[.slice (some ⟨gr,0,none⟩) 8 cr,.int .i64 m.pc,.int .i64 m.back,.bool m.ints,.bool m.wait,.int .i64 m.table,.int .i64 m.count,.int .i64 m.fin,.slice none 0 0,.slice ao m.out.length co,.int .i64 m.ready,.int .i64 m.want,.int .i64 wrote] 67 (0,0))
 have h2:=h1.below hK hb
 rw[←hs] at h2 hcl ⊢
 exact h2.core hK hlo (alloc_at rfl) (own_below (hown hreg) hb (Nat.le_refl _)) (own_below (hown hout) hb (Nat.le_refl _)) hro hcl hl
theorem zhT{img:List Int}(j:Nat)(hj:j<img.length)(hl:img.length≤256):(img.take j++List.replicate (256-j) 0).set j img[j]=img.take (j+1)++List.replicate (256-(j+1)) 0:=by
 obtain⟨r,hr⟩:∃r,256-j=r+1:=⟨255-j,by omega⟩
 rw[show 256-(j+1)=r by omega,hr,List.replicate_succ,List.set_append_right _ _ (by rw[List.length_take];omega)]
 rw[show j-(img.take j).length=0 by rw[List.length_take];omega,List.set_cons_zero,List.take_succ_eq_append_getElem hj,List.append_assoc]
 rfl
theorem zfQ{img:List Int}(j:Nat)(hj:j<img.length)(hl:img.length≤256)(h0:img[j]=0):img.take (j+1)++List.replicate (256-(j+1)) 0=img.take j++List.replicate (256-j) 0:=by
 obtain⟨r,hr⟩:∃r,256-j=r+1:=⟨255-j,by omega⟩
 rw[show 256-(j+1)=r by omega,hr,List.replicate_succ,List.take_succ_eq_append_getElem hj,h0,List.append_assoc]
 rfl
end
end Go.Proofs.YtflonfcemlfbdaaDoor
