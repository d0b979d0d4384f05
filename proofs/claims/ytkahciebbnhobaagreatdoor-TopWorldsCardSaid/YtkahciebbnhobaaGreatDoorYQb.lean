/- Several texts joined, each with its own heading in the notes: A recorder's state. The core's calls beside a recorder; the events ahead are applied. No condition beyond those of each row. -/
import Derived.Test.YtkahciebbnhobaaGreatDoorYPr
import Derived.Handy
import Derived.StillTailTactics
import Derived.Deep.RegionWith
import Derived.Deep.RegionLaw
import Derived.Deep.CutBlock
import Derived.Deep.CutRange
import Derived.Deep.RegionHeld3
import Derived.Deep.LoopGhost
namespace Go.Proofs.YtkahciebbnhobaaGreatDoor
open Go Go.RowKit Go.ChangeShapes Go.WideShapes Go.Deep
set_option maxHeartbeats 8000000
set_option maxRecDepth 100000
set_option linter.unusedVariables false
attribute [local go_sem ↓] Go.wp_at_zero Go.wp_at_succ
def RcS (w0:World) (E cb ob gr cr mb cm:Nat) (is vs:List Int) (bs:List (List Int)) (ds:List Int) (due:Int) (b:List Int) (ps:List (Ev × Value)) (aa:Option Addr) (ca:Nat) (ak:Option Addr) (nk ck:Nat) (m:Mach) (C:Nat→Prop) (w:World):Prop:=
 ∃ wro ao co F,C=Dn cb gr ao m.out.length co F∧GSt (FlatSt mb cm) w0 (fun _=>False) cb gr cr (.slice (some ⟨mb,0,none⟩) 256 cm) m wro false ao co F w∧Rq w0 E ob is vs bs ds due b ps aa ca ak nk ck w∧Kp C ob ps aa ca (.slice ak nk ck)∧MOk m∧E≤w0.heap.size∧w0.heap.size≤ob
structure LsS (E:Nat) (ls:List (Ev × Value)) (la:Option Addr) (lc:Nat) (C:Nat→Prop) (w:World):Prop where
 out:OutSt E ls la lc w
 row:∀ q,(Value.slice la ls.length lc).ownBlock=some q→¬ C q
 dat:∀ p∈ls,∀ q,p.2.ownBlock=some q→¬ C q
theorem LsS.ran {E:Nat} {ls:List (Ev × Value)} {la:Option Addr} {lc:Nat} {C C':Nat→Prop} {w w':World} (h:LsS E ls la lc C w) (ho:OutF C w w') (hc:∀ q,C' q→C q∨w.heap.size≤q):LsS E ls la lc C' w':=
 ⟨h.out.outF ho h.row h.dat,fun q hq c=>(hc q c).elim (h.row q hq) (fun r=>by have:=(h.out.row.lt q hq).2;omega),fun p hp q hq c=>(hc q c).elim (h.dat p hp q hq) (fun r=>by have:=((h.out.data p hp).1.lt q hq).2;omega)⟩
section
variable {w0 w:World} {E cb ob gr cr mb cm:Nat} {is vs:List Int} {bs:List (List Int)} {ds:List Int} {due:Int} {b:List Int} {ps:List (Ev × Value)} {aa:Option Addr} {ca:Nat} {ak:Option Addr} {nk ck:Nat} {m:Mach} {C:Nat→Prop}
theorem gst_low {w0 w:World} {E cb gr cr mb cm:Nat} {vm:Value} {m:Mach} {wro:Int} {ao:Option Addr} {co:Nat} {F:Nat→Prop} (h:GSt (FlatSt mb cm) w0 (fun _=>False) cb gr cr vm m wro false ao co F w) (hE:E≤w0.heap.size):∀ q,q < E→¬ Dn cb gr ao m.out.length co F q:=by
 intro q hq hd
 rcases h.dn q hd with r | r
 · exact r
 · omega
theorem RcS.core (h:RcS w0 E cb ob gr cr mb cm is vs bs ds due b ps aa ca ak nk ck m C w) {m':Mach} {wr':Int} {w':World} (k:GS (FlatSt mb cm) w C cb gr cr (.slice (some ⟨mb,0,none⟩) 256 cm) m' wr' false w') (hm:MOk m'):∃ C',RcS w0 E cb ob gr cr mb cm is vs bs ds due b ps aa ca ak nk ck m' C' w'∧OutF C w w'∧∀ q,C' q→C q∨w.heap.size≤q:=by
 obtain⟨wro,ao,co,F,rfl,hg,hq,hk,_,hE,hob⟩:=h
 obtain⟨ao',co',F',k⟩:=k
 have hb:=hg.back k
 have hc:∀ q,Dn cb gr ao' m'.out.length co' F' q→Dn cb gr ao m.out.length co F q∨w.heap.size≤q:=k.dn
 exact⟨_,⟨wr',ao',co',F',rfl,hb,hq.ran hk k.old (gst_low hg hE),hk.ran hq hc,hm,hE,hob⟩,k.old,hc⟩
theorem RcS.below (h:RcS w0 E cb ob gr cr mb cm is vs bs ds due b ps aa ca ak nk ck m C w) {w':World} (hb:Below w.heap.size w w'):RcS w0 E cb ob gr cr mb cm is vs bs ds due b ps aa ca ak nk ck m C w':=by
 obtain⟨wro,ao,co,F,rfl,hg,hq,hk,hm,hE,hob⟩:=h
 exact⟨wro,ao,co,F,rfl,hg.below (rflat_is mb cm) hb,hq.below hb,hk,hm,hE,hob⟩
theorem RcS.ok (h:RcS w0 E cb ob gr cr mb cm is vs bs ds due b ps aa ca ak nk ck m C w):MOk m:=by
 obtain⟨wro,ao,co,F,rfl,hg,hq,hk,hm,hE,hob⟩:=h
 exact hm
theorem RcS.world (h:RcS w0 E cb ob gr cr mb cm is vs bs ds due b ps aa ca ak nk ck m C w) {w':World} (hg:w.grownBy w' (some ob)) {vs':List Int} {bs':List (List Int)} {ds':List Int} {due':Int} {b':List Int} {ak':Option Addr} {nk' ck':Nat} (hw:WB w0 E ob is vs' bs' ds' (.slice ak' nk' ck') due' w') (hb:0≤due'→nk'=16∧w'.ownsRow E 3 1 (.slice ak' nk' ck') 16 (b'.map (Value.int .i64))) (hn:(ak'=ak∧nk'=nk∧ck'=ck)∨(∀ q,(Value.slice ak' nk' ck').ownBlock=some q→w.heap.size≤q∧q < w'.heap.size)):RcS w0 E cb ob gr cr mb cm is vs' bs' ds' due' b' ps aa ca ak' nk' ck' m C w':=by
 obtain⟨wro,ao,co,F,rfl,hgs,hq,hk,hm,hE,hob⟩:=h
 have hlt:∀ q,Dn cb gr ao m.out.length co F q→q < w.heap.size:=by
  rintro q (rfl | rfl | hF | ho)
  · exact hgs.clt
  · exact hgs.rlt
  · exact (rflat_is mb cm).lt _ _ _ _ hgs.mem q hF
  · exact (hgs.out.lt q ho).2
 have hneb:∀ (v:Value) (t:TypeId) (s n:Nat) (xs:List Value) (B:Nat),w.ownsRow B t s v n xs→t≠70→some ob≠v.ownBlock:=by
  intro v t s n xs B ho ht
  obtain⟨a0,a1,a2,a3,c0,c1,c2,c3,hx,_⟩:=hq.wb.box
  exact own_ne_block ho hx ht
 refine⟨wro,ao,co,F,rfl,hgs.aside (rflat_is mb cm) hg (fun q e=>by injection e with e;subst e;exact⟨hk.ob,Or.inr hob⟩),⟨hw,⟨hq.all.row.kept hg (Or.inr (fun e=>hneb _ _ _ _ _ _ hq.all.row (by decide) e.symm)),fun p hp=>(hq.all.data p hp).kept hg (Or.inr (fun e=>hneb _ _ _ _ _ _ (hq.all.data p hp).1 (by decide) e.symm))⟩,hb,?_⟩,⟨hk.ob,hk.row,hk.dat,?_⟩,hm,hE,hob⟩
 ·
  intro q hq2
  rcases hn with ⟨rfl,rfl,rfl⟩ | hn
  · exact Nat.lt_of_lt_of_le (hq.vlt q hq2) hg.size
  · exact (hn q hq2).2
 ·
  intro q hq2 hd
  rcases hn with ⟨rfl,rfl,rfl⟩ | hn
  · exact hk.blk q hq2 hd
  · have:=hlt q hd;have:=(hn q hq2).1;omega
theorem RcS.told (h:RcS w0 E cb ob gr cr mb cm is vs bs ds due b ps aa ca ak nk ck m C w) {w':World} {qs:List (Ev × Value)} {a':Option Addr} {c':Nat} (hg:w.grownBy w' (Value.slice aa ps.length ca).ownBlock) (ho:OutSt E qs a' c' w') (hd:∀ p∈qs,∀ q,p.2.ownBlock=some q→¬ C q) (hr:(Value.slice a' qs.length c').ownBlock=(Value.slice aa ps.length ca).ownBlock∨∀ q,(Value.slice a' qs.length c').ownBlock=some q→w.heap.size≤q) (hE0:∀ q,(Value.slice aa ps.length ca).ownBlock=some q→w0.heap.size≤q):RcS w0 E cb ob gr cr mb cm is vs bs ds due b qs a' c' ak nk ck m C w':=by
 obtain⟨wro,ao,co,F,rfl,hgs,hq,hk,hm,hE,hob⟩:=h
 have hlt:∀ q,Dn cb gr ao m.out.length co F q→q < w.heap.size:=by
  rintro q (rfl | rfl | hF | ho)
  · exact hgs.clt
  · exact hgs.rlt
  · exact (rflat_is mb cm).lt _ _ _ _ hgs.mem q hF
  · exact (hgs.out.lt q ho).2
 have hne:some ob≠(Value.slice aa ps.length ca).ownBlock:=by
  obtain⟨a0,a1,a2,a3,c0,c1,c2,c3,hx,_⟩:=hq.wb.box
  exact own_ne_block hq.all.row hx (by decide)
 refine⟨wro,ao,co,F,rfl,hgs.aside (rflat_is mb cm) hg (fun q e=>⟨hk.row q e,Or.inr (hE0 q e)⟩),⟨hq.wb.kept (hg.block ob hq.wb.lt hne) (fun q o hqe=>World.cell?_of_block (hg.block q (by have:=hq.wb.size;omega) (fun e=>by have:=hE0 q e.symm;omega))) hg.size,ho,fun h0=>⟨(hq.blk h0).1,(hq.blk h0).2.kept hg (by
  cases hob2:(Value.slice ak nk ck).ownBlock with
  | none=>exact Or.inl rfl
  | some q=>exact Or.inr (own_ne (hq.blk h0).2 hq.all.row (by decide) |>.resolve_left (by rw [hob2];simp) |> fun e=>by rw [hob2] at e;exact e))⟩,fun q hqq=>Nat.lt_of_lt_of_le (hq.vlt q hqq) hg.size⟩,⟨hk.ob,?_,hd,hk.blk⟩,hm,hE,hob⟩
 intro q hqq hdd
 rcases hr with hr | hr
 · rw [hr] at hqq;exact hk.row q hqq hdd
 · have:=hr q hqq;have:=hlt q hdd;omega
end
theorem rc_apply {w0 w:World} {E cb ob gr cr mb cm:Nat} {is vs:List Int} {bs:List (List Int)} {ds:List Int} {due:Int} {b:List Int} {ps:List (Ev × Value)} {aa:Option Addr} {ca:Nat} {ak:Option Addr} {nk ck:Nat} {m:Mach} {C:Nat→Prop} (h:RcS w0 E cb ob gr cr mb cm is vs bs ds due b ps aa ca ak nk ck m C w) (y:Ev) (hy:EvG y) (h3:y.kind≠3) (ad:Option Addr) (cd B0:Nat) (hdw:w.ownsRow B0 3 1 (.slice ad y.data.length cd) y.data.length (y.data.map (Value.int .i64))) (hl:y.data.length≤16) (hap:∀ q,(Value.slice ad y.data.length cd).ownBlock=some q→¬ C q):Calls Tryz.prog 26 #[.pointer (some ⟨cb,0,none⟩),.iface 67 (.slice (some ⟨mb,0,none⟩) 256 cm),.agg #[.int .i64 y.at_,.int .i64 y.kind,.slice ad y.data.length cd]] w fun e w' =>∃C',e=.returned (.tuple #[])∧RcS w0 E cb ob gr cr mb cm is vs bs ds due b ps aa ca ak nk ck (appM m y) C' w'∧OutF C w w'∧∀ q,C' q→C q∨w.heap.size≤q:=by
 have hR:=h
 obtain⟨wro,ao,co,F,rfl,hg,hq,hk,hm,hE,hob⟩:=h
 refine (apply_any (rflat_is mb cm) hg.base hm w.heap.size y hy h3 ad cd (fun w' ho=>ints_out hdw (by omega) (fun z hz=>(hy.wd z hz).i64) ho hap)).mono ?_
 rintro e w' ⟨m1,x1,rfl,hg1,hm1,-,hor⟩
 have hx:=flat_x hg1
 subst hx
 obtain⟨-,rfl⟩:=hor.resolve_right (by decide)
 obtain⟨C',h1,h2,h3⟩:=hR.core hg1 hm1
 exact⟨C',rfl,h1,h2,h3⟩
theorem rc_enter {w0 w:World} {E cb ob gr cr mb cm:Nat} {is vs:List Int} {bs:List (List Int)} {ds:List Int} {due:Int} {b:List Int} {ps:List (Ev × Value)} {aa:Option Addr} {ca:Nat} {ak:Option Addr} {nk ck:Nat} {m:Mach} {C:Nat→Prop} (h:RcS w0 E cb ob gr cr mb cm is vs bs ds due b ps aa ca ak nk ck m C w):Calls Tryz.prog 27 #[.pointer (some ⟨cb,0,none⟩)] w fun e w' =>∃C',e=.returned (.tuple #[])∧RcS w0 E cb ob gr cr mb cm is vs bs ds due b ps aa ca ak nk ck (enterM m) C' w'∧OutF C w w'∧∀ q,C' q→C q∨w.heap.size≤q:=by
 have hR:=h
 obtain⟨wro,ao,co,F,rfl,hg,hq,hk,hm,hE,hob⟩:=h
 refine (enter_any (rflat_is mb cm) hg.base).mono ?_
 rintro e w' ⟨rfl,hg1⟩
 obtain⟨C',h1,h2,h3⟩:=hR.core hg1 hm.enter
 exact⟨C',rfl,h1,h2,h3⟩
theorem rc_next {w0 w:World} {E cb ob gr cr mb cm:Nat} {is vs:List Int} {bs:List (List Int)} {ds:List Int} {due:Int} {b:List Int} {ps:List (Ev × Value)} {aa:Option Addr} {ca:Nat} {ak:Option Addr} {nk ck:Nat} {m:Mach} {C:Nat→Prop} (h:RcS w0 E cb ob gr cr mb cm is vs bs ds due b ps aa ca ak nk ck m C w):Calls Tryz.prog 28 #[.pointer (some ⟨cb,0,none⟩),.iface 67 (.slice (some ⟨mb,0,none⟩) 256 cm)] w fun e w'=>e=.returned (.tuple #[instV (nextZ m),.int .i64 (nextZ m).2])∧Below w.heap.size w w':=by
 obtain⟨wro,ao,co,F,rfl,hg,hq,hk,hm,hE,hob⟩:=h
 exact next_any (rflat_is mb cm) hg hm
theorem rc_exec {w0 w:World} {E cb ob gr cr mb cm:Nat} {is vs:List Int} {bs:List (List Int)} {ds:List Int} {due:Int} {b:List Int} {ps:List (Ev × Value)} {aa:Option Addr} {ca:Nat} {ak:Option Addr} {nk ck:Nat} {m:Mach} {C:Nat→Prop} (h:RcS w0 E cb ob gr cr mb cm is vs bs ds due b ps aa ca ak nk ck m C w) (hc:m.count < 1099511627776) (v:Int) (hv:WordZ v):Calls Tryz.prog 31 #[.pointer (some ⟨cb,0,none⟩),.iface 67 (.slice (some ⟨mb,0,none⟩) 256 cm),.int .i64 v] w fun e w' =>∃C',e=.returned (.tuple #[])∧RcS w0 E cb ob gr cr mb cm is vs bs ds due b ps aa ca ak nk ck (execM m v).1 C' w'∧OutF C w w'∧∀ q,C' q→C q∨w.heap.size≤q:=by
 have hR:=h
 obtain⟨wro,ao,co,F,rfl,hg,hq,hk,hm,hE,hob⟩:=h
 refine (exec_any (rflat_is mb cm) hg.base hm hc v hv).mono ?_
 rintro e w' ⟨m1,wr1,x1,rfl,hg1,hm1,-,-,hor⟩
 have hx:=flat_x hg1
 subst hx
 obtain⟨-,rfl,rfl⟩:=hor.resolve_right (by decide)
 obtain⟨C',h1,h2,h3⟩:=hR.core hg1 hm1
 exact⟨C',rfl,h1,h2,h3⟩
theorem RcS.cells {w0 w:World} {E cb ob gr cr mb cm:Nat} {is vs:List Int} {bs:List (List Int)} {ds:List Int} {due:Int} {b:List Int} {ps:List (Ev × Value)} {aa:Option Addr} {ca:Nat} {ak:Option Addr} {nk ck:Nat} {m:Mach} {C:Nat→Prop} (h:RcS w0 E cb ob gr cr mb cm is vs bs ds due b ps aa ca ak nk ck m C w):∃ wro ao co,w.heap[cb]? = some (.cells #[.slice (some ⟨gr,0,none⟩) 8 cr,.int .i64 m.pc,.int .i64 m.back,.bool m.ints,.bool m.wait,.int .i64 m.table,.int .i64 m.count,.int .i64 m.fin,.slice (some ⟨mb,0,none⟩) 256 cm,.slice ao m.out.length co,.int .i64 m.ready,.int .i64 m.want,.int .i64 wro] 66 (0,0)):=by
 obtain⟨wro,ao,co,F,rfl,hg,_⟩:=h
 exact⟨wro,ao,co,hg.box⟩
theorem RcS.q {w0 w:World} {E cb ob gr cr mb cm:Nat} {is vs:List Int} {bs:List (List Int)} {ds:List Int} {due:Int} {b:List Int} {ps:List (Ev × Value)} {aa:Option Addr} {ca:Nat} {ak:Option Addr} {nk ck:Nat} {m:Mach} {C:Nat→Prop} (h:RcS w0 E cb ob gr cr mb cm is vs bs ds due b ps aa ca ak nk ck m C w):Rq w0 E ob is vs bs ds due b ps aa ca ak nk ck w:=by
 obtain⟨wro,ao,co,F,rfl,hg,hq,_⟩:=h
 exact hq
theorem RcS.kp {w0 w:World} {E cb ob gr cr mb cm:Nat} {is vs:List Int} {bs:List (List Int)} {ds:List Int} {due:Int} {b:List Int} {ps:List (Ev × Value)} {aa:Option Addr} {ca:Nat} {ak:Option Addr} {nk ck:Nat} {m:Mach} {C:Nat→Prop} (h:RcS w0 E cb ob gr cr mb cm is vs bs ds due b ps aa ca ak nk ck m C w):Kp C ob ps aa ca (.slice ak nk ck):=by
 obtain⟨wro,ao,co,F,rfl,hg,hq,hk,_⟩:=h
 exact hk
def navR:List Nat→Code→Code
 | [],c=>c
 | 0 :: p,.seq a _=>navR p a
 | 1 :: p,.seq _ b=>navR p b
 | 0 :: p,.block _ c=>navR p c
 | 0 :: p,.loop c=>navR p c
 | 0 :: p,.scope c=>navR p c
 | 0 :: p,.cond _ a _=>navR p a
 | 1 :: p,.cond _ _ b=>navR p b
 | _,_=>.skip
noncomputable def c12 (p:List Nat):Code:=navR p (Tryz.f9.body.getD .skip)
theorem rc_ap {w0 wz:World} {E cb ob gr cr mb cm:Nat} {is vs:List Int} {bs:List (List Int)} {ds:List Int} {due:Int} {b:List Int} {ps:List (Ev × Value)} {aa:Option Addr} {ca:Nat} {ak:Option Addr} {nk ck:Nat} {m:Mach} {C:Nat→Prop} {ls:List (Ev × Value)} {la:Option Addr} {lc:Nat} {K:Act→World→Prop} {Q':Exit→Act→World→Prop} {x0 x1 x2 x3 x4 x5 x6 x7 x8 x9 x10 x11 x14 x15 x16 x17 x18 x19 x20 x21 x22 x23 x24 x25 x26 x27 x28 x29 x30 x31 x32 x33 x34 x35 x36 x37 x38 x39 x40 x41 x42 x43 x44 x45 x46 x47 x48 x49 x50 x51 x52 x53 x54 x55 x56 x57 x58 x59 x60 x61 x62 x63 x64 x65 x66 x67 x68 x69 x70 x71 x72 x73 x74 x75 x76 x77 x78 x79 x80 x81 x82 x83 x87 x88 x89 x90 x91 x92 x93 x94 x95 x96 x97 x98 x99 x100 x101 x102 x103 x104 x105 x106 x107 x108 x109 x110 x111 x112 x113 x114 x115 x116 x117 x118 x119 x120 x121 x122 x123 x124 x125 x126 x127 x128 x129 x130 x131 x132 x133 x134 x135 x136 x137 x138 x139 x140 x141 x142 x143 x144 x145 x146 x147 x148 x149 x150 x151 x152 x153 x154 x155 x156 x157 x158 x159 x160 x161 x162 x163 x164 x165 x166 x167 x168 x169 x170 x171 x172 x173 x174 x175 x176 x177 x178:Value} (HR:Hid (RcS w0 E cb ob gr cr mb cm is vs bs ds due b ps aa ca ak nk ck m C wz)) (HL:Hid (LsS E ls la lc C wz)) (HG:Hid (∀ p∈ls,EvG p.1∧p.1.kind≠3)) (hl2:ls.length≤2) (hK:∀ (y86 y87 y88 y89 y90 y91 y92 y93 y94 y95:Value) (s19:Value) (wx:World),(∃ C',Hid (RcS w0 E cb ob gr cr mb cm is vs bs ds due b ps aa ca ak nk ck ((ls.map (·.1)).foldl appM m) C' wx)∧Hid (LsS E ls la lc C' wx))→K ⟨List.toArray (x0 :: x1 :: x2 :: x3 :: x4 :: x5 :: x6 :: x7 :: x8 :: x9 :: x10 :: x11 :: .pointer (some ⟨cb,0,none⟩) :: .slice (some ⟨mb,0,none⟩) 256 cm :: x14 :: x15 :: x16 :: x17 :: x18 :: s19 :: x20 :: x21 :: x22 :: x23 :: x24 :: x25 :: x26 :: x27 :: x28 :: x29 :: x30 :: x31 :: x32 :: x33 :: x34 :: x35 :: x36 :: x37 :: x38 :: x39 :: x40 :: x41 :: x42 :: x43 :: x44 :: x45 :: x46 :: x47 :: x48 :: x49 :: x50 :: x51 :: x52 :: x53 :: x54 :: x55 :: x56 :: x57 :: x58 :: x59 :: x60 :: x61 :: x62 :: x63 :: x64 :: x65 :: x66 :: x67 :: x68 :: x69 :: x70 :: x71 :: x72 :: x73 :: x74 :: x75 :: x76 :: x77 :: x78 :: x79 :: x80 :: x81 :: x82 :: x83 :: .slice la ls.length lc :: .int .i64 (ls.length:Int) :: y86 :: y87 :: y88 :: y89 :: y90 :: y91 :: y92 :: y93 :: y94 :: y95 :: x96 :: x97 :: x98 :: x99 :: x100 :: x101 :: x102 :: x103 :: x104 :: x105 :: x106 :: x107 :: x108 :: x109 :: x110 :: x111 :: x112 :: x113 :: x114 :: x115 :: x116 :: x117 :: x118 :: x119 :: x120 :: x121 :: x122 :: x123 :: x124 :: x125 :: x126 :: x127 :: x128 :: x129 :: x130 :: x131 :: x132 :: x133 :: x134 :: x135 :: x136 :: x137 :: x138 :: x139 :: x140 :: x141 :: x142 :: x143 :: x144 :: x145 :: x146 :: x147 :: x148 :: x149 :: x150 :: x151 :: x152 :: x153 :: x154 :: x155 :: x156 :: x157 :: x158 :: x159 :: x160 :: x161 :: x162 :: x163 :: x164 :: x165 :: x166 :: x167 :: x168 :: x169 :: x170 :: x171 :: x172 :: x173 :: x174 :: x175 :: x176 :: x177 :: x178 :: []),[]⟩ wx):(c12 [1,1,1,1,1,1,1,1,1,0,0,0,1,0,1,1,0,1]).wp Tryz.prog (Exit.then K Q') ⟨List.toArray (x0 :: x1 :: x2 :: x3 :: x4 :: x5 :: x6 :: x7 :: x8 :: x9 :: x10 :: x11 :: .pointer (some ⟨cb,0,none⟩) :: .slice (some ⟨mb,0,none⟩) 256 cm :: x14 :: x15 :: x16 :: x17 :: x18 :: x19 :: x20 :: x21 :: x22 :: x23 :: x24 :: x25 :: x26 :: x27 :: x28 :: x29 :: x30 :: x31 :: x32 :: x33 :: x34 :: x35 :: x36 :: x37 :: x38 :: x39 :: x40 :: x41 :: x42 :: x43 :: x44 :: x45 :: x46 :: x47 :: x48 :: x49 :: x50 :: x51 :: x52 :: x53 :: x54 :: x55 :: x56 :: x57 :: x58 :: x59 :: x60 :: x61 :: x62 :: x63 :: x64 :: x65 :: x66 :: x67 :: x68 :: x69 :: x70 :: x71 :: x72 :: x73 :: x74 :: x75 :: x76 :: x77 :: x78 :: x79 :: x80 :: x81 :: x82 :: x83 :: .slice la ls.length lc :: .int .i64 (ls.length:Int) :: .int .i64 0 :: x87 :: x88 :: x89 :: x90 :: x91 :: x92 :: x93 :: x94 :: x95 :: x96 :: x97 :: x98 :: x99 :: x100 :: x101 :: x102 :: x103 :: x104 :: x105 :: x106 :: x107 :: x108 :: x109 :: x110 :: x111 :: x112 :: x113 :: x114 :: x115 :: x116 :: x117 :: x118 :: x119 :: x120 :: x121 :: x122 :: x123 :: x124 :: x125 :: x126 :: x127 :: x128 :: x129 :: x130 :: x131 :: x132 :: x133 :: x134 :: x135 :: x136 :: x137 :: x138 :: x139 :: x140 :: x141 :: x142 :: x143 :: x144 :: x145 :: x146 :: x147 :: x148 :: x149 :: x150 :: x151 :: x152 :: x153 :: x154 :: x155 :: x156 :: x157 :: x158 :: x159 :: x160 :: x161 :: x162 :: x163 :: x164 :: x165 :: x166 :: x167 :: x168 :: x169 :: x170 :: x171 :: x172 :: x173 :: x174 :: x175 :: x176 :: x177 :: x178 :: []),[]⟩ wz:=by
 have HK:=Lib.hid hK
 clear hK
 conv=>arg 2;whnf
 go_cut [19] from 86 to 95 (fun s19 wx =>∃C',Hid (RcS w0 E cb ob gr cr mb cm is vs bs ds due b ps aa ca ak nk ck ((ls.map (·.1)).foldl appM m) C' wx)∧Hid (LsS E ls la lc C' wx))
 case rest =>
  exact HK.out _ _ _ _ _ _ _ _ _ _ _ _ hcut
 case first =>
  clear HK
  go_wp2_with fail
  go_loopg [19,86] ls.length (fun gh s19 s86 wr =>∃(i:Nat) (C':Nat→Prop),i≤ls.length∧gh=ls.length - i∧s86=.int .i64 i∧Hid (RcS w0 E cb ob gr cr mb cm is vs bs ds due b ps aa ca ak nk ck (((ls.take i).map (·.1)).foldl appM m) C' wr)∧Hid (LsS E ls la lc C' wr))
  case atStart=>exact⟨0,C,Nat.zero_le _,by omega,rfl,HR,HL⟩
  case round =>
   clear HR HL
   obtain⟨i,C',hi,rfl,rfl,HR,HL⟩:=hrel
   by_cases hlt:i < ls.length
   ·
    have hp:=HG.out ls[i] (List.getElem_mem hlt)
    have hdo:=HL.out.out.data ls[i] (List.getElem_mem hlt)
    obtain⟨ad,cd,hsh⟩:=own_shape hdo.1
    have hfold:((ls.take (i+1)).map (·.1)).foldl appM m=appM (((ls.take i).map (·.1)).foldl appM m) ls[i].1:=by
     rw [List.take_add_one,List.getElem?_eq_getElem hlt,Option.toList_some,List.map_append,List.foldl_append]
     rfl
    have hrow:=HL.out.out.row
    obtain⟨g,hla⟩:∃ g,la=some ⟨g,0,none⟩:=by
     rcases hrow.2 with ⟨_,h0⟩ | ⟨g,cap,cur,hv,_⟩
     · omega
     · injection hv with e1;exact⟨g,e1⟩
    subst hla
    have hc:∀ (j:Nat) (hj:j < 3),wr.cell? ⟨g,i * 3+j,none⟩=([.int .i64 ls[i].1.at_,.int .i64 ls[i].1.kind,ls[i].2]:List Value)[j]?:=fun j hj=>by
     have:=hrow.cells (g:=g) rfl (i * 3+j) _ ((flatE_get ls i j hlt hj).trans (List.getElem?_eq_getElem (by simpa using hj)))
     rw [add_plain,Nat.zero_add] at this
     rw [this]
     exact (List.getElem?_eq_getElem (by simpa using hj)).symm
    have k0:=hc 0 (by omega)
    have k1:=hc 1 (by omega)
    have k2:=hc 2 (by omega)
    rw [hsh] at k2
    simp only [Nat.add_zero,List.getElem?_cons_zero,List.getElem?_cons_succ] at k0 k1 k2
    have lg:g < wr.heap.size:=(hrow.lt g rfl).2
    have hdo2:DOwn E wr (ls[i].1,.slice ad ls[i].1.data.length cd):=by rw [← hsh];exact hdo
    have HDA:=Lib.hid (show ∀ q,(Value.slice ad ls[i].1.data.length cd).ownBlock=some q→¬ C' q from fun q hq=>HL.out.dat ls[i] (List.getElem_mem hlt) q (by rw [hsh];exact hq))
    have HDO:=Lib.hid hdo2
    have HF:=Lib.hid hfold
    have HP:=Lib.hid hp
    have hi1:(i:Int) < (ls.length:Int):=by omega
    have hi0:(0:Int)≤(i:Int):=by omega
    clear hc hsh hdo hdo2 hrow hp hfold
    generalize ls[i].1=y at *
    have HB:=Lib.hid (below_alloc wr (.cells #[.int .i64 y.at_,.int .i64 y.kind,.slice ad y.data.length cd] 43 (0,0)))
    have HAP:=Lib.hid (rc_apply (HR.out.below HB.out) y HP.out.1 HP.out.2 ad cd E (own_below HDO.out.1 HB.out (Nat.le_refl _)) HDO.out.2.2.1 HDA.out)
    have HL2:=Lib.hid (HL.out.ran (OutF.of HB.out C') (fun q h=>Or.inl h))
    go_wp2_with fail
    refine HAP.out.mono ?_
    rintro e w2 ⟨C2,rfl,hr2,ho2,hc2⟩
    rw [← HF.out] at hr2
    have HR2:=Lib.hid hr2
    have HL3:=Lib.hid (HL2.out.ran ho2 hc2)
    clear hr2 ho2 hc2 HAP HB HL2 k0 k1 k2 lg
    go_wp2_with fail
    go_roundg (ls.length - (i+1))
    case measure=>omega
    case rel=>exact⟨i+1,C2,by omega,rfl,by go_num,HR2,HL3⟩
   ·
    obtain rfl:i=ls.length:=by omega
    have HR2:Hid (RcS w0 E cb ob gr cr mb cm is vs bs ds due b ps aa ca ak nk ck ((ls.map (·.1)).foldl appM m) C' wr):=Lib.hid (by have:=HR.out;rw [List.take_length] at this;exact this)
    clear HR hlt
    go_wp2_with fail
    go_meet
    exact⟨C',HR2,HL⟩
end Go.Proofs.YtkahciebbnhobaaGreatDoor
