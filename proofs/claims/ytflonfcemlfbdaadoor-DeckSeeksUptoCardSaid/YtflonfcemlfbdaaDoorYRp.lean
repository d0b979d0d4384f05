/- Several texts joined, each with its own heading in the notes: The document's guest in a world: its box, its slices, and a result's box; what each change leaves. The contracts of the document's meant and NextOf. The document's guest in a world, of which some old blocks may be written: its box, its slices, a result's box; what each change leaves. The pure step, part by part, as the document's stepped does it; what stepped leaves in memory. No condition beyond those of each row. -/
import Derived.Test.YtflonfcemlfbdaaDoorYCpu1
import Derived.Test.YtflonfcemlfbdaaDoorYOi
import Derived.Handy
namespace Go.Proofs.YtflonfcemlfbdaaDoor
open Go Go.RowKit Go.ChangeShapes Go.WideShapes Go.Deep
set_option linter.unusedVariables false
structure KRSt(w0:World)(rb bb gr cr mb cm:Nat)(m:Mach)(ao:Option Addr)(co:Nat)(w:World):Prop where
 box:w.heap[bb]?=some (.cells #[.slice (some ⟨gr,0,none⟩) 8 cr,.int .i64 m.pc,.int .i64 m.back,.bool m.ints,.bool m.wait,.int .i64 m.table,.int .i64 m.count,.int .i64 m.fin,.slice (some ⟨mb,0,none⟩) 256 cm,.slice ao m.out.length co,.int .i64 m.ready,.int .i64 m.want] 48 (0,0))
 rbox:w.heap[rb]?=some (.cells #[.slice none 0 0,.int .i64 0,.int .i64 0,.bool false,.bool false,.int .i64 0,.int .i64 0,.int .i64 0,.slice none 0 0,.slice none 0 0,.int .i64 0,.int .i64 0] 48 (0,0))
 regs:w.ownsRow 0 3 1 (.slice (some ⟨gr,0,none⟩) 8 cr) 8 (m.regs.map (Value.int .i64))
 mem:w.ownsRow 0 3 1 (.slice (some ⟨mb,0,none⟩) 256 cm) 256 (m.mem.map (Value.int .i64))
 out:w.ownsRow 0 3 1 (.slice ao m.out.length co) m.out.length (m.out.map (Value.int .i64))
 ne:rb≠bb
 rm:gr≠mb
 ro:(Value.slice ao m.out.length co).ownBlock≠some gr
 mo:(Value.slice ao m.out.length co).ownBlock≠some mb
 old:Below w0.heap.size w0 w
 lb:w0.heap.size≤bb
 lr:w0.heap.size≤gr
 lm:w0.heap.size≤mb
 lo:∀g,(Value.slice ao m.out.length co).ownBlock=some g→w0.heap.size≤g
theorem zaP{w:World}{g c n:Nat}{zs:List Int}(h:w.ownsRow 0 3 1 (.slice (some ⟨g,0,none⟩) n c) n (zs.map (Value.int .i64))){k:Nat}(hk:k<n):w.cell? ⟨g,k,none⟩=some (.int .i64 (zs.getD k 0)):=by
 have hl:zs.length=n:=by have:=h.1;simpa using this
 rw[h.cellAt k (by omega),List.getElem?_map,List.getElem?_eq_getElem (by omega),List.getD_eq_getElem?_getD,List.getElem?_eq_getElem (by omega)]
 rfl
section
variable {w0 w:World} {rb bb gr cr mb cm:Nat} {m:Mach} {ao:Option Addr} {co:Nat}
theorem KRSt.blt(h:KRSt w0 rb bb gr cr mb cm m ao co w):bb<w.heap.size:=(Array.getElem?_eq_some_iff.1 h.box).1
theorem KRSt.rbl(h:KRSt w0 rb bb gr cr mb cm m ao co w):rb<w.heap.size:=(Array.getElem?_eq_some_iff.1 h.rbox).1
theorem KRSt.rlt(h:KRSt w0 rb bb gr cr mb cm m ao co w):gr<w.heap.size:=(h.regs.lt gr rfl).2
theorem KRSt.mlt(h:KRSt w0 rb bb gr cr mb cm m ao co w):mb<w.heap.size:=(h.mem.lt mb rfl).2
theorem KRSt.grb(h:KRSt w0 rb bb gr cr mb cm m ao co w):gr≠bb:=fun e=>by subst e;exact zad h.regs h.box (by decide) rfl
theorem KRSt.grr(h:KRSt w0 rb bb gr cr mb cm m ao co w):gr≠rb:=fun e=>by subst e;exact zad h.regs h.rbox (by decide) rfl
theorem KRSt.mbb(h:KRSt w0 rb bb gr cr mb cm m ao co w):mb≠bb:=fun e=>by subst e;exact zad h.mem h.box (by decide) rfl
theorem KRSt.mbr(h:KRSt w0 rb bb gr cr mb cm m ao co w):mb≠rb:=fun e=>by subst e;exact zad h.mem h.rbox (by decide) rfl
theorem KRSt.one(h:KRSt w0 rb bb gr cr mb cm m ao co w):(Value.slice ao m.out.length co).ownBlock≠some bb:=(zad h.out h.box (by decide)).symm
theorem KRSt.onr(h:KRSt w0 rb bb gr cr mb cm m ao co w):(Value.slice ao m.out.length co).ownBlock≠some rb:=(zad h.out h.rbox (by decide)).symm
theorem KRSt.reg_at(h:KRSt w0 rb bb gr cr mb cm m ao co w){a:Nat}(ha:a<8):w.cell? ⟨gr,a,none⟩=some (.int .i64 (m.reg a)):=by
 have:=zaP h.regs ha
 rw[this];unfold Mach.reg;rw[Int.toNat_natCast]
theorem KRSt.mem_at(h:KRSt w0 rb bb gr cr mb cm m ao co w){k:Nat}(hk:k<256):w.cell? ⟨mb,k,none⟩=some (.int .i64 (m.mem.getD k 0)):=zaP h.mem hk
theorem KRSt.kept(h:KRSt w0 rb bb gr cr mb cm m ao co w){w':World}(hb:Below w.heap.size w w'):KRSt w0 rb bb gr cr mb cm m ao co w':=
 ⟨zac hb h.box h.blt,zac hb h.rbox h.rbl,own_below h.regs hb (Nat.le_refl _),own_below h.mem hb (Nat.le_refl _),own_below h.out hb (Nat.le_refl _),h.ne,h.rm,h.ro,h.mo,h.old.trans (hb.mono h.old.size),h.lb,h.lr,h.lm,h.lo⟩
theorem KRSt.alloc(h:KRSt w0 rb bb gr cr mb cm m ao co w)(o:Obj):KRSt w0 rb bb gr cr mb cm m ao co (w.alloc o):=h.kept (zai w o)
theorem KRSt.drewN(h:KRSt w0 rb bb gr cr mb cm m ao co w)(n:Nat):KRSt w0 rb bb gr cr mb cm m ao co (w.drewN n):=h.kept (below_drewN (Below.refl _ _) n)
theorem KRSt.drew(h:KRSt w0 rb bb gr cr mb cm m ao co w):KRSt w0 rb bb gr cr mb cm m ao co w.drew:=h.drewN 1
theorem KRSt.put (h : KRSt w0 rb bb gr cr mb cm m ao co w) (i : Nat) (u : Value) (m' : Mach)
  (hb:(#[.slice (some ⟨gr,0,none⟩) 8 cr,.int .i64 m.pc,.int .i64 m.back,.bool m.ints,.bool m.wait,.int .i64 m.table,.int .i64 m.count,.int .i64 m.fin,.slice (some ⟨mb,0,none⟩) 256 cm,.slice ao m.out.length co,.int .i64 m.ready,.int .i64 m.want]:Array Value).setIfInBounds i u=#[.slice (some ⟨gr,0,none⟩) 8 cr,.int .i64 m'.pc,.int .i64 m'.back,.bool m'.ints,.bool m'.wait,.int .i64 m'.table,.int .i64 m'.count,.int .i64 m'.fin,.slice (some ⟨mb,0,none⟩) 256 cm,.slice ao m.out.length co,.int .i64 m'.ready,.int .i64 m'.want])
  (hr:m'.regs=m.regs) (hm:m'.mem=m.mem) (ho:m'.out=m.out):KRSt w0 rb bb gr cr mb cm m' ao co (w.setCell ⟨bb,i,none⟩ u):=by
 have hg:w.grownBy (w.setCell ⟨bb,i,none⟩ u) (some bb):=za6 w bb i u
 refine⟨?_,?_,?_,?_,?_,h.ne,h.rm,by rw[ho];exact h.ro,by rw[ho];exact h.mo,h.old.setCell h.lb u,h.lb,h.lr,h.lm,by rw[ho];exact h.lo⟩
 ·rw[ho,←hb];exact zaf h.box u
 ·exact zah h.rbox h.ne u
 ·rw[hr];exact h.regs.kept hg (Or.inr (by have:=h.grb;simp[Value.ownBlock];exact this))
 ·rw[hm];exact h.mem.kept hg (Or.inr (by have:=h.mbb;simp[Value.ownBlock];exact this))
 ·rw[ho];exact h.out.kept hg (Or.inr h.one)
theorem KRSt.setReg(h:KRSt w0 rb bb gr cr mb cm m ao co w)(a:Nat)(z:Int):KRSt w0 rb bb gr cr mb cm (m.setReg a z) ao co (w.setCell ⟨gr,a,none⟩ (.int .i64 z)):=by
 obtain⟨hs,hg⟩:=h.regs.stored a (.int .i64 z)
 refine⟨zah h.box (fun e=>h.grb e.symm) _,zah h.rbox (fun e=>h.grr e.symm) _,?_,h.mem.kept hg (Or.inr (by have:=h.rm;simp[Value.ownBlock];exact fun e=>this e.symm)),h.out.kept hg (Or.inr h.ro),h.ne,h.rm,h.ro,h.mo,h.old.setCell h.lr _,h.lb,h.lr,h.lm,h.lo⟩
 show World.ownsRow _ _ _ _ _ _ ((m.regs.set (a:Int).toNat z).map _)
 rw[List.map_set,Int.toNat_natCast];exact hs
theorem KRSt.setMem(h:KRSt w0 rb bb gr cr mb cm m ao co w)(k:Nat)(z:Int):KRSt w0 rb bb gr cr mb cm {m with mem:=m.mem.set k z} ao co (w.setCell ⟨mb,k,none⟩ (.int .i64 z)):=by
 obtain⟨hs,hg⟩:=h.mem.stored k (.int .i64 z)
 refine⟨zah h.box (fun e=>h.mbb e.symm) _,zah h.rbox (fun e=>h.mbr e.symm) _,h.regs.kept hg (Or.inr (by have:=h.rm;simp[Value.ownBlock];exact this)),?_,h.out.kept hg (Or.inr h.mo),h.ne,h.rm,h.ro,h.mo,h.old.setCell h.lm _,h.lb,h.lr,h.lm,h.lo⟩
 show World.ownsRow _ _ _ _ _ _ ((m.mem.set k z).map _)
 rw[List.map_set];exact hs
end
end Go.Proofs.YtflonfcemlfbdaaDoor
namespace Go.Proofs.YtflonfcemlfbdaaDoor
open Go Go.RowKit Go.ChangeShapes Go.WideShapes Go.Deep
set_option maxHeartbeats 4000000
set_option maxRecDepth 100000
set_option linter.unusedVariables false
attribute [local go_sem ↓] Go.wp_at_zero Go.wp_at_succ
theorem zcU(m:Mach)(vr vo:Value)(mb cm:Nat)(at_:Int)(write:Bool)(w:World)(ht:-1≤m.table∧m.table<16)(hmem:w.ownsRow 0 3 1 (.slice (some ⟨mb,0,none⟩) 256 cm) 256 (m.mem.map (Value.int .i64))):Calls Tryd.prog 68 #[.agg #[vr,.int .i64 m.pc,.int .i64 m.back,.bool m.ints,.bool m.wait,.int .i64 m.table,.int .i64 m.count,.int .i64 m.fin,.slice (some ⟨mb,0,none⟩) 256 cm,vo,.int .i64 m.ready,.int .i64 m.want],.int .i64 at_,.bool write] w fun e w'=>e=.returned (.tuple #[.int .i64 (zan m.table m.mem at_ write).1,.int .i64 (zan m.table m.mem at_ write).2])∧Below w.heap.size w w':=by
 by_cases h1:at_<0∨256≤at_
 ·
  rw[zdd h1]
  have HI:=Lib.hid (fun w=>zcw at_ 0 255 w (by omega))
  clear hmem h1
  go_enter Tryd.func68,Tryd.ntmps68
  go_wp2_with (go_at_call 13;refine(HI.out _).mono ?_;rintro e w' ⟨rfl,rfl⟩)
  go_ret2
  exact⟨rfl,zai _ _⟩
 ·
  have HI:=Lib.hid (fun w=>za0 at_ 0 255 w (by omega))
  by_cases h2:m.table<0
  ·
   rw[zcR h1 h2]
   have h3:m.table = -1:=by omega
   rw[h3]
   clear hmem h1 h2 h3
   go_enter Tryd.func68,Tryd.ntmps68
   go_wp2_with (go_at_call 13;refine(HI.out _).mono ?_;rintro e w' ⟨rfl,rfl⟩)
   go_ret2
   exact⟨rfl,zai _ _⟩
  ·
   have h3:(m.table == -1)=false:=by rw[beq_eq_false_iff_ne];omega
   have hd:at_.tdiv 16=at_/16:=Int.tdiv_eq_ediv_of_nonneg (by omega)
   obtain⟨k,hk⟩:∃k:Nat,(k:Int)=m.table*16+at_/16:=⟨(m.table*16+at_/16).toNat,by omega⟩
   have w1:IntKind.i64.wrap (16*m.table)=16*m.table:=IntWalk.i64_in _ (by omega)
   have w2:IntKind.i64.wrap (at_/16)=at_/16:=IntWalk.i64_in _ (by omega)
   have w3:IntKind.i64.wrap (16*m.table+at_/16)=(k:Int):=by rw[IntWalk.i64_in _ (by omega)];omega
   have hk256:k<256:=by omega
   have c:=zaP hmem hk256
   have lm:=(hmem.lt mb rfl).2
   have hm:at_.tmod 16=at_%16:=Int.tmod_eq_emod_of_nonneg (by omega)
   have v1:IntKind.i64.wrap (at_%16)=at_%16:=IntWalk.i64_in _ (by omega)
   have HP:Hid (∀z,z=m.mem.getD k 0→(z<32∨63<z∨(write=true∧z<48)→zan m.table m.mem at_ write=(0,4))∧(¬(z<32∨63<z∨(write=true∧z<48))→zan m.table m.mem at_ write=(z%16*16+at_%16,0))):=Lib.hid (by
    intro z hz
    have e:(m.table*16+at_/16).toNat=k:=by omega
    rw[←e] at hz
    subst hz
    exact⟨fun h=>zde h1 h2 h,fun h=>zcS h1 h2 h⟩)
   generalize zan m.table m.mem at_ write=pz at *
   generalize m.mem.getD k 0=z at *
   have HPZ:=Lib.hid (HP.out z rfl)
   clear HP hmem h1 h2 ht hk
   by_cases z1:32≤z∧z≤63
   ·
    have HJ:=Lib.hid (fun w=>za0 z 32 63 w z1)
    have zm:z.tmod 16=z%16:=Int.tmod_eq_emod_of_nonneg (by omega)
    have v2:IntKind.i64.wrap (z%16)=z%16:=IntWalk.i64_in _ (by omega)
    have v3:IntKind.i64.wrap (16*(z%16))=16*(z%16):=IntWalk.i64_in _ (by omega)
    have hq:16*(z%16)+at_%16=z%16*16+at_%16:=by omega
    have v4:IntKind.i64.wrap (16*(z%16)+at_%16)=z%16*16+at_%16:=by rw[IntWalk.i64_in _ (by omega)];exact hq
    clear hq
    cases write with
    | true=>
     by_cases z3:z<48
     ·
      have HE:=Lib.hid (HPZ.out.1 (Or.inr (Or.inr ⟨rfl,z3⟩)))
      clear HPZ
      go_enter Tryd.func68,Tryd.ntmps68
      go_wp2_with (go_at_call 13;first|((with_reducible refine(HI.out _).mono ?_);rintro e w' ⟨rfl,rfl⟩)|((with_reducible refine(HJ.out _).mono ?_);rintro e w' ⟨rfl,rfl⟩))
      go_ret2
      rw[HE.out]
      exact⟨rfl,zai _ _⟩
     ·
      have HE:=Lib.hid (HPZ.out.2 (by rintro (h|h|⟨_,h⟩)<;>omega))
      clear HPZ
      go_enter Tryd.func68,Tryd.ntmps68
      go_wp2_with (go_at_call 13;first|((with_reducible refine(HI.out _).mono ?_);rintro e w' ⟨rfl,rfl⟩)|((with_reducible refine(HJ.out _).mono ?_);rintro e w' ⟨rfl,rfl⟩))
      go_ret2
      rw[HE.out]
      exact⟨rfl,zai _ _⟩
    | false=>
     have HE:=Lib.hid (HPZ.out.2 (by rintro (h|h|⟨h,_⟩);omega;omega;cases h))
     clear HPZ
     go_enter Tryd.func68,Tryd.ntmps68
     go_wp2_with (go_at_call 13;first|((with_reducible refine(HI.out _).mono ?_);rintro e w' ⟨rfl,rfl⟩)|((with_reducible refine(HJ.out _).mono ?_);rintro e w' ⟨rfl,rfl⟩))
     go_ret2
     rw[HE.out]
     exact⟨rfl,zai _ _⟩
   ·
    have HJ:=Lib.hid (fun w=>zcw z 32 63 w (by omega))
    have HE:=Lib.hid (HPZ.out.1 (by omega))
    clear HPZ
    go_enter Tryd.func68,Tryd.ntmps68
    go_wp2_with (go_at_call 13;first|((with_reducible refine(HI.out _).mono ?_);rintro e w' ⟨rfl,rfl⟩)|((with_reducible refine(HJ.out _).mono ?_);rintro e w' ⟨rfl,rfl⟩))
    go_ret2
    rw[HE.out]
    exact⟨rfl,zai _ _⟩
theorem zdg(m:Mach)(vr vo:Value)(mb cm:Nat)(w:World)(hm:MOk m)(hmem:w.ownsRow 0 3 1 (.slice (some ⟨mb,0,none⟩) 256 cm) 256 (m.mem.map (Value.int .i64))):Calls Tryd.prog 66 #[.agg #[vr,.int .i64 m.pc,.int .i64 m.back,.bool m.ints,.bool m.wait,.int .i64 m.table,.int .i64 m.count,.int .i64 m.fin,.slice (some ⟨mb,0,none⟩) 256 cm,vo,.int .i64 m.ready,.int .i64 m.want]] w fun e w'=>e=.returned (.tuple #[zbS (zal m),.int .i64 (zal m).2])∧Below w.heap.size w w':=by
 have HPL:=Lib.hid (fun w' (hb:Below w.heap.size w w')=>zcU m vr vo mb cm m.pc false w' hm.table (own_below hmem hb (Nat.le_refl _)))
 have HN:Hid (zal m=if (zan m.table m.mem m.pc false).2≠0 then (0,(zan m.table m.mem m.pc false).2) else if decC (m.mem.getD (zan m.table m.mem m.pc false).1.toNat 0)≠0 then (0,2) else (m.mem.getD (zan m.table m.mem m.pc false).1.toNat 0,0)):=Lib.hid rfl
 have hbd:=za2 m.table m.mem m.pc false
 generalize zan m.table m.mem m.pc false=pz at *
 obtain⟨kz,e⟩:=pz
 simp only at hbd HN
 obtain⟨k,rfl⟩:=Int.eq_ofNat_of_zero_le hbd.1
 rw[Int.toNat_natCast] at HN
 have hk:k<256:=by omega
 have c:=zaP hmem hk
 have lm:=(hmem.lt mb rfl).2
 have hw:WordZ (m.mem.getD k 0):=hm.wmem k
 have HM:=Lib.hid hmem
 generalize zal m=nz at *
 generalize hgz:m.mem.getD k 0=z at *
 have HD:=Lib.hid (fun w=>zeT z w hw.i64)
 have HZ:Hid (m.mem.getD k 0=z):=Lib.hid hgz
 clear hm hmem hw hbd hgz c
 by_cases he:e=0
 ·
  subst he
  by_cases hc:decC z=0
  ·
   have HE:Hid (nz=(z,0)):=Lib.hid (by rw[HN.out,if_neg (by simp),if_neg (by simpa using hc)])
   have HV:Hid (decV z=.agg #[.int .i64 (zaM z),.int .i64 (decA z),.int .i64 (decB z),.int .i64 (decN z)]):=Lib.hid (by unfold decV;rw[if_pos hc])
   rw[hc,HV.out] at HD
   clear HN hc
   generalize zaM z=o1 at *
   generalize decA z=o2 at *
   generalize decB z=o3 at *
   generalize decN z=o4 at *
   go_enter Tryd.func66,Tryd.ntmps66
   go_wp2_with (first
    | (go_at_call 68;(with_reducible refine(HPL.out _ ?_).mono ?_);exact below_alloc2 _ _ _;rintro en w1 ⟨rfl,hb1⟩;have x1:=zac hb1 (g:=w.heap.size) ((zaj (by simp)).trans (alloc_at rfl)) (by simp;omega);have y1:=zac hb1 (g:=w.heap.size+1) (alloc_at (by simp)) (by simp);have q8:w1.cell? ⟨w.heap.size,8,none⟩=some (.slice (some ⟨mb,0,none⟩) 256 cm):=zaa x1 8;have c1:=zaP (own_below HM.out ((below_alloc2 w _ _).trans (hb1.mono (by simp;omega))) (Nat.le_refl _)) hk;have l1:w.heap.size+1<w1.heap.size:=(by have:=hb1.size;simp at this;omega);have HB1:=Lib.hid ((below_alloc2 w _ _).trans (hb1.mono (by simp;omega)));have g0:=zab y1 0;have g1:=zab y1 1;have g2:=zab y1 2;have g3:=zab y1 3;have p0:w1.cell? ⟨w.heap.size+1,0,none⟩=some (.int .i64 0):=zaa y1 0;have p1:w1.cell? ⟨w.heap.size+1,1,none⟩=some (.int .i64 0):=zaa y1 1;have p2:w1.cell? ⟨w.heap.size+1,2,none⟩=some (.int .i64 0):=zaa y1 2;have p3:w1.cell? ⟨w.heap.size+1,3,none⟩=some (.int .i64 0):=zaa y1 3;have lm1:mb<w1.heap.size:=(by omega);have HY:=Lib.hid y1;rw[HZ.out] at c1;clear x1 y1 hb1)
    | (go_at_call 81;refine(HD.out _).mono ?_;rintro en w2 ⟨rfl,hb2⟩;have x2:=zac hb2 HY.out l1;have q0:w2.cell? ⟨w.heap.size+1,0,none⟩=some (.int .i64 0):=zaa x2 0;have q1:w2.cell? ⟨w.heap.size+1,1,none⟩=some (.int .i64 0):=zaa x2 1;have q2:w2.cell? ⟨w.heap.size+1,2,none⟩=some (.int .i64 0):=zaa x2 2;have q3:w2.cell? ⟨w.heap.size+1,3,none⟩=some (.int .i64 0):=zaa x2 3;have k0:=zab x2 0;have k1:=zab x2 1;have k2:=zab x2 2;have k3:=zab x2 3;have l2:w.heap.size+1<w2.heap.size:=(by have:=hb2.size;omega);have HB2:=Lib.hid (HB1.out.trans (hb2.mono HB1.out.size));clear x2 hb2 p0 p1 p2 p3 g0 g1 g2 g3))
   refine bodyPost_ret (v:=.tuple #[.agg #[.int .i64 o1,.int .i64 o2,.int .i64 o3,.int .i64 o4],.int .i64 0]) (by simp[results,Tryd.results66,go_sem,q0,q1,q2,q3,l2]) rfl (And.intro ?_ ?_)
   ·rw[HE.out];simp only[zbS,if_true,HV.out]
   ·
    go_grown
    exact HB2.out
  ·
   have HE:Hid (nz=(0,2)):=Lib.hid (by rw[HN.out,if_neg (by simp),if_pos hc])
   have HV:Hid (decV z=.agg #[.int .i64 0,.int .i64 0,.int .i64 0,.int .i64 0]):=Lib.hid (by unfold decV;rw[if_neg hc])
   have hb1:(decC z != 0)=true:=by rw[bne_iff_ne];exact hc
   rw[HV.out] at HD
   clear HN hc HV
   generalize decC z=c at *
   go_enter Tryd.func66,Tryd.ntmps66
   go_wp2_with (first
    | (go_at_call 68;(with_reducible refine(HPL.out _ ?_).mono ?_);exact below_alloc2 _ _ _;rintro en w1 ⟨rfl,hb1⟩;have x1:=zac hb1 (g:=w.heap.size) ((zaj (by simp)).trans (alloc_at rfl)) (by simp;omega);have y1:=zac hb1 (g:=w.heap.size+1) (alloc_at (by simp)) (by simp);have q8:w1.cell? ⟨w.heap.size,8,none⟩=some (.slice (some ⟨mb,0,none⟩) 256 cm):=zaa x1 8;have c1:=zaP (own_below HM.out ((below_alloc2 w _ _).trans (hb1.mono (by simp;omega))) (Nat.le_refl _)) hk;have l1:w.heap.size+1<w1.heap.size:=(by have:=hb1.size;simp at this;omega);have HB1:=Lib.hid ((below_alloc2 w _ _).trans (hb1.mono (by simp;omega)));have g0:=zab y1 0;have g1:=zab y1 1;have g2:=zab y1 2;have g3:=zab y1 3;have p0:w1.cell? ⟨w.heap.size+1,0,none⟩=some (.int .i64 0):=zaa y1 0;have p1:w1.cell? ⟨w.heap.size+1,1,none⟩=some (.int .i64 0):=zaa y1 1;have p2:w1.cell? ⟨w.heap.size+1,2,none⟩=some (.int .i64 0):=zaa y1 2;have p3:w1.cell? ⟨w.heap.size+1,3,none⟩=some (.int .i64 0):=zaa y1 3;have lm1:mb<w1.heap.size:=(by omega);have HY:=Lib.hid y1;rw[HZ.out] at c1;clear x1 y1 hb1)
    | (go_at_call 81;refine(HD.out _).mono ?_;rintro en w2 ⟨rfl,hb2⟩;have x2:=zac hb2 HY.out l1;have q0:w2.cell? ⟨w.heap.size+1,0,none⟩=some (.int .i64 0):=zaa x2 0;have q1:w2.cell? ⟨w.heap.size+1,1,none⟩=some (.int .i64 0):=zaa x2 1;have q2:w2.cell? ⟨w.heap.size+1,2,none⟩=some (.int .i64 0):=zaa x2 2;have q3:w2.cell? ⟨w.heap.size+1,3,none⟩=some (.int .i64 0):=zaa x2 3;have k0:=zab x2 0;have k1:=zab x2 1;have k2:=zab x2 2;have k3:=zab x2 3;have l2:w.heap.size+1<w2.heap.size:=(by have:=hb2.size;omega);have HB2:=Lib.hid (HB1.out.trans (hb2.mono HB1.out.size));clear x2 hb2 p0 p1 p2 p3 g0 g1 g2 g3))
   refine bodyPost_ret (v:=.tuple #[.agg #[.int .i64 0,.int .i64 0,.int .i64 0,.int .i64 0],.int .i64 2]) (by simp[results,Tryd.results66,go_sem,q0,q1,q2,q3,l2]) rfl (And.intro ?_ ?_)
   ·rw[HE.out];rfl
   ·
    go_grown
    exact HB2.out
 ·
  have HE:Hid (nz=(0,e)):=Lib.hid (by rw[HN.out,if_pos he])
  have HV:Hid (zbS (0,e)=.agg #[.int .i64 0,.int .i64 0,.int .i64 0,.int .i64 0]):=Lib.hid (by unfold zbS;rw[if_neg he])
  have hb1:(e != 0)=true:=by rw[bne_iff_ne];exact he
  clear HN he
  go_enter Tryd.func66,Tryd.ntmps66
  go_wp2_with (first
    | (go_at_call 68;(with_reducible refine(HPL.out _ ?_).mono ?_);exact below_alloc2 _ _ _;rintro en w1 ⟨rfl,hb1⟩;have x1:=zac hb1 (g:=w.heap.size) ((zaj (by simp)).trans (alloc_at rfl)) (by simp;omega);have y1:=zac hb1 (g:=w.heap.size+1) (alloc_at (by simp)) (by simp);have q8:w1.cell? ⟨w.heap.size,8,none⟩=some (.slice (some ⟨mb,0,none⟩) 256 cm):=zaa x1 8;have c1:=zaP (own_below HM.out ((below_alloc2 w _ _).trans (hb1.mono (by simp;omega))) (Nat.le_refl _)) hk;have l1:w.heap.size+1<w1.heap.size:=(by have:=hb1.size;simp at this;omega);have HB1:=Lib.hid ((below_alloc2 w _ _).trans (hb1.mono (by simp;omega)));have g0:=zab y1 0;have g1:=zab y1 1;have g2:=zab y1 2;have g3:=zab y1 3;have p0:w1.cell? ⟨w.heap.size+1,0,none⟩=some (.int .i64 0):=zaa y1 0;have p1:w1.cell? ⟨w.heap.size+1,1,none⟩=some (.int .i64 0):=zaa y1 1;have p2:w1.cell? ⟨w.heap.size+1,2,none⟩=some (.int .i64 0):=zaa y1 2;have p3:w1.cell? ⟨w.heap.size+1,3,none⟩=some (.int .i64 0):=zaa y1 3;have lm1:mb<w1.heap.size:=(by omega);have HY:=Lib.hid y1;rw[HZ.out] at c1;clear x1 y1 hb1)
    | (go_at_call 81;refine(HD.out _).mono ?_;rintro en w2 ⟨rfl,hb2⟩;have x2:=zac hb2 HY.out l1;have q0:w2.cell? ⟨w.heap.size+1,0,none⟩=some (.int .i64 0):=zaa x2 0;have q1:w2.cell? ⟨w.heap.size+1,1,none⟩=some (.int .i64 0):=zaa x2 1;have q2:w2.cell? ⟨w.heap.size+1,2,none⟩=some (.int .i64 0):=zaa x2 2;have q3:w2.cell? ⟨w.heap.size+1,3,none⟩=some (.int .i64 0):=zaa x2 3;have k0:=zab x2 0;have k1:=zab x2 1;have k2:=zab x2 2;have k3:=zab x2 3;have l2:w.heap.size+1<w2.heap.size:=(by have:=hb2.size;omega);have HB2:=Lib.hid (HB1.out.trans (hb2.mono HB1.out.size));clear x2 hb2 p0 p1 p2 p3 g0 g1 g2 g3))
  refine bodyPost_ret (v:=.tuple #[.agg #[.int .i64 0,.int .i64 0,.int .i64 0,.int .i64 0],.int .i64 e]) (by simp[results,Tryd.results66,go_sem,p0,p1,p2,p3]) rfl (And.intro ?_ ?_)
  ·rw[HE.out];simp only[HV.out]
  ·
   go_grown
   exact HB1.out
end Go.Proofs.YtflonfcemlfbdaaDoor
namespace Go.Proofs.YtflonfcemlfbdaaDoor
open Go Go.RowKit Go.ChangeShapes Go.WideShapes Go.Deep
set_option linter.unusedVariables false
structure ZSt(w0:World)(D:Nat→Prop)(rb bb gr cr mb cm:Nat)(m:Mach)(ao:Option Addr)(co:Nat)(w:World):Prop where
 box:w.heap[bb]?=some (.cells #[.slice (some ⟨gr,0,none⟩) 8 cr,.int .i64 m.pc,.int .i64 m.back,.bool m.ints,.bool m.wait,.int .i64 m.table,.int .i64 m.count,.int .i64 m.fin,.slice (some ⟨mb,0,none⟩) 256 cm,.slice ao m.out.length co,.int .i64 m.ready,.int .i64 m.want] 48 (0,0))
 rbox:w.heap[rb]?=some (.cells #[.slice none 0 0,.int .i64 0,.int .i64 0,.bool false,.bool false,.int .i64 0,.int .i64 0,.int .i64 0,.slice none 0 0,.slice none 0 0,.int .i64 0,.int .i64 0] 48 (0,0))
 regs:w.ownsRow 0 3 1 (.slice (some ⟨gr,0,none⟩) 8 cr) 8 (m.regs.map (Value.int .i64))
 mem:w.ownsRow 0 3 1 (.slice (some ⟨mb,0,none⟩) 256 cm) 256 (m.mem.map (Value.int .i64))
 out:w.ownsRow 0 3 1 (.slice ao m.out.length co) m.out.length (m.out.map (Value.int .i64))
 ne:rb≠bb
 rm:gr≠mb
 ro:(Value.slice ao m.out.length co).ownBlock≠some gr
 mo:(Value.slice ao m.out.length co).ownBlock≠some mb
 old:OutF D w0 w
 lb:D bb∨w0.heap.size≤bb
 lr:D gr∨w0.heap.size≤gr
 lm:D mb∨w0.heap.size≤mb
 lo:∀g,(Value.slice ao m.out.length co).ownBlock=some g→D g∨w0.heap.size≤g
def ZS(w0:World)(D:Nat→Prop)(rb bb gr cr mb cm:Nat)(m:Mach)(w:World):Prop:=∃ao co,ZSt w0 D rb bb gr cr mb cm m ao co w
section
variable {w0 w:World} {D:Nat→Prop} {rb bb gr cr mb cm:Nat} {m:Mach} {ao:Option Addr} {co:Nat}
theorem ZSt.zs(h:ZSt w0 D rb bb gr cr mb cm m ao co w):ZS w0 D rb bb gr cr mb cm m w:=⟨ao,co,h⟩
theorem ZSt.blt(h:ZSt w0 D rb bb gr cr mb cm m ao co w):bb<w.heap.size:=(Array.getElem?_eq_some_iff.1 h.box).1
theorem ZSt.rbl(h:ZSt w0 D rb bb gr cr mb cm m ao co w):rb<w.heap.size:=(Array.getElem?_eq_some_iff.1 h.rbox).1
theorem ZSt.rlt(h:ZSt w0 D rb bb gr cr mb cm m ao co w):gr<w.heap.size:=(h.regs.lt gr rfl).2
theorem ZSt.mlt(h:ZSt w0 D rb bb gr cr mb cm m ao co w):mb<w.heap.size:=(h.mem.lt mb rfl).2
theorem ZSt.grb(h:ZSt w0 D rb bb gr cr mb cm m ao co w):gr≠bb:=fun e=>by subst e;exact zad h.regs h.box (by decide) rfl
theorem ZSt.grr(h:ZSt w0 D rb bb gr cr mb cm m ao co w):gr≠rb:=fun e=>by subst e;exact zad h.regs h.rbox (by decide) rfl
theorem ZSt.mbb(h:ZSt w0 D rb bb gr cr mb cm m ao co w):mb≠bb:=fun e=>by subst e;exact zad h.mem h.box (by decide) rfl
theorem ZSt.mbr(h:ZSt w0 D rb bb gr cr mb cm m ao co w):mb≠rb:=fun e=>by subst e;exact zad h.mem h.rbox (by decide) rfl
theorem ZSt.one(h:ZSt w0 D rb bb gr cr mb cm m ao co w):(Value.slice ao m.out.length co).ownBlock≠some bb:=(zad h.out h.box (by decide)).symm
theorem ZSt.onr(h:ZSt w0 D rb bb gr cr mb cm m ao co w):(Value.slice ao m.out.length co).ownBlock≠some rb:=(zad h.out h.rbox (by decide)).symm
theorem ZSt.reg_at(h:ZSt w0 D rb bb gr cr mb cm m ao co w){a:Nat}(ha:a<8):w.cell? ⟨gr,a,none⟩=some (.int .i64 (m.reg a)):=by
 have:=zaP h.regs ha
 rw[this];unfold Mach.reg;rw[Int.toNat_natCast]
theorem ZSt.mem_at(h:ZSt w0 D rb bb gr cr mb cm m ao co w){k:Nat}(hk:k<256):w.cell? ⟨mb,k,none⟩=some (.int .i64 (m.mem.getD k 0)):=zaP h.mem hk
theorem ZSt.kept(h:ZSt w0 D rb bb gr cr mb cm m ao co w){w':World}(hb:Below w.heap.size w w'):ZSt w0 D rb bb gr cr mb cm m ao co w':=
 ⟨zac hb h.box h.blt,zac hb h.rbox h.rbl,own_below h.regs hb (Nat.le_refl _),own_below h.mem hb (Nat.le_refl _),own_below h.out hb (Nat.le_refl _),h.ne,h.rm,h.ro,h.mo,h.old.trans (OutF.of hb (fun _=>False)) (fun _ q=>q.elim),h.lb,h.lr,h.lm,h.lo⟩
theorem ZSt.alloc(h:ZSt w0 D rb bb gr cr mb cm m ao co w)(o:Obj):ZSt w0 D rb bb gr cr mb cm m ao co (w.alloc o):=h.kept (zai w o)
theorem ZSt.drewN(h:ZSt w0 D rb bb gr cr mb cm m ao co w)(n:Nat):ZSt w0 D rb bb gr cr mb cm m ao co (w.drewN n):=h.kept (below_drewN (Below.refl _ _) n)
theorem ZSt.drew(h:ZSt w0 D rb bb gr cr mb cm m ao co w):ZSt w0 D rb bb gr cr mb cm m ao co w.drew:=h.drewN 1
theorem ZSt.put (h : ZSt w0 D rb bb gr cr mb cm m ao co w) (i : Nat) (u : Value) (m' : Mach)
  (hb:(#[.slice (some ⟨gr,0,none⟩) 8 cr,.int .i64 m.pc,.int .i64 m.back,.bool m.ints,.bool m.wait,.int .i64 m.table,.int .i64 m.count,.int .i64 m.fin,.slice (some ⟨mb,0,none⟩) 256 cm,.slice ao m.out.length co,.int .i64 m.ready,.int .i64 m.want]:Array Value).setIfInBounds i u=#[.slice (some ⟨gr,0,none⟩) 8 cr,.int .i64 m'.pc,.int .i64 m'.back,.bool m'.ints,.bool m'.wait,.int .i64 m'.table,.int .i64 m'.count,.int .i64 m'.fin,.slice (some ⟨mb,0,none⟩) 256 cm,.slice ao m.out.length co,.int .i64 m'.ready,.int .i64 m'.want])
  (hr:m'.regs=m.regs) (hm:m'.mem=m.mem) (ho:m'.out=m.out):ZSt w0 D rb bb gr cr mb cm m' ao co (w.setCell ⟨bb,i,none⟩ u):=by
 have hg:w.grownBy (w.setCell ⟨bb,i,none⟩ u) (some bb):=za6 w bb i u
 refine⟨?_,?_,?_,?_,?_,h.ne,h.rm,by rw[ho];exact h.ro,by rw[ho];exact h.mo,h.old.setCell h.lb u,h.lb,h.lr,h.lm,by rw[ho];exact h.lo⟩
 ·rw[ho,←hb];exact zaf h.box u
 ·exact zah h.rbox h.ne u
 ·rw[hr];exact h.regs.kept hg (Or.inr (by have:=h.grb;simp[Value.ownBlock];exact this))
 ·rw[hm];exact h.mem.kept hg (Or.inr (by have:=h.mbb;simp[Value.ownBlock];exact this))
 ·rw[ho];exact h.out.kept hg (Or.inr h.one)
theorem ZSt.setReg(h:ZSt w0 D rb bb gr cr mb cm m ao co w)(a:Nat)(z:Int):ZSt w0 D rb bb gr cr mb cm (m.setReg a z) ao co (w.setCell ⟨gr,a,none⟩ (.int .i64 z)):=by
 obtain⟨hs,hg⟩:=h.regs.stored a (.int .i64 z)
 refine⟨zah h.box (fun e=>h.grb e.symm) _,zah h.rbox (fun e=>h.grr e.symm) _,?_,h.mem.kept hg (Or.inr (by have:=h.rm;simp[Value.ownBlock];exact fun e=>this e.symm)),h.out.kept hg (Or.inr h.ro),h.ne,h.rm,h.ro,h.mo,h.old.setCell h.lr _,h.lb,h.lr,h.lm,h.lo⟩
 show World.ownsRow _ _ _ _ _ _ ((m.regs.set (a:Int).toNat z).map _)
 rw[List.map_set,Int.toNat_natCast];exact hs
theorem ZSt.setMem(h:ZSt w0 D rb bb gr cr mb cm m ao co w)(k:Nat)(z:Int):ZSt w0 D rb bb gr cr mb cm {m with mem:=m.mem.set k z} ao co (w.setCell ⟨mb,k,none⟩ (.int .i64 z)):=by
 obtain⟨hs,hg⟩:=h.mem.stored k (.int .i64 z)
 refine⟨zah h.box (fun e=>h.mbb e.symm) _,zah h.rbox (fun e=>h.mbr e.symm) _,h.regs.kept hg (Or.inr (by have:=h.rm;simp[Value.ownBlock];exact this)),?_,h.out.kept hg (Or.inr h.mo),h.ne,h.rm,h.ro,h.mo,h.old.setCell h.lm _,h.lb,h.lr,h.lm,h.lo⟩
 show World.ownsRow _ _ _ _ _ _ ((m.mem.set k z).map _)
 rw[List.map_set];exact hs
theorem ZSt.tell(h:ZSt w0 D rb bb gr cr mb cm m ao co w){w':World}{z:Int}{a':Option Addr}{cap:Nat}(hg:w.grownBy w' (Value.slice ao m.out.length co).ownBlock)(hn:w'.ownsRow 0 3 1 (.slice a' (m.out.length+1) cap) (m.out.length+1) (m.out.map (Value.int .i64)++[.int .i64 z]))(hnew:(Value.slice a' (m.out.length+1) cap).ownBlock=(Value.slice ao m.out.length co).ownBlock∨(Value.slice a' (m.out.length+1) cap).ownBlock=some w.heap.size):ZSt w0 D rb bb gr cr mb cm {m with out:=m.out++[z]} a' cap (w'.setCell ⟨bb,9,none⟩ (.slice a' (m.out.length+1) cap)):=by
 have hcb:w'.heap[bb]?=w.heap[bb]?:=hg.block bb h.blt (fun e=>h.one e.symm)
 have hrb:w'.heap[rb]?=w.heap[rb]?:=hg.block rb h.rbl (fun e=>h.onr e.symm)
 have hlen:(m.out++[z]).length=m.out.length+1:=by simp
 have hgs:w'.grownBy (w'.setCell ⟨bb,9,none⟩ (.slice a' (m.out.length+1) cap)) (some bb):=za6 w' bb 9 _
 have hx:∀{k:Nat},k<w.heap.size→(Value.slice ao m.out.length co).ownBlock≠some k→(Value.slice a' (m.out.length+1) cap).ownBlock≠some k:=by
  intro k hk hne
  rcases hnew with e|e
  ·rw[e];exact hne
  ·rw[e];intro q;injection q with q;omega
 refine⟨?_,zah (hrb.trans h.rbox) h.ne _,?_,?_,?_,h.ne,h.rm,?_,?_,?_,h.lb,h.lr,h.lm,?_⟩
 ·
  have hb:=zaf (i:=9) (hcb.trans h.box) (.slice a' (m.out++[z]).length cap)
  rw[hlen] at hb
  show _=some (Obj.cells #[.slice (some ⟨gr,0,none⟩) 8 cr,.int .i64 m.pc,.int .i64 m.back,.bool m.ints,.bool m.wait,.int .i64 m.table,.int .i64 m.count,.int .i64 m.fin,.slice (some ⟨mb,0,none⟩) 256 cm,.slice a' (m.out++[z]).length cap,.int .i64 m.ready,.int .i64 m.want] _ _)
  rw[hlen]
  exact hb
 ·exact(h.regs.kept hg (Or.inr (fun e=>h.ro e.symm))).kept hgs (Or.inr (by have:=h.grb;simp[Value.ownBlock];exact this))
 ·exact(h.mem.kept hg (Or.inr (fun e=>h.mo e.symm))).kept hgs (Or.inr (by have:=h.mbb;simp[Value.ownBlock];exact this))
 ·
  show World.ownsRow _ _ _ _ (.slice _ (m.out++[z]).length _) (m.out++[z]).length ((m.out++[z]).map _)
  rw[hlen,List.map_append]
  exact hn.kept hgs (Or.inr (hx h.blt h.one))
 ·
  show (Value.slice a' (m.out++[z]).length cap).ownBlock≠some gr
  rw[hlen];exact hx h.rlt h.ro
 ·
  show (Value.slice a' (m.out++[z]).length cap).ownBlock≠some mb
  rw[hlen];exact hx h.mlt h.mo
 ·exact(h.old.grown hg (fun k hk=>h.lo k hk)).setCell h.lb _
 ·
  show ∀g,(Value.slice a' (m.out++[z]).length cap).ownBlock=some g→_
  rw[hlen]
  intro g e
  rcases hnew with q|q
  ·rw[q] at e;exact h.lo g e
  ·rw[q] at e;injection e with e;exact Or.inr (by have:=h.old.size;omega)
end
theorem zho{m:Mach}(h:m.fin=0)(irq x:Bool)(hx:(m.wait || irq)=x):irqM m irq={m with wait:=x}:=by
 subst hx
 unfold irqM
 cases irq with
 | true=>rw[if_pos ⟨h,rfl⟩];simp
 | false=>rw[if_neg (fun k=>by cases k.2)];simp
theorem zbk(m:Mach)(irq:Bool):(irqM m irq).fin=m.fin∧(irqM m irq).count=m.count:=by
 unfold irqM;split<;>exact⟨rfl,rfl⟩
theorem za1(m:Mach)(b:List Int):(zat m b).fin=m.fin∧(zat m b).count=m.count:=by
 unfold zat za8;repeat' split
 all_goals exact⟨rfl,rfl⟩
theorem zaV(m:Mach):(zax m).fin=m.fin∧(zax m).count=m.count:=by
 unfold zax;split<;>exact⟨rfl,rfl⟩
theorem zb4{m:Mach}(h:m.fin≠0)(irq:Bool)(b:List Int)(v:Int):zbe m irq b v=(m,-1):=by
 have h1:irqM m irq=m:=by unfold irqM;rw[if_neg (fun k=>h k.1)]
 have h2:zat m b=m:=by
  unfold zat za8;split
  ·rfl
  ·rw[if_pos (Or.inr h)]
 have h3:zax m=m:=by unfold zax;rw[if_neg (fun k=>h k.2.2)]
 unfold zbe
 rw[h1,h2,h3]
 unfold za3
 rw[if_pos h]
def setC(c:Int)(r:Mach×Int×Int):Mach×Int×Int:=({r.1 with count:=c},r.2)
theorem ziG(m:Mach)(c op a b n v:Int):doM {m with count:=c} op a b n v=setC c (doM m op a b n v):=by
 unfold doM
 simp only[apply_ite (setC c)]
 by_cases hw:m.want<0
 ·
  simp only[if_pos hw]
  rfl
 ·
  simp only[if_neg hw]
  rfl
def ranM(m:Mach)(v:Int):Mach×Int:=
 if (zal m).2≠0 then ({m with fin:=(zal m).2},-1)
 else ({(doM m (zaM (zal m).1) (decA (zal m).1) (decB (zal m).1) (decN (zal m).1) v).1 with fin:=(doM m (zaM (zal m).1) (decA (zal m).1) (decB (zal m).1) (decN (zal m).1) v).2.1},(doM m (zaM (zal m).1) (decA (zal m).1) (decB (zal m).1) (decN (zal m).1) v).2.2)
theorem zd8{m:Mach}(h:m.fin=0)(v:Int):za3 m v=ranM {m with count:=m.count+1} v:=by
 unfold za3 ranM
 rw[if_neg (by simpa using h)]
 rw[show zal {m with count:=m.count+1}=zal m from rfl]
 split
 ·rfl
 ·
  rw[ziG m (m.count+1)]
  rfl
def RanR(m5:Mach)(nx wr:Int)(r:Mach×Int×Int):Prop:=
 (m5.fin=0∧r=(m5.goTo nx,0,wr))∨(m5.fin≠0∧r=({m5 with fin:=0},m5.fin,wr))
theorem zdB{m:Mach}(h:m.fin=0):({m with fin:=0}:Mach)=m:=by rw[←h]
theorem RanR.bad{m:Mach}(h:m.fin=0){e:Int}(he:e≠0)(nx:Int){r:Mach×Int×Int}(hr:r=(m,e,-1)):RanR {m with fin:=e} nx (-1) r:=by
 subst hr
 exact Or.inr ⟨he,by show _=(({m with fin:=0}:Mach),_,_);rw[zdB h]⟩
theorem RanR.go{m5:Mach}{nx wr:Int}{r:Mach×Int×Int}(h0:m5.fin=0)(h:RanR m5 nx wr r):(({r.1 with fin:=r.2.1}:Mach),r.2.2)=(m5.goTo nx,wr):=by
 rcases h with⟨_,rfl⟩|⟨h,_⟩
 ·
  have:({(m5.goTo nx) with fin:=0}:Mach)=m5.goTo nx:=by unfold Mach.goTo;rw[←h0]
  dsimp only;rw[this]
 ·exact absurd h0 h
theorem RanR.stop{m5:Mach}{nx wr:Int}{r:Mach×Int×Int}(h0:m5.fin≠0)(h:RanR m5 nx wr r):(({r.1 with fin:=r.2.1}:Mach),r.2.2)=(m5,wr):=by
 rcases h with⟨h,_⟩|⟨_,rfl⟩
 ·exact absurd h h0
 ·rfl
structure ZM(w0:World)(D:Nat→Prop)(rb gr cr mb cm:Nat)(m:Mach)(ao:Option Addr)(co:Nat)(w:World):Prop where
 rbox:∃cs,w.heap[rb]?=some (.cells cs 48 (0,0))
 regs:w.ownsRow 0 3 1 (.slice (some ⟨gr,0,none⟩) 8 cr) 8 (m.regs.map (Value.int .i64))
 mem:w.ownsRow 0 3 1 (.slice (some ⟨mb,0,none⟩) 256 cm) 256 (m.mem.map (Value.int .i64))
 out:w.ownsRow 0 3 1 (.slice ao m.out.length co) m.out.length (m.out.map (Value.int .i64))
 rm:gr≠mb
 ro:(Value.slice ao m.out.length co).ownBlock≠some gr
 mo:(Value.slice ao m.out.length co).ownBlock≠some mb
 old:OutF D w0 w
 lr:D gr∨w0.heap.size≤gr
 lm:D mb∨w0.heap.size≤mb
 lo:∀g,(Value.slice ao m.out.length co).ownBlock=some g→D g∨w0.heap.size≤g
section
variable {w0 w:World} {D:Nat→Prop} {rb bb gr cr mb cm:Nat} {m:Mach} {ao:Option Addr} {co:Nat}
theorem ZSt.zm(h:ZSt w0 D rb bb gr cr mb cm m ao co w):ZM w0 D rb gr cr mb cm m ao co w:=⟨⟨_,h.rbox⟩,h.regs,h.mem,h.out,h.rm,h.ro,h.mo,h.old,h.lr,h.lm,h.lo⟩
theorem ZM.step(h:ZM w0 D rb gr cr mb cm m ao co w)(hr:D rb∨w0.heap.size≤rb)(i:Nat)(u:Value):ZM w0 D rb gr cr mb cm m ao co (w.setCell ⟨rb,i,none⟩ u):=by
 obtain⟨cs,hb⟩:=h.rbox
 have hg:w.grownBy (w.setCell ⟨rb,i,none⟩ u) (some rb):=za6 w rb i u
 have n1:=zad h.regs hb (by decide)
 have n2:=zad h.mem hb (by decide)
 have n3:=zad h.out hb (by decide)
 exact⟨⟨_,zaf hb u⟩,h.regs.kept hg (Or.inr (fun e=>n1 e.symm)),h.mem.kept hg (Or.inr (fun e=>n2 e.symm)),h.out.kept hg (Or.inr (fun e=>n3 e.symm)),h.rm,h.ro,h.mo,h.old.setCell hr u,h.lr,h.lm,h.lo⟩
theorem ZM.drew(h:ZM w0 D rb gr cr mb cm m ao co w):ZM w0 D rb gr cr mb cm m ao co w.drew:=⟨h.rbox,h.regs,h.mem,h.out,h.rm,h.ro,h.mo,h.old.drewN 1,h.lr,h.lm,h.lo⟩
end
structure ZA(w0:World)(D:Nat→Prop)(gr cr mb cm:Nat)(m:Mach)(ao:Option Addr)(co:Nat)(w:World):Prop where
 regs:w.ownsRow 0 3 1 (.slice (some ⟨gr,0,none⟩) 8 cr) 8 (m.regs.map (Value.int .i64))
 mem:w.ownsRow 0 3 1 (.slice (some ⟨mb,0,none⟩) 256 cm) 256 (m.mem.map (Value.int .i64))
 out:w.ownsRow 0 3 1 (.slice ao m.out.length co) m.out.length (m.out.map (Value.int .i64))
 rm:gr≠mb
 ro:(Value.slice ao m.out.length co).ownBlock≠some gr
 mo:(Value.slice ao m.out.length co).ownBlock≠some mb
 old:OutF D w0 w
 lr:D gr∨w0.heap.size≤gr
 lm:D mb∨w0.heap.size≤mb
 lo:∀g,(Value.slice ao m.out.length co).ownBlock=some g→D g∨w0.heap.size≤g
theorem ZM.za{w0 w:World}{D:Nat→Prop}{rb gr cr mb cm:Nat}{m:Mach}{ao:Option Addr}{co:Nat}(h:ZM w0 D rb gr cr mb cm m ao co w):ZA w0 D gr cr mb cm m ao co w:=⟨h.regs,h.mem,h.out,h.rm,h.ro,h.mo,h.old,h.lr,h.lm,h.lo⟩
theorem ZA.kept{w0 w w':World}{D:Nat→Prop}{gr cr mb cm:Nat}{m:Mach}{ao:Option Addr}{co:Nat}(h:ZA w0 D gr cr mb cm m ao co w)(hb:Below w.heap.size w w'):ZA w0 D gr cr mb cm m ao co w':=
 ⟨own_below h.regs hb (Nat.le_refl _),own_below h.mem hb (Nat.le_refl _),own_below h.out hb (Nat.le_refl _),h.rm,h.ro,h.mo,h.old.trans (OutF.of hb (fun _=>False)) (fun _ q=>q.elim),h.lr,h.lm,h.lo⟩
theorem ZA.lt{w0 w:World}{D:Nat→Prop}{gr cr mb cm:Nat}{m:Mach}{ao:Option Addr}{co:Nat}(h:ZA w0 D gr cr mb cm m ao co w):gr<w.heap.size∧mb<w.heap.size:=⟨(h.regs.lt gr rfl).2,(h.mem.lt mb rfl).2⟩
theorem ZA.start{w0 w:World}{D:Nat→Prop}{gr cr mb cm:Nat}{m:Mach}{ao:Option Addr}{co:Nat}(h:ZA w0 D gr cr mb cm m ao co w):ZSt w0 D (w.heap.size+1) w.heap.size gr cr mb cm m ao co ((w.alloc (.cells #[.slice (some ⟨gr,0,none⟩) 8 cr,.int .i64 m.pc,.int .i64 m.back,.bool m.ints,.bool m.wait,.int .i64 m.table,.int .i64 m.count,.int .i64 m.fin,.slice (some ⟨mb,0,none⟩) 256 cm,.slice ao m.out.length co,.int .i64 m.ready,.int .i64 m.want] 48 (0,0))).alloc (.cells #[.slice none 0 0,.int .i64 0,.int .i64 0,.bool false,.bool false,.int .i64 0,.int .i64 0,.int .i64 0,.slice none 0 0,.slice none 0 0,.int .i64 0,.int .i64 0] 48 (0,0))):=by
 have k:=h.kept (below_alloc2 w (.cells #[.slice (some ⟨gr,0,none⟩) 8 cr,.int .i64 m.pc,.int .i64 m.back,.bool m.ints,.bool m.wait,.int .i64 m.table,.int .i64 m.count,.int .i64 m.fin,.slice (some ⟨mb,0,none⟩) 256 cm,.slice ao m.out.length co,.int .i64 m.ready,.int .i64 m.want] 48 (0,0)) (.cells #[.slice none 0 0,.int .i64 0,.int .i64 0,.bool false,.bool false,.int .i64 0,.int .i64 0,.int .i64 0,.slice none 0 0,.slice none 0 0,.int .i64 0,.int .i64 0] 48 (0,0)))
 exact⟨(zaj (by simp)).trans (alloc_at rfl),alloc_at (by simp),k.regs,k.mem,k.out,by omega,k.rm,k.ro,k.mo,k.old,Or.inr h.old.size,k.lr,k.lm,k.lo⟩
def zd9(w0:World)(D:Nat→Prop)(gr cr mb cm:Nat)(r:Mach×Int)(e:Ending)(w':World):Prop:=∃ao co,e=.returned (.tuple #[.agg #[.slice (some ⟨gr,0,none⟩) 8 cr,.int .i64 r.1.pc,.int .i64 r.1.back,.bool r.1.ints,.bool r.1.wait,.int .i64 r.1.table,.int .i64 r.1.count,.int .i64 r.1.fin,.slice (some ⟨mb,0,none⟩) 256 cm,.slice ao r.1.out.length co,.int .i64 r.1.ready,.int .i64 r.1.want],.int .i64 r.2])∧ZA w0 D gr cr mb cm r.1 ao co w'
end Go.Proofs.YtflonfcemlfbdaaDoor
