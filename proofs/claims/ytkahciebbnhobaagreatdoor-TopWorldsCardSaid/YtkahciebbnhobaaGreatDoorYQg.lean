/- Record's loop. No condition beyond the readings. -/
import Derived.Test.YtkahciebbnhobaaGreatDoorYQd
import Derived.Handy
import Derived.StillTailTactics
import Derived.Deep.RegionWith
import Derived.Deep.RegionLaw
import Derived.Deep.CutBlock
import Derived.Deep.CutRange
import Derived.Deep.RegionHeld3
import Derived.Deep.LoopGhost
namespace Go.Proofs.YtkahciebbnhobaaGreatDoor
open Go Go.RowKit Go.ChangeShapes Go.WideShapes Go.Deep
set_option maxHeartbeats 8000000
set_option maxRecDepth 100000
set_option linter.unusedVariables false
attribute [local go_sem ↓] Go.wp_at_zero Go.wp_at_succ
theorem rc_loop {w W1 wz:World} {cb ob gr cr mb cm:Nat} {img is vs:List Int} {bs:List (List Int)} {ds:List Int} {n:Int} {C0:Nat→Prop} {K:Act→World→Prop}  {x0 x1 x3 x4 x5 x8 x9 x10 x11 x16 x17 x18 x19 x20 x21 x22 x23 x24 x25 x26 x27 x28 x29 x30 x31 x32 x33 x34 x35 x36 x37 x38 x39 x40 x41 x42 x43 x44 x45 x46 x47 x48 x49 x50 x51 x52 x53 x54 x55 x56 x57 x58 x59 x60 x61 x62 x63 x64 x65 x66 x67 x68 x69 x70 x71 x72 x73 x74 x75 x76 x77 x78 x79 x80 x81 x82 x83 x84 x85 x86 x87 x88 x89 x90 x91 x92 x93 x94 x95 x96 x97 x98 x99 x100 x101 x102 x103 x104 x105 x106 x107 x108 x109 x110 x111 x112 x113 x114 x115 x116 x117 x118 x119 x120 x121 x122 x123 x124 x125 x126 x127 x128 x129 x130 x131 x132 x133 x134 x135 x136 x137 x138 x139 x140 x141 x142 x143 x144 x145 x146 x147 x148 x149 x150 x151 x152 x153 x154 x155 x156 x157 x158 x159 x160 x161 x162 x163 x164 x165 x166 x167 x168 x169 x170 x171 x172 x173 x174 x175 x176 x177 x178:Value} (HBA:Hid (Below w.heap.size w W1)) (HXM:Hid (W1.heap[w.heap.size+2]? = some (.cells #[.slice none 0 0,.int .i64 0,.int .i64 0,.bool false,.bool false,.int .i64 0,.int .i64 0,.int .i64 0,.slice none 0 0,.slice none 0 0,.int .i64 0,.int .i64 0] 34 (0,0)))) (HXT:Hid (W1.heap[w.heap.size+1]? = some (.cells #[.slice none 0 0,.slice none 0 0,.int .i64 0] 32 (0,0)))) (HNW:Hid (newC img=0∧worldC is vs bs ds=0)) (HN3:Hid (0≤n∧n≤3000)) (HWD:Hid (WdOk is vs bs ds)) (HIM:Hid (MOk (imageM img)∧newM img=imageM img)) (HSTART:Hid (RcS W1 W1.heap.size cb ob gr cr mb cm is vs bs ds (-1) (bs.getD 0 zero16) [] none 0 none 0 0 (imageM img) C0 wz)) (hn0:0≤n) (hn3:n≤3000) (hK:∀ (y8 y61 y62 y63 y64 y65 y66 y67 y68 y69 y70 y71 y72 y73 y74 y75 y76 y77 y78 y79 y80 y81 y82 y83 y84 y85 y86 y87 y88 y89 y90 y91 y92 y93 y94 y95 y96 y97 y98 y99 y100 y101 y102 y103 y104 y105 y106 y107 y108 y109 y110 y111 y112 y113 y114 y115 y116 y117 y118 y119 y120 y121 y122 y123 y124 y125 y126 y127 y128 y129 y130 y131 y132 y133 y134 y135 y136 y137 y138 y139 y140 y141 y142 y143 y144 y145 y146 y147 y148 y149 y150 y151 y152 y153 y154 y155 y156 y157 y158 y159 y160 y161 y162 y163 y164 y165 y166 y167 y168 y169 y170 y171 y172 y173 y174 y175 y176 y177 y178:Value) (s15 s16 s17 s19 s20 s21 s22 s23:Value) (wx:World),(∃ (s:RSs) (ps:List (Ev × Value)) (aa:Option Addr) (ca:Nat) (ak:Option Addr) (nk ck:Nat) (C:Nat→Prop),s15=.slice aa ps.length ca∧Hid (RcS W1 W1.heap.size cb ob gr cr mb cm is (vs.drop s.nv) (bs.drop s.nb) (ds.drop s.nb) s.due (bs.getD (s.nb - 1) zero16) ps aa ca ak nk ck s.m C wx)∧Hid (ps.map (·.1)=s.all)∧Hid (RecOk s)∧Hid (recL is vs bs ds n n.toNat (recS0 img)=(s,false)))→K ⟨List.toArray (x0 :: x1 :: .int .i64 n :: x3 :: x4 :: x5 :: .pointer (some ⟨w.heap.size+1,0,none⟩) :: .pointer (some ⟨w.heap.size+1+1,0,none⟩) :: y8 :: x9 :: x10 :: x11 :: .pointer (some ⟨cb,0,none⟩) :: .slice (some ⟨mb,0,none⟩) 256 cm :: .pointer (some ⟨ob,0,none⟩) :: s15 :: s16 :: s17 :: x18 :: s19 :: s20 :: s21 :: s22 :: s23 :: x24 :: x25 :: x26 :: x27 :: x28 :: x29 :: x30 :: x31 :: x32 :: x33 :: x34 :: x35 :: x36 :: x37 :: x38 :: x39 :: x40 :: x41 :: x42 :: x43 :: x44 :: x45 :: x46 :: x47 :: x48 :: x49 :: x50 :: x51 :: x52 :: x53 :: x54 :: x55 :: x56 :: x57 :: x58 :: x59 :: x60 :: y61 :: y62 :: y63 :: y64 :: y65 :: y66 :: y67 :: y68 :: y69 :: y70 :: y71 :: y72 :: y73 :: y74 :: y75 :: y76 :: y77 :: y78 :: y79 :: y80 :: y81 :: y82 :: y83 :: y84 :: y85 :: y86 :: y87 :: y88 :: y89 :: y90 :: y91 :: y92 :: y93 :: y94 :: y95 :: y96 :: y97 :: y98 :: y99 :: y100 :: y101 :: y102 :: y103 :: y104 :: y105 :: y106 :: y107 :: y108 :: y109 :: y110 :: y111 :: y112 :: y113 :: y114 :: y115 :: y116 :: y117 :: y118 :: y119 :: y120 :: y121 :: y122 :: y123 :: y124 :: y125 :: y126 :: y127 :: y128 :: y129 :: y130 :: y131 :: y132 :: y133 :: y134 :: y135 :: y136 :: y137 :: y138 :: y139 :: y140 :: y141 :: y142 :: y143 :: y144 :: y145 :: y146 :: y147 :: y148 :: y149 :: y150 :: y151 :: y152 :: y153 :: y154 :: y155 :: y156 :: y157 :: y158 :: y159 :: y160 :: y161 :: y162 :: y163 :: y164 :: y165 :: y166 :: y167 :: y168 :: y169 :: y170 :: y171 :: y172 :: y173 :: y174 :: y175 :: y176 :: y177 :: y178 :: []),[]⟩ wx):(c12 [1,1,1,1,1,1,1,1,1,0]).wp Tryz.prog (Exit.then K (bodyPost Tryz.prog Tryz.f9 (RecPost img is vs bs ds n w))) ⟨List.toArray (x0 :: x1 :: .int .i64 n :: x3 :: x4 :: x5 :: .pointer (some ⟨w.heap.size+1,0,none⟩) :: .pointer (some ⟨w.heap.size+1+1,0,none⟩) :: x8 :: x9 :: x10 :: x11 :: .pointer (some ⟨cb,0,none⟩) :: .slice (some ⟨mb,0,none⟩) 256 cm :: .pointer (some ⟨ob,0,none⟩) :: .slice none 0 0 :: x16 :: x17 :: x18 :: x19 :: x20 :: x21 :: x22 :: x23 :: x24 :: x25 :: x26 :: x27 :: x28 :: x29 :: x30 :: x31 :: x32 :: x33 :: x34 :: x35 :: x36 :: x37 :: x38 :: x39 :: x40 :: x41 :: x42 :: x43 :: x44 :: x45 :: x46 :: x47 :: x48 :: x49 :: x50 :: x51 :: x52 :: x53 :: x54 :: x55 :: x56 :: x57 :: x58 :: x59 :: x60 :: x61 :: x62 :: x63 :: x64 :: x65 :: x66 :: x67 :: x68 :: x69 :: x70 :: x71 :: x72 :: x73 :: x74 :: x75 :: x76 :: x77 :: x78 :: x79 :: x80 :: x81 :: x82 :: x83 :: x84 :: x85 :: x86 :: x87 :: x88 :: x89 :: x90 :: x91 :: x92 :: x93 :: x94 :: x95 :: x96 :: x97 :: x98 :: x99 :: x100 :: x101 :: x102 :: x103 :: x104 :: x105 :: x106 :: x107 :: x108 :: x109 :: x110 :: x111 :: x112 :: x113 :: x114 :: x115 :: x116 :: x117 :: x118 :: x119 :: x120 :: x121 :: x122 :: x123 :: x124 :: x125 :: x126 :: x127 :: x128 :: x129 :: x130 :: x131 :: x132 :: x133 :: x134 :: x135 :: x136 :: x137 :: x138 :: x139 :: x140 :: x141 :: x142 :: x143 :: x144 :: x145 :: x146 :: x147 :: x148 :: x149 :: x150 :: x151 :: x152 :: x153 :: x154 :: x155 :: x156 :: x157 :: x158 :: x159 :: x160 :: x161 :: x162 :: x163 :: x164 :: x165 :: x166 :: x167 :: x168 :: x169 :: x170 :: x171 :: x172 :: x173 :: x174 :: x175 :: x176 :: x177 :: x178 :: []),[]⟩ wz:=by
 have HK:=Lib.hid hK
 clear hK
 conv=>arg 2;whnf
 go_cut [15,16,17,19,20,21,22,23] from 61 (fun s15 s16 s17 s19 s20 s21 s22 s23 wx =>∃(s:RSs) (ps:List (Ev × Value)) (aa:Option Addr) (ca:Nat) (ak:Option Addr) (nk ck:Nat) (C:Nat→Prop),s15=.slice aa ps.length ca∧Hid (RcS W1 W1.heap.size cb ob gr cr mb cm is (vs.drop s.nv) (bs.drop s.nb) (ds.drop s.nb) s.due (bs.getD (s.nb - 1) zero16) ps aa ca ak nk ck s.m C wx)∧Hid (ps.map (·.1)=s.all)∧Hid (RecOk s)∧Hid (recL is vs bs ds n n.toNat (recS0 img)=(s,false)))
 case rest =>
  exact HK.out _ _ _ _ _ _ _ _ _ _ _ _ _ _ _ _ _ _ _ _ _ _ _ _ _ _ _ _ _ _ _ _ _ _ _ _ _ _ _ _ _ _ _ _ _ _ _ _ _ _ _ _ _ _ _ _ _ _ _ _ _ _ _ _ _ _ _ _ _ _ _ _ _ _ _ _ _ _ _ _ _ _ _ _ _ _ _ _ _ _ _ _ _ _ _ _ _ _ _ _ _ _ _ _ _ _ _ _ _ _ _ _ _ _ _ _ _ _ _ _ _ _ _ _ _ _ _ _ hcut
 case first =>
  clear HK
  go_wp2_with fail
  go_loopg [15,16,17,19,20,21,22,23] n.toNat (fun gh s15 s16 s17 s19 s20 s21 s22 s23 wr =>∃(f:Nat) (s:RSs) (ps:List (Ev × Value)) (aa:Option Addr) (ca:Nat) (ak:Option Addr) (nk ck:Nat) (C:Nat→Prop),gh=f∧s15=.slice aa ps.length ca∧Hid (RcS W1 W1.heap.size cb ob gr cr mb cm is (vs.drop s.nv) (bs.drop s.nb) (ds.drop s.nb) s.due (bs.getD (s.nb - 1) zero16) ps aa ca ak nk ck s.m C wr)∧Hid (ps.map (·.1)=s.all)∧Hid (RecOk s)∧Hid (recL is vs bs ds n n.toNat (recS0 img)=recL is vs bs ds n f s)∧Hid (n≤s.m.count+f))
  case atStart=>exact⟨n.toNat,recS0 img,[],none,0,none,0,0,C0,rfl,rfl,HSTART,Lib.hid rfl,Lib.hid (recok_start HIM.out.1),Lib.hid rfl,Lib.hid (by show n≤0+_;omega)⟩
  case round =>
   clear HSTART
   obtain⟨f,s,ps,aa,ca,ak,nk,ck,C,rfl,rfl,HR,HP,HOK,HRL,HNF⟩:=hrel
   obtain⟨wro,ao,co,hx⟩:=HR.out.cells
   have c6:wr.cell? ⟨cb,6,none⟩=some (.int .i64 s.m.count):=cell_block hx 6
   have c7:wr.cell? ⟨cb,7,none⟩=some (.int .i64 s.m.fin):=cell_block hx 7
   have lc:cb < wr.heap.size:=(Array.getElem?_eq_some_iff.1 hx).1
   clear hx
   by_cases hgo:s.m.count < n∧s.m.fin=0
   ·
    obtain⟨hlt,hfin⟩:=hgo
    rw [hfin] at c7
    have hc0:=HOK.out.ok.count
    have hk2:0≤s.m.count∧s.m.count < 3000:=by have:=HN3.out;omega
    have HFIN:=Lib.hid hfin
    obtain⟨f1,hf1⟩:∃ f1,gk=f1+1:=⟨gk - 1,by have:=HNF.out;omega⟩
    subst hf1
    have HDW:Hid (s.due=s.m.count→DOwn W1.heap.size wr (⟨s.m.count,2,bs.getD (s.nb - 1) zero16⟩,.slice ak nk ck)):=Lib.hid (fun hd=>by
     have hb:=getD_mem (P:=fun b:List Int=>b.length=16∧∀ z∈b,WordZ z) HWD.out.b16 zero16_ok (s.nb - 1)
     obtain⟨rfl,hrow⟩:=HR.out.q.blk (by rw [hd];exact hk2.1)
     refine⟨by dsimp only;rw [hb.1];exact hrow,fun z hz=>(hb.2 z hz).i64,by dsimp only;omega,by unfold I64;dsimp only;omega,by unfold I64;dsimp only;omega⟩)
    have HAH:=Lib.hid (ahead_any HR.out.q.wb s.m.count hk2 (bs.getD (s.nb - 1) zero16) HDW.out (aheadR is bs s) (by
     unfold aheadR blkR irqR
     by_cases hd:s.due=s.m.count
     · simp only [if_pos hd]
     · simp only [if_neg hd]) (if s.due=s.m.count then -1 else s.due) rfl)
    have HK:=Lib.hid hk2
    have HCT:=Lib.hid hlt
    have hci:s.m.count < n:=hlt
    obtain⟨k,hk⟩:∃ k,s.m.count=k:=⟨_,rfl⟩
    rw [hk] at c6 HAH hci
    have HKK:=Lib.hid hk
    obtain⟨d2,hd2⟩:∃ d2,(if s.due=k then -1 else s.due)=d2:=⟨_,rfl⟩
    rw [hd2] at HAH
    have HD2:=Lib.hid hd2
    clear hk hd2 hlt hfin hc0 hk2
    go_wp2_with fail
    refine HAH.out.mono ?_
    rintro e w2 ⟨ls,la,lc2,rfl,hah,hwb2,hg2⟩
    have HR2:=Lib.hid (HR.out.world (b':=bs.getD (s.nb - 1) zero16) hg2 hwb2 (fun h0=>(by
     have hdn:¬ s.due=k:=by rw [← HD2.out] at h0;intro e;rw [if_pos e] at h0;omega
     rw [← HD2.out,if_neg hdn] at h0
     have hb:=HR.out.q.blk h0
     refine⟨hb.1,hb.2.kept hg2 ?_⟩
     cases hob2:(Value.slice ak nk ck).ownBlock with
     | none=>exact Or.inl rfl
     | some q=>refine Or.inr (fun e=>?_);obtain⟨a0,a1,a2,a3,c0,c1,c2,c3,hx,_⟩:=HR.out.q.wb.box;exact own_ne_block hb.2 hx (by decide) (by rw [hob2,e]))) (Or.inl ⟨rfl,rfl,rfl⟩))
    have HL2:Hid (LsS W1.heap.size ls la lc2 C w2):=Lib.hid ⟨hah.out,fun q hq hc=>by have:=hah.new q hq;have:=HR.out.lt q hc;omega,fun p hp q hq=>by
     rcases hah.dat p hp with e | e
     · rw [e] at hq;simp [Value.ownBlock] at hq
     · rw [e] at hq;exact HR.out.kp.blk q hq⟩
    have HEQ:=Lib.hid hah.eq
    have HLG:Hid (∀ p∈ls,EvG p.1∧p.1.kind≠3):=Lib.hid (fun p hp=>by
     have hm:p.1∈aheadR is bs s:=by rw [← HEQ.out];exact List.mem_map_of_mem hp
     exact⟨aheadR_good HWD.out HK.out.1 HK.out.2 _ hm,aheadR_kind hm⟩)
    have hl2:ls.length≤2:=by have:=congrArg List.length HEQ.out;rw [List.length_map] at this;rw [this];exact aheadR_len is bs s
    clear hah hwb2 hg2 HAH HDW c6 c7 lc HR
    go_upto_block 2 with fail
    refine rc_ap HR2 HL2 HLG hl2 ?_
    intros
    rename_i s19 w3 hcut
    obtain⟨C3,HR3,HL3⟩:=hcut
    rw [HEQ.out,ahead_met is bs s (fun b hb=>(HWD.out.b16 b hb).1)] at HR3
    clear HR2 HL2
    have hpl:ps.length≤1000:=by have:=congrArg List.length HP.out;rw [List.length_map] at this;rw [this];exact HOK.out.len
    go_upto_region 22 with (at_builtin;go_loud (refine wpList_append_evs _ rfl (.tmp 96) (.tmp 97) rfl W1.heap.size ps ls aa la ca lc2 (by rfl) (by rfl) HR3.out.q.all HL3.out.out (by omega) HR3.out.low.2.size ?_);intro a5 c5 w5 hout5 hg5 hn5;have HO5:=Lib.hid hout5;have HG5:=Lib.hid hg5;have HN5:=Lib.hid hn5;clear hout5 hg5 hn5)
    have hlen5:(ps ++ ls).length=ps.length+ls.length:=List.length_append ..
    have HR4:=Lib.hid (HR3.out.told HG5.out HO5.out (fun p hp q hq=>by
     rcases List.mem_append.1 hp with h | h
     · exact HR3.out.kp.dat p h q hq
     · exact HL3.out.dat p h q hq) (by
     rw [hlen5]
     rcases HN5.out with e | e
     · exact Or.inl e
     · exact Or.inr (fun q hq=>by have e2:=e.symm.trans hq;injection e2 with e2;omega)) (fun q hq=>(HR3.out.q.all.row.lt q hq).1))
    obtain⟨pl,hPL⟩:∃ pl,pl=ps ++ ls:=⟨_,rfl⟩
    rw [← hPL] at HR4 hlen5
    have HPL:=Lib.hid hPL
    rw [← hlen5]
    have hpl2:pl.length≤1002:=by omega
    have HLEN:=Lib.hid hlen5
    clear hPL hlen5
    have HEN:=Lib.hid (rc_enter HR4.out)
    clear HR3 HL3 HO5 HG5 HN5
    go_wp2_with fail
    refine HEN.out.mono ?_
    rintro e w6 ⟨C6,rfl,hr6,-,-⟩
    have HR6:=Lib.hid hr6
    clear hr6 HEN HR4
    have HF5:=Lib.hid (show (enterM (metM is bs s)).fin=0∧(enterM (metM is bs s)).count=k∧(enterM (metM is bs s)).want=(metM is bs s).want from ⟨(enterM_fin _).1.trans ((metM_fin s).1.trans HFIN.out),(enterM_fin _).2.trans ((metM_fin s).2.trans HKK.out),enterM_want _⟩)
    have HAS:Hid (asksR is bs s=asksM (enterM (metM is bs s))):=Lib.hid rfl
    have HRA:Hid (ranR is vs bs s=(execM (enterM (metM is bs s)) (valR is vs bs s)).1):=Lib.hid rfl
    have HWN:Hid (wantsR is vs bs s=decide ((metM is bs s).want < 0∧0≤(ranR is vs bs s).want)):=Lib.hid rfl
    generalize enterM (metM is bs s)=m5 at *
    have HNX:=Lib.hid (rc_next HR6.out)
    obtain⟨io,ia,ib,inn,hiv,hiz⟩:=instV_shape (nextZ m5)
    rw [hiv] at HNX
    have HAS2:=Lib.hid (show asksR is bs s=(decide ((nextZ m5).2=0) && decide (io=10∧(inn=0∨inn=1))) from by
     rw [HAS.out];unfold asksM
     by_cases h:(nextZ m5).2=0
     ·
      obtain⟨rfl,rfl⟩:=(hiz h).resolve_right (fun hc=>hc (nextZ_dec2 h))
      simp [h,HF5.out.1]
     · simp [h])
    clear hiz hiv
    generalize (nextZ m5).2=z2 at *
    obtain⟨ta,hta⟩:∃ ta,asksR is bs s=ta:=⟨_,rfl⟩
    have HTA:=Lib.hid hta
    rw [hta] at HAS HAS2
    have KB:=Lib.hid (show 0≤k∧k < 3000 from by have:=HK.out;rw [HKK.out] at this;exact this)
    clear hta
    go_upto_region 25 with (go_at_call 28;refine HNX.out.mono ?_;rintro e w7 ⟨rfl,hb7⟩;have HB7:=Lib.hid hb7;clear hb7)
    have HR8:=Lib.hid ((HR6.out.below HB7.out).below (below_alloc w7 (.cells #[.int .i64 io,.int .i64 ia,.int .i64 ib,.int .i64 inn] 74)))
    have hib:(w7.alloc (.cells #[.int .i64 io,.int .i64 ia,.int .i64 ib,.int .i64 inn] 74)).heap[w7.heap.size]? = some (.cells #[.int .i64 io,.int .i64 ia,.int .i64 ib,.int .i64 inn] 74 (0,0)):=alloc_at rfl
    generalize World.alloc w7 _=w8 at *
    generalize w7.heap.size=xi at *
    have i0:w8.cell? ⟨xi,0,none⟩=some (.int .i64 io):=cell_block hib 0
    have i1:w8.cell? ⟨xi,1,none⟩=some (.int .i64 ia):=cell_block hib 1
    have i2:w8.cell? ⟨xi,2,none⟩=some (.int .i64 ib):=cell_block hib 2
    have i3:w8.cell? ⟨xi,3,none⟩=some (.int .i64 inn):=cell_block hib 3
    have hxl:xi < w8.heap.size:=(Array.getElem?_eq_some_iff.1 hib).1
    have HAK:=Lib.hid (asks_any cb io ia ib inn w8)
    clear hib HR6 HB7 HNX
    go_cut [114] from 61 to 155 (fun s114 wx=>s114=.bool ta∧Hid (RcS W1 W1.heap.size cb ob gr cr mb cm is (vs.drop s.nv) (bs.drop s.nb) (ds.drop s.nb) d2 (bs.getD (s.nb - 1) zero16) pl a5 c5 ak nk ck m5 C6 wx))
    case first =>
     by_cases hz:z2=0
     ·
      have hzb:(z2 == 0)=true:=by rw [hz];rfl
      have HT:=Lib.hid (show ta=decide (io=10∧(inn=0∨inn=1)) from by rw [HAS2.out,hz];simp)
      clear hz
      go_wp2_with fail
      refine HAK.out.mono ?_
      rintro e w9 ⟨rfl,hb9⟩
      have HR9:=Lib.hid (HR8.out.below hb9)
      rw [← HT.out]
      clear hb9
      go_wp2_with fail
      go_meet
      exact⟨rfl,HR9⟩
     ·
      have hzb:(z2 == 0)=false:=by rw [beq_eq_false_iff_ne];exact hz
      have HT:=Lib.hid (show ta=false from by rw [HAS2.out];simp [hz])
      clear hz
      go_wp2_with fail
      go_meet
      exact⟨by rw [HT.out],HR8⟩
    case rest =>
     obtain⟨rfl,HR9⟩:=hcut
     clear i0 i1 i2 i3 hxl HAK HR8 HAS HAS2
     go_upto_if 114 with fail
     refine rc_val HR9 ⟨KB.out.1,KB.out.2⟩ (fun z hz=>HWD.out.wv z (List.mem_of_mem_drop hz)) (by omega) ?_
     intros
     rename_i s15 s20 w10 hcut
     obtain⟨qs,a10,c10,rfl,rfl,HQS,HR10⟩:=hcut
     obtain⟨pq,hPQ⟩:∃ pq,pq=pl ++ qs:=⟨_,rfl⟩
     rw [← hPQ] at HR10 ⊢
     have HPQ:=Lib.hid hPQ
     clear hPQ
     have hval:(if ta=true then (vs.drop s.nv).headD 0 else 0)=valR is vs bs s:=by unfold valR;rw [HTA.out,headD_drop]
     have HQS2:=Lib.hid (show qs.map (·.1)=if ta=true then [⟨k,3,[valR is vs bs s]⟩] else [] from by rw [HQS.out,← hval];cases ta <;> simp)
     clear HQS
     rw [hval]
     have hvw:=valR_ok (is:=is) HWD.out s
     have HEX:=Lib.hid (rc_exec HR10.out (by have h1:=HF5.out.2.1;have h2:=KB.out.2;omega) (valR is vs bs s) hvw)
     rw [← HRA.out] at HEX
     obtain⟨wro,ao,co,hx⟩:=HR10.out.cells
     have c11:w10.cell? ⟨cb,11,none⟩=some (.int .i64 m5.want):=cell_block hx 11
     have lc:cb < w10.heap.size:=(Array.getElem?_eq_some_iff.1 hx).1
     clear hx HR9 hval hvw HRA
     have HOKR:=Lib.hid (ranR_count (is:=is) (vs:=vs) (bs:=bs) s HFIN.out)
     obtain⟨m6,hrr⟩:∃ m6,ranR is vs bs s=m6:=⟨_,rfl⟩
     have HRR:=Lib.hid hrr
     rw [hrr] at HEX HOKR HWN
     clear hrr
     obtain⟨vv,hvv⟩:∃ vv,valR is vs bs s=vv:=⟨_,rfl⟩
     have HVV:=Lib.hid hvv
     rw [hvv] at HEX HQS2 ⊢
     clear hvv
     go_upto_region 30 with (go_at_call 31;refine HEX.out.mono ?_;rintro e w11 ⟨C11,rfl,hr11,-,-⟩;have HR11:=Lib.hid hr11;clear hr11)
     obtain⟨wro,ao,co,hx⟩:=HR11.out.cells
     have d11:w11.cell? ⟨cb,11,none⟩=some (.int .i64 m6.want):=cell_block hx 11
     have lc2:cb < w11.heap.size:=(Array.getElem?_eq_some_iff.1 hx).1
     clear hx c11 lc HR10 HEX
     have hw5:=HF5.out.2.2
     obtain⟨tw,htw⟩:∃ tw,wantsR is vs bs s=tw:=⟨_,rfl⟩
     have HTW:=Lib.hid (show tw=decide (m5.want < 0∧0≤m6.want) from by rw [← htw,HWN.out,hw5])
     have HTWE:=Lib.hid htw
     clear htw hw5 HWN
     go_cut [143] from 61 to 155 (fun s143 wx=>s143=.bool tw∧wx=w11)
     case first =>
      by_cases h1:m5.want < 0
      ·
       have h1b:decide (m5.want < 0)=true:=decide_eq_true h1
       have HT:=Lib.hid (show tw=decide (0≤m6.want) from by rw [HTW.out];simp [h1])
       clear h1
       go_wp2_with fail
       go_meet
       exact⟨by rw [HT.out],rfl⟩
      ·
       have h1b:decide (m5.want < 0)=false:=decide_eq_false h1
       have HT:=Lib.hid (show tw=false from by rw [HTW.out];simp [h1])
       clear h1
       go_wp2_with fail
       go_meet
       exact⟨by rw [HT.out],rfl⟩
     case rest =>
      obtain⟨rfl,rfl⟩:=hcut
      clear d11 lc2
      go_upto_if 143 with fail
      refine rc_ask HR11 (by have h1:=HOKR.out;have h2:=HKK.out;have h3:=KB.out;omega) (fun z hz=>HWD.out.wd z (List.mem_of_mem_drop hz)) (fun b hb=>(HWD.out.b16 b (List.mem_of_mem_drop hb)).1) ?_
      intros
      rename_i w12 hcut
      obtain⟨ak2,nk2,ck2,HR12⟩:=hcut
      have HNEXT:=Lib.hid (show recS is vs bs ds s={ m:=m6,all:=s.all ++ aheadR is bs s ++ (if ta=true then [⟨s.m.count,3,[vv]⟩] else []),nv:=if ta=true then s.nv+1 else s.nv,nb:=if tw=true then s.nb+1 else s.nb,due:=if tw=true then s.m.count+1+ds.getD s.nb 0 else if s.due=s.m.count then -1 else s.due } from by
       unfold recS
       rw [HRR.out,HTA.out,HTWE.out,HVV.out])
      have HST:Hid (RcS W1 W1.heap.size cb ob gr cr mb cm is (vs.drop (recS is vs bs ds s).nv) (bs.drop (recS is vs bs ds s).nb) (ds.drop (recS is vs bs ds s).nb) (recS is vs bs ds s).due (bs.getD ((recS is vs bs ds s).nb - 1) zero16) pq a10 c10 ak2 nk2 ck2 (recS is vs bs ds s).m C11 w12):=Lib.hid (by
       have h:=HR12.out
       rw [headD_drop,headD_drop,HOKR.out,List.tail_drop,List.tail_drop,List.tail_drop,← HD2.out,← HKK.out] at h
       rw [HNEXT.out]
       cases ta <;> cases tw <;> exact h)
      have HALL:=Lib.hid (show pq.map (·.1)=(recS is vs bs ds s).all from by rw [HNEXT.out,HPQ.out,HPL.out,List.map_append,List.map_append,HP.out,HEQ.out,HQS2.out,← HKK.out])
      have hpq:pq.length=(recS is vs bs ds s).all.length:=by rw [← HALL.out,List.length_map]
      have hcn:s.m.count < n∧s.m.fin=0:=⟨HCT.out,HFIN.out⟩
      by_cases hbig:1000 < pq.length
      ·
       have HRT:=Lib.hid (show recL is vs bs ds n n.toNat (recS0 img)=(recS is vs bs ds s,true) from by rw [HRL.out,recL,if_pos hcn,if_pos (by omega)])
       have hbi:(1000:Int) < (pq.length:Int):=by omega
       clear hpq hcn hbig
       have hob:=HR12.out.low.2
       have hxm:=hob.at HXM.out (fun q=>q)
       have hxt:=hob.at HXT.out (fun q=>q)
       have HB12:=Lib.hid (HBA.out.trans (hob.below (B:=w.heap.size) (fun g hg=>hg.elim) HBA.out.size))
       have HR:=Lib.hid (show RecR img is vs bs ds n 1 [] 0 [] zeroM from Or.inr (Or.inr (Or.inr ⟨HNW.out.1,HNW.out.2,HN3.out.1,HN3.out.2,Or.inl ⟨by rw [HRT.out],rfl,recE0⟩⟩)))
       have lm1:w.heap.size+2 < w12.heap.size:=(Array.getElem?_eq_some_iff.1 hxm).1
       have lm2:w.heap.size+1 < w12.heap.size:=by omega
       first | (obtain⟨r0,r1,r2,r3,r4,r5,r6,r7,r8,r9,r10,r11⟩:=cells12 hxm) | (obtain⟨r0,r1,r2,r3,r4,r5,r6,r7,r8,r9,r10,r11⟩:=cells13 hxm)
       have g0:=free_block hxm 0
       have g1:=free_block hxm 1
       have g2:=free_block hxm 2
       have g3:=free_block hxm 3
       have g4:=free_block hxm 4
       have g5:=free_block hxm 5
       have g6:=free_block hxm 6
       have g7:=free_block hxm 7
       have g8:=free_block hxm 8
       have g9:=free_block hxm 9
       have g10:=free_block hxm 10
       have g11:=free_block hxm 11
       have s0:w12.cell? ⟨w.heap.size+1,0,none⟩=some (.slice none 0 0):=cell_block hxt 0
       have t0:=free_block hxt 0
       have s1:w12.cell? ⟨w.heap.size+1,1,none⟩=some (.slice none 0 0):=cell_block hxt 1
       have t1:=free_block hxt 1
       have s2:w12.cell? ⟨w.heap.size+1,2,none⟩=some (.int .i64 0):=cell_block hxt 2
       have t2:=free_block hxt 2
       clear hob hxm hxt HR12 HST HALL
       go_wp2_with fail
       refine bodyPost_ret (v:=.tuple #[.agg #[.slice none 0 0,.slice none 0 0,.int .i64 0],.agg #[.slice none 0 0,.int .i64 0,.int .i64 0,.bool false,.bool false,.int .i64 0,.int .i64 0,.int .i64 0,.slice none 0 0,.slice none 0 0,.int .i64 0,.int .i64 0],.int .i64 1]) (by simp [results,Tryz.results9,go_sem,r0,r1,r2,r3,r4,r5,r6,r7,r8,r9,r10,r11,s0,s1,s2]) rfl ?_
       refine RecPost.no HR.out ?_
       go_grown
       exact HB12.out
      ·
       have HRT:=Lib.hid (show recL is vs bs ds n n.toNat (recS0 img)=recL is vs bs ds n f1 (recS is vs bs ds s) from by rw [HRL.out,recL,if_pos hcn,if_neg (by omega)])
       have HO2:=Lib.hid (HOK.out.step HWD.out hcn.2 HK.out.2 (by omega))
       have hbi:¬ (1000:Int) < (pq.length:Int):=by omega
       have HC2:=Lib.hid (show n≤(recS is vs bs ds s).m.count+f1 from by
        have e:(recS is vs bs ds s).m.count=s.m.count+1:=by rw [HNEXT.out];exact HOKR.out
        have:=HNF.out
        rw [e];push_cast at this;omega)
       clear hpq hcn hbig HR12
       go_wp2_with fail
       go_roundg f1
       case measure=>omega
       case rel=>exact⟨f1,recS is vs bs ds s,pq,a10,c10,ak2,nk2,ck2,C11,rfl,rfl,HST,HALL,HO2,HRT,HC2⟩
   ·
    have HFN:=Lib.hid (show recL is vs bs ds n n.toNat (recS0 img)=(s,false) from by
     rw [HRL.out]
     cases gk with
     | zero=>rfl
     | succ f=>rw [recL,if_neg hgo])
    clear HRL HNF
    by_cases hlt:s.m.count < n
    ·
     have hfb:(s.m.fin == 0)=false:=by rw [beq_eq_false_iff_ne];exact fun h=>hgo ⟨hlt,h⟩
     clear hgo
     go_wp2_with fail
     go_meet
     exact⟨s,ps,aa,ca,ak,nk,ck,C,rfl,HR,HP,HOK,HFN⟩
    ·
     clear hgo
     go_wp2_with fail
     go_meet
     exact⟨s,ps,aa,ca,ak,nk,ck,C,rfl,HR,HP,HOK,HFN⟩
end Go.Proofs.YtkahciebbnhobaaGreatDoor
