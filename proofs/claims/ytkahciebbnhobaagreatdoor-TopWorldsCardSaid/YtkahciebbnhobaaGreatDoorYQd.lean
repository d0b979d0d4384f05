/- Several texts joined, each with its own heading in the notes: What a recorder's instruction asks. What a recording answers. No condition beyond those of each row. -/
import Derived.Test.YtkahciebbnhobaaGreatDoorYQb
import Derived.Handy
import Derived.StillTailTactics
import Derived.Deep.RegionWith
import Derived.Deep.RegionLaw
import Derived.Deep.CutBlock
import Derived.Deep.CutRange
import Derived.Deep.RegionHeld3
import Derived.Deep.LoopGhost
import Derived.Test.YtkahciebbnhobaaGreatDoorYNg
import Derived.Test.YtkahciebbnhobaaGreatDoorYNu
import Derived.Test.YtkahciebbnhobaaGreatDoorYFr2
import Derived.Test.YtkahciebbnhobaaGreatDoorYDe
namespace Go.Proofs.YtkahciebbnhobaaGreatDoor
open Go Go.RowKit Go.ChangeShapes Go.WideShapes Go.Deep
set_option maxHeartbeats 8000000
set_option maxRecDepth 100000
set_option linter.unusedVariables false
attribute [local go_sem ↓] Go.wp_at_zero Go.wp_at_succ
theorem RcS.lt {w0 w:World} {E cb ob gr cr mb cm:Nat} {is vs:List Int} {bs:List (List Int)} {ds:List Int} {due:Int} {b:List Int} {ps:List (Ev × Value)} {aa:Option Addr} {ca:Nat} {ak:Option Addr} {nk ck:Nat} {m:Mach} {C:Nat→Prop} (h:RcS w0 E cb ob gr cr mb cm is vs bs ds due b ps aa ca ak nk ck m C w):∀ q,C q→q < w.heap.size:=by
 obtain⟨wro,ao,co,F,rfl,hgs,_⟩:=h
 rintro q (rfl | rfl | hF | ho)
 · exact hgs.clt
 · exact hgs.rlt
 · exact (rflat_is mb cm).lt _ _ _ _ hgs.mem q hF
 · exact (hgs.out.lt q ho).2
theorem RcS.low {w0 w:World} {E cb ob gr cr mb cm:Nat} {is vs:List Int} {bs:List (List Int)} {ds:List Int} {due:Int} {b:List Int} {ps:List (Ev × Value)} {aa:Option Addr} {ca:Nat} {ak:Option Addr} {nk ck:Nat} {m:Mach} {C:Nat→Prop} (h:RcS w0 E cb ob gr cr mb cm is vs bs ds due b ps aa ca ak nk ck m C w):E≤w0.heap.size∧OutF (fun _=>False) w0 w:=by
 obtain⟨wro,ao,co,F,rfl,hgs,_,_,_,hE,_⟩:=h
 exact⟨hE,hgs.old⟩
theorem asks_any (cb:Nat) (op a b n:Int) (w:World):Calls Tryz.prog 29 #[.pointer (some ⟨cb,0,none⟩),.agg #[.int .i64 op,.int .i64 a,.int .i64 b,.int .i64 n]] w fun e w'=>e=.returned (.bool (decide (op=10∧(n=0∨n=1))))∧Below w.heap.size w w':=by
 have HB:=Lib.hid (below_alloc w (.cells #[.int .i64 op,.int .i64 a,.int .i64 b,.int .i64 n] 74 (0,0)))
 by_cases h1:op=10
 ·
  have h1b:(op == 10)=true:=by rw [h1];rfl
  by_cases h2:n=0
  ·
   have HD:=Lib.hid (show decide (op=10∧(n=0∨n=1))=true from decide_eq_true ⟨h1,Or.inl h2⟩)
   have h2b:(n == 0)=true:=by rw [h2];rfl
   clear h1 h2
   go_enter Tryz.func29,Tryz.ntmps29
   go_wp2
   go_ret
   exact⟨ret_bool (by rw [HD.out]),HB.out⟩
  ·
   have h2b:(n == 0)=false:=by rw [beq_eq_false_iff_ne];exact h2
   have HD:=Lib.hid (show decide (op=10∧(n=0∨n=1))=(n == 1) from by rw [h1];simp only [h2,false_or,true_and];by_cases h3:n=1 <;> simp [h3])
   clear h1 h2
   go_enter Tryz.func29,Tryz.ntmps29
   go_wp2
   go_ret
   exact⟨ret_bool (by rw [HD.out]),HB.out⟩
 ·
  have h1b:(op == 10)=false:=by rw [beq_eq_false_iff_ne];exact h1
  have HD:=Lib.hid (show decide (op=10∧(n=0∨n=1))=false from decide_eq_false (fun h=>h1 h.1))
  clear h1
  go_enter Tryz.func29,Tryz.ntmps29
  go_wp2
  go_ret
  exact⟨ret_bool (by rw [HD.out]),HB.out⟩
theorem rc_val {w0 wz:World} {cb ob gr cr mb cm:Nat} {is vs:List Int} {bs:List (List Int)} {ds:List Int} {due:Int} {b:List Int} {ps:List (Ev × Value)} {aa:Option Addr} {ca:Nat} {ak:Option Addr} {nk ck:Nat} {m:Mach} {C:Nat→Prop} {k:Int} {tt:Bool} {K:Act→World→Prop} {Q':Exit→Act→World→Prop} {x0 x1 x2 x3 x4 x5 x6 x7 x8 x9 x10 x11 x17 x18 x19 x21 x22 x23 x24 x25 x26 x27 x28 x29 x30 x31 x32 x33 x34 x35 x36 x37 x38 x39 x40 x41 x42 x43 x44 x45 x46 x47 x48 x49 x50 x51 x52 x53 x54 x55 x56 x57 x58 x59 x60 x61 x62 x63 x64 x65 x66 x67 x68 x69 x70 x71 x72 x73 x74 x75 x76 x77 x78 x79 x80 x81 x82 x83 x84 x85 x86 x87 x88 x89 x90 x91 x92 x93 x94 x95 x96 x97 x98 x99 x100 x101 x102 x103 x104 x105 x106 x107 x108 x109 x110 x111 x112 x113 x115 x116 x117 x118 x119 x120 x121 x122 x123 x124 x125 x126 x127 x128 x129 x130 x131 x132 x133 x134 x135 x136 x137 x138 x139 x140 x141 x142 x143 x144 x145 x146 x147 x148 x149 x150 x151 x152 x153 x154 x155 x156 x157 x158 x159 x160 x161 x162 x163 x164 x165 x166 x167 x168 x169 x170 x171 x172 x173 x174 x175 x176 x177 x178:Value} (HR:Hid (RcS w0 w0.heap.size cb ob gr cr mb cm is vs bs ds due b ps aa ca ak nk ck m C wz)) (hk:0≤k∧k < 3000) (hwv:∀ z∈vs,WordZ z) (hpl:ps.length≤2000) (hK:∀ (y61 y62 y63 y64 y65 y66 y67 y68 y69 y70 y71 y72 y73 y74 y75 y76 y77 y78 y79 y80 y81 y82 y83 y84 y85 y86 y87 y88 y89 y90 y91 y92 y93 y94 y95 y96 y97 y98 y99 y100 y101 y102 y103 y104 y105 y106 y107 y108 y109 y110 y111 y112 y113 y114 y115 y116 y117 y118 y119 y120 y121 y122 y123 y124 y125 y126 y127 y128 y129 y130 y131 y132 y133 y134 y135 y136 y137 y138 y139 y140 y141 y142 y143 y144 y145 y146 y147 y148 y149 y150 y151 y152 y153 y154 y155:Value) (s15 s20:Value) (wx:World),(∃ (qs:List (Ev × Value)) (a2:Option Addr) (c2:Nat),s15=.slice a2 (ps ++ qs).length c2∧s20=.int .i64 (if tt=true then vs.headD 0 else 0)∧Hid (qs.map (·.1)=if tt=true then [⟨k,3,[vs.headD 0]⟩] else [])∧Hid (RcS w0 w0.heap.size cb ob gr cr mb cm is (if tt=true then vs.tail else vs) bs ds due b (ps ++ qs) a2 c2 ak nk ck m C wx))→K ⟨List.toArray (x0 :: x1 :: x2 :: x3 :: x4 :: x5 :: x6 :: x7 :: x8 :: x9 :: x10 :: x11 :: .pointer (some ⟨cb,0,none⟩) :: .slice (some ⟨mb,0,none⟩) 256 cm :: .pointer (some ⟨ob,0,none⟩) :: s15 :: .int .i64 k :: x17 :: x18 :: x19 :: s20 :: x21 :: x22 :: x23 :: x24 :: x25 :: x26 :: x27 :: x28 :: x29 :: x30 :: x31 :: x32 :: x33 :: x34 :: x35 :: x36 :: x37 :: x38 :: x39 :: x40 :: x41 :: x42 :: x43 :: x44 :: x45 :: x46 :: x47 :: x48 :: x49 :: x50 :: x51 :: x52 :: x53 :: x54 :: x55 :: x56 :: x57 :: x58 :: x59 :: x60 :: y61 :: y62 :: y63 :: y64 :: y65 :: y66 :: y67 :: y68 :: y69 :: y70 :: y71 :: y72 :: y73 :: y74 :: y75 :: y76 :: y77 :: y78 :: y79 :: y80 :: y81 :: y82 :: y83 :: y84 :: y85 :: y86 :: y87 :: y88 :: y89 :: y90 :: y91 :: y92 :: y93 :: y94 :: y95 :: y96 :: y97 :: y98 :: y99 :: y100 :: y101 :: y102 :: y103 :: y104 :: y105 :: y106 :: y107 :: y108 :: y109 :: y110 :: y111 :: y112 :: y113 :: y114 :: y115 :: y116 :: y117 :: y118 :: y119 :: y120 :: y121 :: y122 :: y123 :: y124 :: y125 :: y126 :: y127 :: y128 :: y129 :: y130 :: y131 :: y132 :: y133 :: y134 :: y135 :: y136 :: y137 :: y138 :: y139 :: y140 :: y141 :: y142 :: y143 :: y144 :: y145 :: y146 :: y147 :: y148 :: y149 :: y150 :: y151 :: y152 :: y153 :: y154 :: y155 :: x156 :: x157 :: x158 :: x159 :: x160 :: x161 :: x162 :: x163 :: x164 :: x165 :: x166 :: x167 :: x168 :: x169 :: x170 :: x171 :: x172 :: x173 :: x174 :: x175 :: x176 :: x177 :: x178 :: []),[]⟩ wx):(c12 [1,1,1,1,1,1,1,1,1,0,0,0,1,0,1,1,1,1,1,1,0,1,1]).wp Tryz.prog (Exit.then K Q') ⟨List.toArray (x0 :: x1 :: x2 :: x3 :: x4 :: x5 :: x6 :: x7 :: x8 :: x9 :: x10 :: x11 :: .pointer (some ⟨cb,0,none⟩) :: .slice (some ⟨mb,0,none⟩) 256 cm :: .pointer (some ⟨ob,0,none⟩) :: .slice aa ps.length ca :: .int .i64 k :: x17 :: x18 :: x19 :: .int .i64 0 :: x21 :: x22 :: x23 :: x24 :: x25 :: x26 :: x27 :: x28 :: x29 :: x30 :: x31 :: x32 :: x33 :: x34 :: x35 :: x36 :: x37 :: x38 :: x39 :: x40 :: x41 :: x42 :: x43 :: x44 :: x45 :: x46 :: x47 :: x48 :: x49 :: x50 :: x51 :: x52 :: x53 :: x54 :: x55 :: x56 :: x57 :: x58 :: x59 :: x60 :: x61 :: x62 :: x63 :: x64 :: x65 :: x66 :: x67 :: x68 :: x69 :: x70 :: x71 :: x72 :: x73 :: x74 :: x75 :: x76 :: x77 :: x78 :: x79 :: x80 :: x81 :: x82 :: x83 :: x84 :: x85 :: x86 :: x87 :: x88 :: x89 :: x90 :: x91 :: x92 :: x93 :: x94 :: x95 :: x96 :: x97 :: x98 :: x99 :: x100 :: x101 :: x102 :: x103 :: x104 :: x105 :: x106 :: x107 :: x108 :: x109 :: x110 :: x111 :: x112 :: x113 :: .bool tt :: x115 :: x116 :: x117 :: x118 :: x119 :: x120 :: x121 :: x122 :: x123 :: x124 :: x125 :: x126 :: x127 :: x128 :: x129 :: x130 :: x131 :: x132 :: x133 :: x134 :: x135 :: x136 :: x137 :: x138 :: x139 :: x140 :: x141 :: x142 :: x143 :: x144 :: x145 :: x146 :: x147 :: x148 :: x149 :: x150 :: x151 :: x152 :: x153 :: x154 :: x155 :: x156 :: x157 :: x158 :: x159 :: x160 :: x161 :: x162 :: x163 :: x164 :: x165 :: x166 :: x167 :: x168 :: x169 :: x170 :: x171 :: x172 :: x173 :: x174 :: x175 :: x176 :: x177 :: x178 :: []),[]⟩ wz:=by
 have HK:=Lib.hid hK
 clear hK
 conv=>arg 2;whnf
 go_cut [15,20] from 61 to 155 (fun s15 s20 wx =>∃(qs:List (Ev × Value)) (a2:Option Addr) (c2:Nat),s15=.slice a2 (ps ++ qs).length c2∧s20=.int .i64 (if tt=true then vs.headD 0 else 0)∧Hid (qs.map (·.1)=if tt=true then [⟨k,3,[vs.headD 0]⟩] else [])∧Hid (RcS w0 w0.heap.size cb ob gr cr mb cm is (if tt=true then vs.tail else vs) bs ds due b (ps ++ qs) a2 c2 ak nk ck m C wx))
 case rest =>
  exact HK.out _ _ _ _ _ _ _ _ _ _ _ _ _ _ _ _ _ _ _ _ _ _ _ _ _ _ _ _ _ _ _ _ _ _ _ _ _ _ _ _ _ _ _ _ _ _ _ _ _ _ _ _ _ _ _ _ _ _ _ _ _ _ _ _ _ _ _ _ _ _ _ _ _ _ _ _ _ _ _ _ _ _ _ _ _ _ _ _ _ _ _ _ _ _ _ _ _ _ hcut
 case first =>
  clear HK
  cases tt with
  | false =>
   go_wp2_with fail
   go_meet
   exact⟨[],aa,ca,by rw [List.append_nil],rfl,Lib.hid rfl,by rw [List.append_nil];exact HR⟩
  | true =>
   have HV:=Lib.hid (value_any HR.out.q.wb)
   have hz:WordZ (vs.headD 0):=by
    cases vs with
    | nil=>show WordZ 0;unfold WordZ;omega
    | cons z l=>exact hwv z (List.mem_cons_self ..)
   have HZ:=Lib.hid hz
   have HK:=Lib.hid hk
   clear hwv hz hk
   generalize vs.headD 0=z at *
   go_wp2_with fail
   refine HV.out.mono ?_
   rintro e w2 ⟨rfl,hwb2,hg2⟩
   have HR2:=Lib.hid (HR.out.world hg2 hwb2 (fun h0=>⟨(HR.out.q.blk h0).1,(HR.out.q.blk h0).2.kept hg2 (by
    cases hob2:(Value.slice ak nk ck).ownBlock with
    | none=>exact Or.inl rfl
    | some q=>refine Or.inr (fun e=>?_);obtain⟨a0,a1,a2,a3,c0,c1,c2,c3,hx,_⟩:=HR.out.q.wb.box;exact own_ne_block (HR.out.q.blk h0).2 hx (by decide) (by rw [hob2,e]))⟩) (Or.inl ⟨rfl,rfl,rfl⟩))
   clear hwb2 hg2 HV HR
   have HBW:=Lib.hid (below_alloc w2 (.cells #[.int .i64 z] 3))
   have HR3:=Lib.hid (HR2.out.below HBW.out)
   have HRW:=Lib.hid HR3.out.q.all.row
   have hsz:=HR3.out.low.2.size
   have hs2:(w2.alloc (.cells #[.int .i64 z] 3)).heap.size=w2.heap.size+1:=by simp
   have HNEW:=Lib.hid (show DOwn w0.heap.size (w2.alloc (.cells #[.int .i64 z] 3)) (⟨k,3,[z]⟩,.slice (some ⟨w2.heap.size,0,none⟩) 1 1) from ⟨World.ownsRow_lit (base:=w0.heap.size) (e:=3) (size:=1) w2 #[.int .i64 z] 1 (HR2.out.low.2.size) (by unfold maxLen;omega) rfl,fun y hy=>by rw [List.mem_singleton.1 hy];exact HZ.out.i64,by simp,by have:=HK.out;unfold I64;dsimp only;omega,by unfold I64;dsimp only;omega⟩)
   have HLT:=Lib.hid (show ∀ q,(Value.slice (some ⟨w2.heap.size,0,none⟩) 1 1).ownBlock=some q→¬ C q from fun q hq hc=>by have:=HR2.out.lt q hc;simp [Value.ownBlock] at hq;omega)
   have HBX:=Lib.hid (below_alloc (w2.alloc (.cells #[.int .i64 z] 3)) (.cells #[.int .i64 k,.int .i64 3,.slice (some ⟨w2.heap.size,0,none⟩) 1 1] 43))
   have HR4:=Lib.hid (HR3.out.below HBX.out)
   have HL1:=Lib.hid (show OutSt w0.heap.size [(⟨k,3,[z]⟩,.slice (some ⟨w2.heap.size,0,none⟩) 1 1)] (some ⟨w2.heap.size+1,0,none⟩) 1 ((w2.alloc (.cells #[.int .i64 z] 3)).alloc (.cells #[.int .i64 k,.int .i64 3,.slice (some ⟨w2.heap.size,0,none⟩) 1 1] 43)) from ⟨by
    have:=World.ownsRow_lit (base:=w0.heap.size) (e:=43) (size:=3) (w2.alloc (.cells #[.int .i64 z] 3)) #[.int .i64 k,.int .i64 3,.slice (some ⟨w2.heap.size,0,none⟩) 1 1] 1 hsz (by unfold maxLen;omega) rfl
    rw [hs2] at this
    exact this,fun p hp=>by
    rw [List.mem_singleton.1 hp]
    exact⟨own_below HNEW.out.1 HBX.out (Nat.le_refl _),HNEW.out.2⟩⟩)
   clear HRW
   go_upto_region 27 with fail
   go_wp2_with (at_builtin;go_loud (refine wpList_append_evs _ rfl (.tmp 117) (.tmp 122) rfl w0.heap.size ps [(⟨k,3,[z]⟩,.slice (some ⟨w2.heap.size,0,none⟩) 1 1)] aa (some ⟨w2.heap.size+1,0,none⟩) ca 1 (by rfl) (by rfl) HR4.out.q.all HL1.out (by simp;omega) HR4.out.low.2.size ?_);intro a5 c5 w5 hout5 hg5 hn5;have HO5:=Lib.hid hout5;have HG5:=Lib.hid hg5;have HN5:=Lib.hid hn5;clear hout5 hg5 hn5)
   go_meet
   have hlen:(ps ++ [((⟨k,3,[z]⟩:Ev),Value.slice (some ⟨w2.heap.size,0,none⟩) 1 1)]).length=ps.length+1:=by simp
   refine⟨[(⟨k,3,[z]⟩,.slice (some ⟨w2.heap.size,0,none⟩) 1 1)],a5,c5,by rw [hlen],rfl,Lib.hid rfl,Lib.hid ?_⟩
   refine HR4.out.told HG5.out HO5.out (fun p hp q hq=>?_) (by rw [hlen];rcases HN5.out with e | e;exact Or.inl e;exact Or.inr (fun q hq=>by have e2:=e.symm.trans hq;injection e2 with e2;omega)) (fun q hq=>(HR4.out.q.all.row.lt q hq).1)
   rcases List.mem_append.1 hp with hp | hp
   · exact HR4.out.kp.dat p hp q hq
   ·
    rw [List.mem_singleton.1 hp] at hq
    exact HLT.out q hq
theorem rc_ask {w0 wz:World} {cb ob gr cr mb cm:Nat} {is vs:List Int} {bs:List (List Int)} {ds:List Int} {due:Int} {b:List Int} {ps:List (Ev × Value)} {aa:Option Addr} {ca:Nat} {ak:Option Addr} {nk ck:Nat} {m:Mach} {C:Nat→Prop} {tt:Bool} {K:Act→World→Prop} {Q':Exit→Act→World→Prop} {x0 x1 x2 x3 x4 x5 x6 x7 x8 x9 x10 x11 x15 x16 x17 x18 x19 x20 x21 x22 x23 x24 x25 x26 x27 x28 x29 x30 x31 x32 x33 x34 x35 x36 x37 x38 x39 x40 x41 x42 x43 x44 x45 x46 x47 x48 x49 x50 x51 x52 x53 x54 x55 x56 x57 x58 x59 x60 x61 x62 x63 x64 x65 x66 x67 x68 x69 x70 x71 x72 x73 x74 x75 x76 x77 x78 x79 x80 x81 x82 x83 x84 x85 x86 x87 x88 x89 x90 x91 x92 x93 x94 x95 x96 x97 x98 x99 x100 x101 x102 x103 x104 x105 x106 x107 x108 x109 x110 x111 x112 x113 x114 x115 x116 x117 x118 x119 x120 x121 x122 x123 x124 x125 x126 x127 x128 x129 x130 x131 x132 x133 x134 x135 x136 x137 x138 x139 x140 x141 x142 x144 x145 x146 x147 x148 x149 x150 x151 x152 x153 x154 x155 x156 x157 x158 x159 x160 x161 x162 x163 x164 x165 x166 x167 x168 x169 x170 x171 x172 x173 x174 x175 x176 x177 x178:Value} (HR:Hid (RcS w0 w0.heap.size cb ob gr cr mb cm is vs bs ds due b ps aa ca ak nk ck m C wz)) (hk:0≤m.count∧m.count≤3000) (hds:∀ z∈ds,0≤z∧z≤3000) (hbs:∀ b∈bs,b.length=16) (hK:∀ (y61 y62 y63 y64 y65 y66 y67 y68 y69 y70 y71 y72 y73 y74 y75 y76 y77 y78 y79 y80 y81 y82 y83 y84 y85 y86 y87 y88 y89 y90 y91 y92 y93 y94 y95 y96 y97 y98 y99 y100 y101 y102 y103 y104 y105 y106 y107 y108 y109 y110 y111 y112 y113 y114 y115 y116 y117 y118 y119 y120 y121 y122 y123 y124 y125 y126 y127 y128 y129 y130 y131 y132 y133 y134 y135 y136 y137 y138 y139 y140 y141 y142 y143 y144 y145 y146 y147 y148 y149 y150 y151 y152 y153 y154 y155:Value)  (wx:World),(∃ (ak2:Option Addr) (nk2 ck2:Nat),Hid (RcS w0 w0.heap.size cb ob gr cr mb cm is vs (if tt=true then bs.tail else bs) (if tt=true then ds.tail else ds) (if tt=true then m.count+ds.headD 0 else due) (if tt=true then bs.headD zero16 else b) ps aa ca ak2 nk2 ck2 m C wx))→K ⟨List.toArray (x0 :: x1 :: x2 :: x3 :: x4 :: x5 :: x6 :: x7 :: x8 :: x9 :: x10 :: x11 :: .pointer (some ⟨cb,0,none⟩) :: .slice (some ⟨mb,0,none⟩) 256 cm :: .pointer (some ⟨ob,0,none⟩) :: x15 :: x16 :: x17 :: x18 :: x19 :: x20 :: x21 :: x22 :: x23 :: x24 :: x25 :: x26 :: x27 :: x28 :: x29 :: x30 :: x31 :: x32 :: x33 :: x34 :: x35 :: x36 :: x37 :: x38 :: x39 :: x40 :: x41 :: x42 :: x43 :: x44 :: x45 :: x46 :: x47 :: x48 :: x49 :: x50 :: x51 :: x52 :: x53 :: x54 :: x55 :: x56 :: x57 :: x58 :: x59 :: x60 :: y61 :: y62 :: y63 :: y64 :: y65 :: y66 :: y67 :: y68 :: y69 :: y70 :: y71 :: y72 :: y73 :: y74 :: y75 :: y76 :: y77 :: y78 :: y79 :: y80 :: y81 :: y82 :: y83 :: y84 :: y85 :: y86 :: y87 :: y88 :: y89 :: y90 :: y91 :: y92 :: y93 :: y94 :: y95 :: y96 :: y97 :: y98 :: y99 :: y100 :: y101 :: y102 :: y103 :: y104 :: y105 :: y106 :: y107 :: y108 :: y109 :: y110 :: y111 :: y112 :: y113 :: y114 :: y115 :: y116 :: y117 :: y118 :: y119 :: y120 :: y121 :: y122 :: y123 :: y124 :: y125 :: y126 :: y127 :: y128 :: y129 :: y130 :: y131 :: y132 :: y133 :: y134 :: y135 :: y136 :: y137 :: y138 :: y139 :: y140 :: y141 :: y142 :: y143 :: y144 :: y145 :: y146 :: y147 :: y148 :: y149 :: y150 :: y151 :: y152 :: y153 :: y154 :: y155 :: x156 :: x157 :: x158 :: x159 :: x160 :: x161 :: x162 :: x163 :: x164 :: x165 :: x166 :: x167 :: x168 :: x169 :: x170 :: x171 :: x172 :: x173 :: x174 :: x175 :: x176 :: x177 :: x178 :: []),[]⟩ wx):(c12 [1,1,1,1,1,1,1,1,1,0,0,0,1,0,1,1,1,1,1,1,1,1,1,0,1]).wp Tryz.prog (Exit.then K Q') ⟨List.toArray (x0 :: x1 :: x2 :: x3 :: x4 :: x5 :: x6 :: x7 :: x8 :: x9 :: x10 :: x11 :: .pointer (some ⟨cb,0,none⟩) :: .slice (some ⟨mb,0,none⟩) 256 cm :: .pointer (some ⟨ob,0,none⟩) :: x15 :: x16 :: x17 :: x18 :: x19 :: x20 :: x21 :: x22 :: x23 :: x24 :: x25 :: x26 :: x27 :: x28 :: x29 :: x30 :: x31 :: x32 :: x33 :: x34 :: x35 :: x36 :: x37 :: x38 :: x39 :: x40 :: x41 :: x42 :: x43 :: x44 :: x45 :: x46 :: x47 :: x48 :: x49 :: x50 :: x51 :: x52 :: x53 :: x54 :: x55 :: x56 :: x57 :: x58 :: x59 :: x60 :: x61 :: x62 :: x63 :: x64 :: x65 :: x66 :: x67 :: x68 :: x69 :: x70 :: x71 :: x72 :: x73 :: x74 :: x75 :: x76 :: x77 :: x78 :: x79 :: x80 :: x81 :: x82 :: x83 :: x84 :: x85 :: x86 :: x87 :: x88 :: x89 :: x90 :: x91 :: x92 :: x93 :: x94 :: x95 :: x96 :: x97 :: x98 :: x99 :: x100 :: x101 :: x102 :: x103 :: x104 :: x105 :: x106 :: x107 :: x108 :: x109 :: x110 :: x111 :: x112 :: x113 :: x114 :: x115 :: x116 :: x117 :: x118 :: x119 :: x120 :: x121 :: x122 :: x123 :: x124 :: x125 :: x126 :: x127 :: x128 :: x129 :: x130 :: x131 :: x132 :: x133 :: x134 :: x135 :: x136 :: x137 :: x138 :: x139 :: x140 :: x141 :: x142 :: .bool tt :: x144 :: x145 :: x146 :: x147 :: x148 :: x149 :: x150 :: x151 :: x152 :: x153 :: x154 :: x155 :: x156 :: x157 :: x158 :: x159 :: x160 :: x161 :: x162 :: x163 :: x164 :: x165 :: x166 :: x167 :: x168 :: x169 :: x170 :: x171 :: x172 :: x173 :: x174 :: x175 :: x176 :: x177 :: x178 :: []),[]⟩ wz:=by
 have HK:=Lib.hid hK
 clear hK
 conv=>arg 2;whnf
 go_cut [] from 61 to 155 (fun  wx =>∃(ak2:Option Addr) (nk2 ck2:Nat),Hid (RcS w0 w0.heap.size cb ob gr cr mb cm is vs (if tt=true then bs.tail else bs) (if tt=true then ds.tail else ds) (if tt=true then m.count+ds.headD 0 else due) (if tt=true then bs.headD zero16 else b) ps aa ca ak2 nk2 ck2 m C wx))
 case rest =>
  exact HK.out _ _ _ _ _ _ _ _ _ _ _ _ _ _ _ _ _ _ _ _ _ _ _ _ _ _ _ _ _ _ _ _ _ _ _ _ _ _ _ _ _ _ _ _ _ _ _ _ _ _ _ _ _ _ _ _ _ _ _ _ _ _ _ _ _ _ _ _ _ _ _ _ _ _ _ _ _ _ _ _ _ _ _ _ _ _ _ _ _ _ _ _ _ _ _ _ hcut
 case first =>
  clear HK
  cases tt with
  | false =>
   go_wp2_with fail
   go_meet
   exact⟨ak,nk,ck,HR⟩
  | true =>
   have HA:=Lib.hid (asked_any HR.out.q.wb m.count hk hds hbs)
   obtain⟨wro,ao,co,hx⟩:=HR.out.cells
   have c6:wz.cell? ⟨cb,6,none⟩=some (.int .i64 m.count):=cell_block hx 6
   have lc:cb < wz.heap.size:=(Array.getElem?_eq_some_iff.1 hx).1
   clear hx hds hbs
   go_wp2_with fail
   refine HA.out.mono ?_
   rintro e w2 ⟨a2,c2,rfl,hwb,hrow,hg⟩
   have HR2:=Lib.hid (HR.out.world hg hwb (fun _=>⟨rfl,own_base hrow HR.out.low.2.size⟩) (Or.inr (fun q hq=>hrow.lt q hq)))
   clear hwb hrow hg HA c6 lc
   go_wp2_with fail
   go_meet
   exact⟨a2,16,c2,HR2⟩
def RecE (l:List UInt8) (cnt:Int) (i2:List Int) (m:Mach):Prop:=l=[]∧cnt=0∧i2=[]∧m=zeroM
def recS0 (img:List Int):RSs:=⟨imageM img,[],0,0,-1⟩
def RecR (img is vs:List Int) (bs:List (List Int)) (ds:List Int) (n c:Int) (l:List UInt8) (cnt:Int) (i2:List Int) (m:Mach):Prop:=
 (newC img≠0∧c=newC img∧RecE l cnt i2 m)∨(newC img=0∧worldC is vs bs ds≠0∧c=worldC is vs bs ds∧RecE l cnt i2 m)∨(newC img=0∧worldC is vs bs ds=0∧(n < 0∨3000 < n)∧c=2∧RecE l cnt i2 m) ∨
 (newC img=0∧worldC is vs bs ds=0∧0≤n∧n≤3000∧(((recL is vs bs ds n n.toNat (recS0 img)).2=true∧c=1∧RecE l cnt i2 m) ∨
  ((recL is vs bs ds n n.toNat (recS0 img)).2=false∧∃ d,EvRes (recL is vs bs ds n n.toNat (recS0 img)).1.all d∧((d≠0∧c=d∧RecE l cnt i2 m)∨(d=0∧c=0∧l=encE (recL is vs bs ds n n.toNat (recS0 img)).1.all∧cnt=(recL is vs bs ds n n.toNat (recS0 img)).1.m.count∧i2=img∧m=(recL is vs bs ds n n.toNat (recS0 img)).1.m)))))
def RecPost (img is vs:List Int) (bs:List (List Int)) (ds:List Int) (n:Int) (w:World) (e:Ending) (w':World):Prop:=∃ c l cnt i2 m vi vb ar cr am cm ao co,RecR img is vs bs ds n c l cnt i2 m∧e=.returned (.tuple #[.agg #[vi,vb,.int .i64 cnt],m.agg (.slice ar m.regs.length cr) (.slice am m.mem.length cm) (.slice ao m.out.length co),.int .i64 c])∧w'.ownsRow w.heap.size 3 1 vi i2.length (i2.map (Value.int .i64))∧w'.ownsRow w.heap.size 5 1 vb l.length (bv l)∧((∀ z∈i2,I64 z)∧i2.length≤17592186043904∧l.length≤100000000)∧MachOwn w.heap.size w' m (.slice ar m.regs.length cr) (.slice am m.mem.length cm) (.slice ao m.out.length co)∧Below w.heap.size w w'
theorem RecPost.no {img is vs:List Int} {bs:List (List Int)} {ds:List Int} {n c:Int} {w w':World} (h:RecR img is vs bs ds n c [] 0 [] zeroM) (hb:Below w.heap.size w w'):RecPost img is vs bs ds n w (.returned (.tuple #[.agg #[.slice none 0 0,.slice none 0 0,.int .i64 0],.agg #[.slice none 0 0,.int .i64 0,.int .i64 0,.bool false,.bool false,.int .i64 0,.int .i64 0,.int .i64 0,.slice none 0 0,.slice none 0 0,.int .i64 0,.int .i64 0],.int .i64 c])) w':=
 ⟨c,[],0,[],zeroM,.slice none 0 0,.slice none 0 0,none,0,none,0,none,0,h,rfl,World.ownsRow_nil _ _ _ _,World.ownsRow_nil _ _ _ _,⟨fun z hz=>(by cases hz),Nat.zero_le _,Nat.zero_le _⟩,zeroM_own _ _,hb⟩
theorem recE0:RecE [] 0 [] zeroM:=⟨rfl,rfl,rfl,rfl⟩
theorem aheadR_kind {is:List Int} {bs:List (List Int)} {s:RSs} {x:Ev} (h:x∈aheadR is bs s):x.kind≠3:=by
 unfold aheadR at h
 rcases List.mem_append.1 h with h | h
 ·
  split at h
  · rw [List.mem_singleton.1 h];show (1:Int)≠3;decide
  · cases h
 ·
  split at h
  · rw [List.mem_singleton.1 h];show (2:Int)≠3;decide
  · cases h
theorem aheadR_len (is:List Int) (bs:List (List Int)) (s:RSs):(aheadR is bs s).length≤2:=by
 unfold aheadR
 rw [List.length_append]
 split <;> split <;> simp
theorem headD_drop {α:Type} (l:List α) (k:Nat) (d:α):(l.drop k).headD d=l.getD k d:=by
 rw [List.headD_eq_head?_getD,List.head?_drop,List.getD_eq_getElem?_getD]
theorem enterM_want (m:Mach):(enterM m).want=m.want:=by unfold enterM;split <;> rfl
theorem nextZ_dec2 {m:Mach} (h:(nextZ m).2=0):decC (nextZ m).1=0:=by
 unfold nextZ at *
 split at h
 · rename_i k;exact absurd h k
 ·
  rename_i k
  rw [if_neg k]
  split at h
  · simp at h
  ·
   rename_i k2
   rw [if_neg k2]
   simpa using k2
theorem instV_shape (z:Int × Int):∃ io ia ib inn,instV z=.agg #[.int .i64 io,.int .i64 ia,.int .i64 ib,.int .i64 inn]∧(z.2=0→io=decOp z.1∧inn=decN z.1∨decC z.1≠0):=by
 unfold instV decV
 split
 ·
  split
  · exact⟨_,_,_,_,rfl,fun _=>Or.inl ⟨rfl,rfl⟩⟩
  · rename_i h;exact⟨_,_,_,_,rfl,fun _=>Or.inr h⟩
 · rename_i h;exact⟨_,_,_,_,rfl,fun k=>absurd k h⟩
theorem recok_start {img:List Int} (h:MOk (imageM img)):RecOk (recS0 img):=⟨h,fun h=>absurd h (by show ¬ (0:Int)≤-1;decide),Or.inl rfl,fun x hx=>(by cases hx),Nat.zero_le _⟩
theorem rcs_start {W1 W4:World} {cb gr cr mb cm:Nat} {is vs:List Int} {bs:List (List Int)} {ds:List Int} {a0 a1 a2 a3:Option Addr} {c0 c1 c2 c3:Nat} {m:Mach} {ao:Option Addr} {co:Nat} {b:List Int} (hm:MOk m) (hg:GSt (FlatSt mb cm) W1 (fun _=>False) cb gr cr (.slice (some ⟨mb,0,none⟩) 256 cm) m 0 false ao co (fun g=>g=mb) W4) (h0:Ints W1.heap.size W1 (.slice a0 is.length c0) is) (h1:Ints W1.heap.size W1 (.slice a1 vs.length c1) vs) (h2:RowsR W1.heap.size W1 (.slice a2 bs.length c2) bs) (h3:Ints W1.heap.size W1 (.slice a3 ds.length c3) ds):∃ C0,RcS W1 W1.heap.size cb W4.heap.size gr cr mb cm is vs bs ds (-1) b [] none 0 none 0 0 m C0 (W4.alloc (.cells #[.slice a0 is.length c0,.slice a1 vs.length c1,.slice a2 bs.length c2,.slice a3 ds.length c3,.slice none 0 0,.int .i64 (-1)] 70 (0,0))):=by
 have h5:=hg.alloc (rflat_is mb cm) (.cells #[.slice a0 is.length c0,.slice a1 vs.length c1,.slice a2 bs.length c2,.slice a3 ds.length c3,.slice none 0 0,.int .i64 (-1)] 70 (0,0))
 have hlt:∀ q,Dn cb gr ao m.out.length co (fun g=>g=mb) q→q < W4.heap.size:=by
  rintro q (rfl | rfl | hF | ho)
  · exact hg.clt
  · exact hg.rlt
  · exact (rflat_is mb cm).lt _ _ _ _ hg.mem q hF
  · exact (hg.out.lt q ho).2
 refine⟨_,0,ao,co,fun g=>g=mb,rfl,h5,⟨⟨⟨a0,a1,a2,a3,c0,c1,c2,c3,alloc_at rfl,h0,h1,h2,h3⟩,h5.old.same (Nat.le_refl _) (fun _ _ q=>q),h5.old.size,hg.old.size⟩,OutSt.nil _ _,fun h=>absurd h (by decide),fun q hq=>by simp [Value.ownBlock] at hq⟩,⟨fun h=>by have:=hlt _ h;omega,fun q hq=>by simp [Value.ownBlock] at hq,fun p hp=>(by cases hp),fun q hq=>by simp [Value.ownBlock] at hq⟩,hm,Nat.le_refl _,hg.old.size⟩
theorem evres_ex (l:List Ev):∃ c,EvRes l c:=by
 by_cases h:1000 < l.length
 · exact⟨1,Or.inl ⟨h,rfl⟩⟩
 ·
  by_cases h2:∃ k,k < l.length∧fAt l k≠0
  ·
   have h3:∃ k,k < l.length∧(∀ j,j < k→fAt l j=0)∧fAt l k≠0:=by
    obtain⟨k,hk,hk2⟩:=h2
    induction k using Nat.strongRecOn with
    | _ k ih =>
     by_cases h4:∃ j,j < k∧fAt l j≠0
     ·
      obtain⟨j,hj,hj2⟩:=h4
      exact ih j hj (by omega) hj2
     · exact⟨k,hk,fun j hj=>Classical.byContradiction fun q=>h4 ⟨j,hj,q⟩,hk2⟩
   obtain⟨k,hk,h4,h5⟩:=h3
   exact⟨fAt l k,Or.inr (Or.inl ⟨by omega,k,hk,h4,rfl,h5⟩)⟩
  · exact⟨0,Or.inr (Or.inr ⟨by omega,fun j hj=>Classical.byContradiction fun q=>h2 ⟨j,hj,q⟩,rfl⟩)⟩
end Go.Proofs.YtkahciebbnhobaaGreatDoor
