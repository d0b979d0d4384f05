/- Several texts joined, each with its own heading in the notes: The contracts of evlog. Events as bytes, whole: what Encode answers, in plain Lean; its length. The contract of evlog. The contract of evlog. The contract of the reference's EventBytes. No condition beyond those of each row. -/
import Derived.Test.YtkahciebbnhobaaGreatDoorYCl
import Derived.Test.YtkahciebbnhobaaGreatDoorYEv
import Derived.Test.YtkahciebbnhobaaGreatDoorYMem
import Derived.Deep.CutBlock
import Derived.Deep.DeepCutAuto
import Derived.Deep.LoopGhost
import Derived.Deep.RegionLaw
import Derived.BigQuiet
namespace Go.Proofs.YtkahciebbnhobaaGreatDoor
open Go Go.RowKit Go.ChangeShapes Go.WideShapes Go.Deep
set_option maxHeartbeats 4000000
set_option linter.unusedVariables false
def bv (bs:List UInt8):List Value:=bs.map (fun b=>Value.int .u8 (b.toNat:Int))
theorem bv_app (a b:List UInt8):bv (a ++ b)=bv a ++ bv b:=by simp [bv]
theorem info_u8:(Tryz.prog.info? 5).map (fun i=>(i.zero,i.size,i.bytes))=some (some (.int .u8 0),1,1):=by kernel_rfl
def Lies (w:World) (r r':Option Nat):Prop:=r'=r∨∃ g,r'=some g∧w.heap.size≤g
theorem grown_alloc {w wr:World} {r:Option Nat} (h:w.grownBy wr r) (O:Obj):w.grownBy (wr.alloc O) r:=
 ⟨h.os,h.tape,h.output,by have:=h.size;simp;omega,fun k hk hne=>(alloc_lt (by have:=h.size;omega)).trans (h.block k hk hne)⟩
theorem grown_trans {w w1 w2:World} {r r1:Option Nat} (h:w.grownBy w1 r) (h2:w1.grownBy w2 r1) (hl:Lies w r r1):w.grownBy w2 r:=by
 refine⟨h2.os.trans h.os,h2.tape.trans h.tape,h2.output.trans h.output,Nat.le_trans h.size h2.size,fun k hk hne=>?_⟩
 rw [h2.block k (Nat.lt_of_lt_of_le hk h.size) ?_,h.block k hk hne]
 rcases hl with e | ⟨g,e,hg⟩
 · rw [e];exact hne
 · rw [e];intro e';injection e' with e';omega
theorem Lies.step {w w1:World} {r r1 r2:Option Nat} (h:Lies w r r1) (hs:w.heap.size≤w1.heap.size) (h2:Lies w1 r1 r2):Lies w r r2:=by
 rcases h2 with e | ⟨g,e,hg⟩
 · rw [e];exact h
 · exact Or.inr ⟨g,e,by omega⟩
def NumPost (base:Nat) (w:World) (r:Option Nat) (bs:List UInt8) (e:Ending) (w':World):Prop:=∃ a c,e=.returned (.slice a bs.length c)∧w'.ownsRow base 5 1 (.slice a bs.length c) bs.length (bv bs)∧w.grownBy w' r∧Lies w r (Value.slice a bs.length c).ownBlock
theorem or_comm64 (a b:Int):bits .or .i64 a b=bits .or .i64 b a:=by
 show IntKind.i64.wrap ((BitVec.ofInt 64 a ||| BitVec.ofInt 64 b).toNat:Int)=IntKind.i64.wrap ((BitVec.ofInt 64 b ||| BitVec.ofInt 64 a).toNat:Int)
 rw [BitVec.or_comm]
theorem or128 (m:Nat):bits .or .i64 ((m:Int) % 128) 128=128+(m:Int) % 128:=by
 rw [or_comm64,i64_or_join 7 (by decide) 128 ((m:Int) % 128) (by omega) (by unfold I64;omega) (by omega) (by omega)]
theorem byte_of {n:Nat} (h:n < 256):IntKind.u8.wrap (n:Int)=((UInt8.ofNat n).toNat:Int):=by
 rw [u8_nat h,IntKind.wrap_u8]
 omega
theorem number_any (base : Nat) (v : Value) (bs : List UInt8) (k : Nat) (w : World) (hv : w.ownsRow base 5 1 v bs.length (bv bs)) (hbase : base ≤ w.heap.size) (hk : k < 9223372036854775808) (hlen : (bs ++ sevens k).length ≤ 100000000) :
  Calls Tryz.prog 37 #[v,.int .i64 k] w (NumPost base w v.ownBlock (bs ++ sevens k)):=by
 have HV:=Lib.hid hv
 clear hv
 go_enter Tryz.func37,Tryz.ntmps37
 go_wp2
 go_loopw [0,1] (fun s0 s1 wr =>∃(b':List UInt8) (m:Nat) (a:Option Addr) (c:Nat),s0=.slice a b'.length c∧s1=.int .i64 m∧m≤k∧Hid (bs ++ sevens k=b' ++ sevens m)∧Hid (wr.ownsRow base 5 1 (.slice a b'.length c) b'.length (bv b'))∧Hid (w.grownBy wr v.ownBlock)∧Hid (Lies w v.ownBlock (Value.slice a b'.length c).ownBlock)) (fun _ s1 _=>(intOf s1).toNat)
 case atStart =>
  obtain⟨a,c,rfl⟩:=own_shape HV.out
  exact⟨bs,k,a,c,rfl,rfl,Nat.le_refl _,Lib.hid rfl,HV,Lib.hid (World.grownBy.refl _ _),Lib.hid (Or.inl rfl)⟩
 case round =>
  obtain⟨b',m,a,c,rfl,rfl,hmk,E,O,G,L⟩:=hrel
  have hs:=G.out.size
  have hbl:b'.length≤100000000:=by
   have h:(b' ++ sevens m).length≤100000000:=by rw [← E.out];exact hlen
   rw [List.length_append] at h
   omega
  obtain⟨i0,hi0,hz0,hz1,hz2⟩:=info_parts info_u8
  by_cases hm:127 < m
  ·
   have hm':(127:Int) < (m:Int):=by omega
   have e1:bits .and .i64 (m:Int) 127=(m:Int) % 128:=i64_and127 _
   have e2:=or128 m
   have e3:IntKind.u8.wrap (128+(m:Int) % 128)=((UInt8.ofNat (128+m % 128)).toNat:Int):=by
    rw [← byte_of (by omega)];congr 1 <;> omega
   go_wp2_with (at_builtin;go_loud (refine wpList_append_lies _ rfl (.tmp 7) (.tmp 12) 30 rfl base 5 i0 (.int .u8 0) 1 1 Tryz.underlying30 hi0 hz0 hz1 hz2 rfl (by decide) (.slice a b'.length c) b'.length _ (by rfl) (O.out.alloc _) ⟨wr.heap.size,0,none⟩ 1 1 [.int .u8 ((UInt8.ofNat (128+m % 128)).toNat:Int)] (by rfl) rfl (World.news_of_block (heap_alloc_new wr _)) (by simp [Value.oneCell']) (by omega) (by unfold maxLen;omega) (by omega) (by simp;omega) _ rfl ?_);intro g4 cp4 w4 hown4 hgrow4 hat4 hlt4)
   have hbv:bv b' ++ [.int .u8 ((UInt8.ofNat (128+m % 128)).toNat:Int)]=bv (b' ++ [UInt8.ofNat (128+m % 128)]):=by rw [bv_app];rfl
   have E2:=Lib.hid (show bs ++ sevens k=(b' ++ [UInt8.ofNat (128+m % 128)]) ++ sevens (m / 128) by rw [E.out,sevens_more (by omega),List.append_assoc];rfl)
   have O2:=Lib.hid (hbv▸hown4)
   have G2:=Lib.hid (grown_trans (grown_alloc G.out _) hgrow4 L.out)
   have L2:=Lib.hid (Lies.step (w1:=wr) L.out hs (r2:=some g4) (by rcases hat4 with e | e;exact Or.inl e.symm;exact Or.inr ⟨g4,rfl,by simp at e;omega⟩))
   go_roundw
   case rel=>exact⟨b' ++ [UInt8.ofNat (128+m % 128)],m / 128,some ⟨g4,0,none⟩,cp4,by simp,by go_num,by omega,E2,by simpa using O2,G2,L2⟩
   case measure=>simp [intOf];omega
  ·
   have hm':¬ (127:Int) < (m:Int):=by omega
   have e3:IntKind.u8.wrap (m:Int)=((UInt8.ofNat m).toNat:Int):=byte_of (by omega)
   go_wp2_with (at_builtin;go_loud (refine wpList_append_lies _ rfl (.tmp 16) (.tmp 19) 30 rfl base 5 i0 (.int .u8 0) 1 1 Tryz.underlying30 hi0 hz0 hz1 hz2 rfl (by decide) (.slice a b'.length c) b'.length _ (by rfl) (O.out.alloc _) ⟨wr.heap.size,0,none⟩ 1 1 [.int .u8 ((UInt8.ofNat m).toNat:Int)] (by rfl) rfl (World.news_of_block (heap_alloc_new wr _)) (by simp [Value.oneCell']) (by omega) (by unfold maxLen;omega) (by omega) (by simp;omega) _ rfl ?_);intro g4 cp4 w4 hown4 hgrow4 hat4 hlt4)
   have hfin:bs ++ sevens k=b' ++ [UInt8.ofNat m]:=by rw [E.out,sevens_small (by omega)]
   have hbv:bv b' ++ [.int .u8 ((UInt8.ofNat m).toNat:Int)]=bv (b' ++ [UInt8.ofNat m]):=by rw [bv_app];rfl
   have O2:=Lib.hid (hbv▸hown4)
   have G2:=Lib.hid (grown_trans (grown_alloc G.out _) hgrow4 L.out)
   have L2:=Lib.hid (Lies.step (w1:=wr) L.out hs (r2:=some g4) (by rcases hat4 with e | e;exact Or.inl e.symm;exact Or.inr ⟨g4,rfl,by simp at e;omega⟩))
   rw [hfin]
   go_ret
   exact⟨some ⟨g4,0,none⟩,cp4,by simp,by simpa using O2.out,G2.out,L2.out⟩
theorem signed_any (base : Nat) (v : Value) (bs : List UInt8) (z : Int) (w : World) (hv : w.ownsRow base 5 1 v bs.length (bv bs)) (hbase : base ≤ w.heap.size) (hz : -4611686018427387000 ≤ z ∧ z ≤ 4611686018427387000) (hlen : (bs ++ sevens (zig z)).length ≤ 100000000) :
  Calls Tryz.prog 38 #[v,.int .i64 z] w (NumPost base w v.ownBlock (bs ++ sevens (zig z))):=by
 have HV:=Lib.hid hv
 clear hv
 obtain⟨hz1,hz2⟩:=hz
 by_cases h0:z < 0
 ·
  have e:((zig z:Nat):Int) = -2 * z - 1:=by unfold zig;rw [if_pos h0];omega
  have HN:=Lib.hid (number_any base v bs (zig z) w HV.out hbase (by omega) hlen)
  rw [e] at HN
  clear e
  generalize bs ++ sevens (zig z)=out at *
  go_enter Tryz.func38,Tryz.ntmps38
  go_wp2_with fail
  refine HN.out.mono ?_
  rintro e w1 ⟨a,c,rfl,h1,h2,h3⟩
  go_wp2
  go_ret
  exact⟨a,c,rfl,h1,h2,h3⟩
 ·
  have e:((zig z:Nat):Int)=2 * z:=by unfold zig;rw [if_neg h0];omega
  have HN:=Lib.hid (number_any base v bs (zig z) w HV.out hbase (by omega) hlen)
  rw [e] at HN
  clear e
  generalize bs ++ sevens (zig z)=out at *
  go_enter Tryz.func38,Tryz.ntmps38
  go_wp2_with fail
  refine HN.out.mono ?_
  rintro e w1 ⟨a,c,rfl,h1,h2,h3⟩
  go_wp2
  go_ret
  exact⟨a,c,rfl,h1,h2,h3⟩
/-! ### The sum -/
def sumS (x y:Nat):List UInt8→Nat × Nat
 | []=>(x,y)
 | c :: bs=>sumS ((x+c.toNat) % 65521) ((y+(x+c.toNat) % 65521) % 65521) bs
theorem sumS_app (a b:List UInt8):∀ x y,sumS x y (a ++ b)=sumS (sumS x y a).1 (sumS x y a).2 b:=by
 induction a with
 | nil=>intro x y;rfl
 | cons c a ih=>intro x y;exact ih _ _
theorem sumS_lt (bs:List UInt8):∀ x y,x < 65521→y < 65521→(sumS x y bs).1 < 65521∧(sumS x y bs).2 < 65521:=by
 induction bs with
 | nil=>intro x y h1 h2;exact⟨h1,h2⟩
 | cons c bs ih=>intro x y _ _;exact ih _ _ (Nat.mod_lt _ (by decide)) (Nat.mod_lt _ (by decide))
def sum1 (bs:List UInt8):Nat:=(sumS 1 0 bs).1
def sum2 (bs:List UInt8):Nat:=(sumS 1 0 bs).2
def sumB (bs:List UInt8):List UInt8:=[UInt8.ofNat (sum2 bs / 256),UInt8.ofNat (sum2 bs % 256),UInt8.ofNat (sum1 bs / 256),UInt8.ofNat (sum1 bs % 256)]
theorem take_snoc (bs:List UInt8) (k:Nat) (h:k < bs.length):bs.take (k+1)=bs.take k ++ [bs[k]]:=by rw [List.take_add_one,List.getElem?_eq_getElem h];rfl
theorem sum_step (bs:List UInt8) (k:Nat) (h:k < bs.length):sumS 1 0 (bs.take (k+1))=(((sumS 1 0 (bs.take k)).1+bs[k].toNat) % 65521,((sumS 1 0 (bs.take k)).2+((sumS 1 0 (bs.take k)).1+bs[k].toNat) % 65521) % 65521):=by
 rw [take_snoc bs k h,sumS_app]
 rfl
theorem sum_any (v:Value) (bs:List UInt8) (w:World) (hf:BytesR w.heap.size w v bs):Calls Tryz.prog 39 #[v] w fun e w'=>e=.returned (.int .i64 ((sum2 bs:Int) * 65536+sum1 bs))∧w=w':=by
 obtain⟨a,cap,rfl,hl,hl2,hc⟩:=hf
 have HC:=Lib.hid hc
 clear hc
 go_enter Tryz.func39,Tryz.ntmps39
 go_wp2
 go_loop [3,4,9] (fun s3 s4 s9 =>∃k x y:Nat,k≤bs.length∧s9=.int .i64 k∧s3=.int .i64 x∧s4=.int .i64 y∧Hid (sumS 1 0 (bs.take k)=(x,y))∧x < 65521∧y < 65521) (fun _ _ s9=>bs.length - (intOf s9).toNat)
 case atStart=>exact⟨0,1,0,Nat.zero_le _,rfl,rfl,rfl,Lib.hid rfl,by omega,by omega⟩
 case round =>
  obtain⟨k,x,y,hk,rfl,rfl,rfl,S,hx,hy⟩:=hrel
  by_cases hlt:k < bs.length
  ·
   obtain⟨b,off,vi,ha,hb,hcell,hvi⟩:=HC.out k hlt
   subst ha
   unfold ByteV at hvi
   subst hvi
   have hstep:=sum_step bs k hlt
   rw [S.out] at hstep
   have HS:=Lib.hid hstep
   have hc:=u8_lt bs[k]
   generalize bs[k].toNat=z at *
   clear hstep
   go_wp2
   go_round
   case rel=>exact⟨k+1,(x+z) % 65521,(y+(x+z) % 65521) % 65521,by omega,by go_num,by go_num,by go_num,HS,Nat.mod_lt _ (by decide),Nat.mod_lt _ (by decide)⟩
   case measure=>simp [intOf];omega
  ·
   obtain rfl:k=bs.length:=by omega
   have hS:sumS 1 0 bs=(x,y):=by have:=S.out;rwa [List.take_length] at this
   have h1:sum1 bs=x:=by unfold sum1;rw [hS]
   have h2:sum2 bs=y:=by unfold sum2;rw [hS]
   have H1:=Lib.hid h1
   have H2:=Lib.hid h2
   clear h1 h2 hS
   have hj:=i64_or_join 16 (by decide) ((y:Int) * 65536) (x:Int) (by omega) (by unfold I64;omega) (by omega) (by omega)
   have hw:IntKind.i64.wrap ((y:Int) * 65536)=(y:Int) * 65536:=IntWalk.i64_in _ (by omega)
   go_wp2
   go_ret
   exact⟨ret_int (by rw [H1.out,H2.out]),rfl⟩
end Go.Proofs.YtkahciebbnhobaaGreatDoor
namespace Go.Proofs.YtkahciebbnhobaaGreatDoor
set_option linter.unusedVariables false
def dataE (x:Ev):List UInt8:=if x.kind=2 then runsE 0 0 x.data else if x.kind=3 then sevens (zig (x.data.getD 0 0)) else []
def evE (a:Int) (x:Ev):List UInt8:=sevens (4 * (x.at_ - a)+x.kind).toNat ++ dataE x
def evsE:Int→List Ev→List UInt8
 | _,[]=>[]
 | a,x :: l=>evE a x ++ evsE x.at_ l
def lastAt:Int→List Ev→Int
 | a,[]=>a
 | _,x :: l=>lastAt x.at_ l
theorem evsE_app (l m:List Ev):∀ a,evsE a (l ++ m)=evsE a l ++ evsE (lastAt a l) m:=by
 induction l with
 | nil=>intro a;rfl
 | cons x l ih=>intro a;rw [List.cons_append,evsE,evsE,lastAt,ih,List.append_assoc]
theorem lastAt_app (l:List Ev) (x:Ev):∀ a,lastAt a (l ++ [x])=x.at_:=by
 induction l with
 | nil=>intro a;rfl
 | cons y l ih=>intro a;exact ih _
def payE (l:List Ev):List UInt8:=sevens l.length ++ evsE 0 l
def encE (l:List Ev):List UInt8:=payE l ++ sumB (payE l)
theorem sevens_le:∀ (n k:Nat),k < 128 ^ (n+1)→(sevens k).length≤n+1:=by
 intro n
 induction n with
 | zero=>intro k h;rw [sevens_small (by simpa using h)];simp
 | succ n ih =>
  intro k h
  by_cases h1:k < 128
  · rw [sevens_small h1];simp
  ·
   rw [sevens_more (by omega),List.length_cons]
   have:=ih (k / 128) (by rw [Nat.pow_succ] at h;exact Nat.div_lt_of_lt_mul (by rw [Nat.mul_comm];exact h))
   omega
theorem sevens_le10 {k:Nat} (h:k < 9223372036854775808):(sevens k).length≤10:=sevens_le 9 k (Nat.lt_of_lt_of_le h (by decide))
theorem runsE_le:∀ (l:List Int) (last:Int) (run:Nat),Word last→(∀ z∈l,Word z)→run+l.length≤1000000→(runsE last run l).length≤20 * l.length:=by
 intro l
 induction l with
 | nil=>intro last run _ _ _;simp [runsE]
 | cons x l ih =>
  intro last run hw hz hr
  have hx:Word x:=hz x (by simp)
  have hl:∀ z∈l,Word z:=fun z h=>hz z (List.mem_cons_of_mem _ h)
  have a1:(sevens (run+1)).length≤10:=sevens_le10 (by simp at hr;omega)
  have a2:(sevens (zig (x - last))).length≤10:=sevens_le10 (by unfold Word at hx hw;unfold zig;split <;> omega)
  cases l with
  | nil=>simp only [runsE,List.length_append,List.length_cons,List.length_nil];omega
  | cons y l =>
   by_cases h:x=y
   ·
    rw [runsE,if_pos h]
    have:=ih last (run+1) hw hl (by simp at hr ⊢;omega)
    simp only [List.length_cons] at this ⊢
    omega
   ·
    rw [runsE,if_neg h]
    have:=ih x 0 hx hl (by simp at hr ⊢;omega)
    simp only [List.length_append,List.length_cons] at this ⊢
    omega
theorem odd_word {z:Int} (h:oddB z=false):Word z:=by
 unfold oddB at h
 rw [Bool.not_eq_false',Bool.and_eq_true,decide_eq_true_iff,decide_eq_true_iff] at h
 exact h
theorem any_word {zs:List Int} (h:zs.any oddB=false):∀ z∈zs,Word z:=by
 intro z hz
 rw [List.any_eq_false] at h
 exact odd_word (by simpa using h z hz)
theorem dataE_le {x:Ev} {p:Option Ev} (h:evF p x=0):(dataE x).length≤320:=by
 obtain⟨h1,h2,h3,h4,h5,h6⟩:=evF_zero h
 have hw:=any_word h5
 unfold dataE
 split
 ·
  rename_i hk
  unfold evW at h6
  rw [if_pos hk] at h6
  have:=runsE_le x.data 0 0 (by unfold Word;omega) hw (by omega)
  omega
 ·
  split
  ·
   rename_i hk
   have hz:Word (x.data.getD 0 0):=by
    unfold evW at h6
    rw [if_neg (by omega),if_pos hk] at h6
    have hl:0 < x.data.length:=by omega
    have:x.data.getD 0 0=x.data[0]:=by simp [List.getD,hl]
    rw [this]
    exact hw _ (List.getElem_mem hl)
   have:=sevens_le10 (k:=zig (x.data.getD 0 0)) (by unfold Word at hz;unfold zig;split <;> omega)
   omega
  · simp
def EvOk (l:List Ev):Prop:=∀ j,j < l.length→fAt l j=0
theorem lastAt_take {l:List Ev} {k:Nat} (h:k+1≤l.length):lastAt 0 (l.take (k+1))=l[k].at_:=by
 rw [List.take_add_one,List.getElem?_eq_getElem (by omega)]
 exact lastAt_app _ _ _
theorem ev_at {l:List Ev} (h:EvOk l) {k:Nat} (hk:k < l.length):1≤l[k].kind∧l[k].kind≤3∧0≤l[k].at_∧l[k].at_ < 3000∧l[k].data.any oddB=false∧(l[k].data.length:Int)=evW l[k].kind∧0≤lastAt 0 (l.take k)∧lastAt 0 (l.take k)≤l[k].at_:=by
 have e:=h k hk
 unfold fAt at e
 rw [List.getElem?_eq_getElem hk] at e
 simp only at e
 obtain⟨h1,h2,h3,h4,h5,h6⟩:=evF_zero e
 refine⟨h1,h2,h3,h4,h5,h6,?_⟩
 cases k with
 | zero=>exact⟨by simp [lastAt],by simpa [lastAt] using h3⟩
 | succ m =>
  have hm:m < l.length:=by omega
  have r:=fAt_range hm (h m hm)
  rw [lastAt_take (by omega)]
  refine⟨r.2.2.1,?_⟩
  rw [if_neg (by omega),Nat.add_sub_cancel,List.getElem?_eq_getElem hm,evFp (by omega) (by rintro (h | h | h);omega;omega;rw [h5] at h;cases h) h6] at e
  simp only at e
  split at e
  · omega
  · omega
theorem evE_le {l:List Ev} (h:EvOk l) {k:Nat} (hk:k < l.length):(evE (lastAt 0 (l.take k)) l[k]).length≤330:=by
 obtain⟨h1,h2,h3,h4,h5,h6,h7,h8⟩:=ev_at h hk
 have e:=h k hk
 unfold fAt at e
 rw [List.getElem?_eq_getElem hk] at e
 have a1:=dataE_le e
 have a2:(sevens (4 * (l[k].at_ - lastAt 0 (l.take k))+l[k].kind).toNat).length≤10:=sevens_le10 (by omega)
 unfold evE
 rw [List.length_append]
 omega
theorem evsE_step {l:List Ev} {k:Nat} (hk:k < l.length):evsE 0 (l.take (k+1))=evsE 0 (l.take k) ++ evE (lastAt 0 (l.take k)) l[k]:=by
 rw [List.take_add_one,List.getElem?_eq_getElem hk,show (some l[k]).toList=[l[k]] from rfl,evsE_app]
 simp [evsE]
theorem evsE_le {l:List Ev} (h:EvOk l):∀ k,k≤l.length→(evsE 0 (l.take k)).length≤330 * k:=by
 intro k
 induction k with
 | zero=>intro _;simp [evsE]
 | succ k ih =>
  intro hk
  rw [evsE_step (by omega),List.length_append]
  have:=ih (by omega)
  have:=evE_le h (show k < l.length by omega)
  omega
theorem payE_le {l:List Ev} (h:EvOk l) (hl:l.length≤1000):(payE l).length≤400000:=by
 have h1:=evsE_le h l.length (Nat.le_refl _)
 rw [List.take_length] at h1
 have h2:(sevens l.length).length≤10:=sevens_le10 (by omega)
 unfold payE
 rw [List.length_append]
 omega
def tailE (kind last:Int) (rest:List Int):List UInt8:=
 if kind=2 then runsE last 0 rest else if kind=3 then (match rest with | []=>[] | x :: _=>sevens (zig (x - last))) else []
theorem dataE_tail {x:Ev} (h:(x.data.length:Int)=evW x.kind):dataE x=tailE x.kind 0 x.data:=by
 unfold dataE tailE
 split
 · rfl
 ·
  split
  ·
   rename_i h2 h3
   unfold evW at h
   rw [if_neg h2,if_pos h3] at h
   obtain⟨a,e⟩:=len1 (show x.data.length=1 by omega)
   rw [e]
   simp
  · rfl
theorem drop_run {d:List Int} {i k:Nat} {x:Int} (hi:i < d.length) (hx:d[i]=x) (hik:i < k) (hk:k≤d.length) (h:∀ j (hj:j < d.length),i≤j→j < k→d[j]=x):d.drop i=List.replicate (k - i - 1+1) x ++ d.drop k:=by
 apply List.ext_getElem
 · simp;omega
 ·
  intro j h1 h2
  rw [List.getElem_append]
  split
  ·
   rename_i hj
   simp only [List.length_replicate] at hj
   rw [List.getElem_replicate,List.getElem_drop]
   exact h _ _ (by omega) (by omega)
  ·
   rename_i hj
   simp only [List.length_replicate] at hj ⊢
   rw [List.getElem_drop,List.getElem_drop]
   congr 1
   omega
theorem tail_run {kind last x:Int} {m:Nat} {rest:List Int} (h:rest.head?≠some x) (hk:kind=3→m=0∧rest=[]) (h1:kind=2∨kind=3):tailE kind last (List.replicate (m+1) x ++ rest)=(if kind=2 then sevens (m+1) else []) ++ (sevens (zig (x - last)) ++ tailE kind x rest):=by
 unfold tailE
 rcases h1 with e | e
 ·
  rw [if_pos e,if_pos e,if_pos e,runsE_run last x rest h m 0]
  simp
 ·
  obtain⟨rfl,rfl⟩:=hk e
  subst e
  simp
end Go.Proofs.YtkahciebbnhobaaGreatDoor
namespace Go.Proofs.YtkahciebbnhobaaGreatDoor
open Go Go.RowKit Go.ChangeShapes Go.WideShapes Go.Deep
set_option maxHeartbeats 16000000
set_option maxRecDepth 100000
set_option linter.unusedVariables false
theorem EvRes.ok {l:List Ev} (h:EvRes l 0):EvOk l∧l.length≤1000:=by
 rcases h with ⟨_,h⟩ | ⟨_,k,_,_,_,h⟩ | ⟨h1,h2,_⟩
 · cases h
 · exact absurd rfl h
 · exact⟨h2,h1⟩
theorem encode_bad (v:Value) (l:List Ev) (w:World) (hf:EvsR w.heap.size w v l) (ht:Tab w) (c:Int) (hc:EvRes l c) (h0:c≠0):Calls Tryz.prog 16 #[v] w fun e w'=>e=.returned (.tuple #[.slice none 0 0,.int .i64 c])∧Below w.heap.size w w':=by
 have HF:=Lib.hid hf
 have HT:=Lib.hid ht
 have HR:=Lib.hid hc
 have hb:(c != 0)=true:=by rw [bne_iff_ne];exact h0
 clear hf ht hc
 go_enter Tryz.func16,Tryz.ntmps16
 go_wp2_with fail
 refine (evcheck_any _ l _ HF.out HT.out).mono ?_
 rintro e w1 ⟨d,hd,rfl,hb1⟩
 obtain rfl:=hd.det HR.out
 clear hd HR
 go_wp2
 go_ret2
 exact⟨rfl,hb1⟩
structure BSt (w:World) (g:Nat) (cells:Array Value) (a:Option Addr) (c:Nat) (bs:List UInt8) (wr:World):Prop where
 o:wr.ownsRow w.heap.size 5 1 (.slice a bs.length c) bs.length (bv bs)
 x:wr.heap[g]? = some (.cells cells 43 (0,0))
 b:Below w.heap.size w wr
theorem BSt.lt {w wr:World} {g c:Nat} {cells:Array Value} {a:Option Addr} {bs:List UInt8} (h:BSt w g cells a c bs wr):g < wr.heap.size:=(Array.getElem?_eq_some_iff.1 h.x).1
theorem BSt.step {w wr w1:World} {g c:Nat} {cells:Array Value} {a:Option Addr} {bs bs':List UInt8} {e:Ending} (h:BSt w g cells a c bs wr) (hp:NumPost w.heap.size wr (Value.slice a bs.length c).ownBlock bs' e w1):∃ a' c',e=.returned (.slice a' bs'.length c')∧BSt w g cells a' c' bs' w1:=by
 obtain⟨a',c',rfl,h1,h2,h3⟩:=hp
 exact⟨a',c',rfl,h1,block_grown h2 h.x (own_ne_block h.o h.x (by decide)),below_grown h.b h.o h2 h.b.size (Nat.le_refl _)⟩
theorem BSt.drewN {w wr:World} {g c:Nat} {cells:Array Value} {a:Option Addr} {bs:List UInt8} (h:BSt w g cells a c bs wr) (n:Nat):BSt w g cells a c bs (wr.drewN n):=⟨h.o,h.x,below_drewN h.b n⟩
theorem ints_cells {B n cd:Nat} {w:World} {dd:Option Addr} {zs:List Int} (h:Ints B w (.slice dd n cd) zs) (h0:0 < zs.length):∃ bb oo,dd=some ⟨bb,oo,none⟩∧bb < B∧∀ j (hj:j < zs.length),w.cell? ⟨bb,oo+j,none⟩=some (.int .i64 zs[j]):=by
 obtain⟨a,cap,hv,_,_,hc⟩:=h
 injection hv with e1 e2 e3
 subst e1
 obtain⟨bb,oo,vi,ha,hb,_,_⟩:=hc 0 h0
 refine⟨bb,oo,ha,hb,fun j hj=>?_⟩
 obtain⟨b',o',v',ha',hb',hcell,hv',_⟩:=hc j hj
 rw [ha] at ha'
 injection ha' with ha'
 injection ha' with e4 e5
 subst e4 e5
 rw [hcell,hv']
def RunTo (d:List Int) (i q:Nat):Prop:=∃ h:i < d.length,i < q∧q≤d.length∧(∀ j (hj:j < d.length),i≤j→j < q→d[j]=d[i])∧(d.drop q).head?≠some d[i]
theorem RunTo.tail {d:List Int} {i q:Nat} (hr:RunTo d i q) {kind last:Int} (h6:(d.length:Int)=evW kind) (h1:1≤kind) (h3:kind≤3) (hi:i < d.length):(kind=2∨kind=3)∧tailE kind last (d.drop i)=(if kind=2 then sevens (q - i) else []) ++ (sevens (zig (d[i] - last)) ++ tailE kind d[i] (d.drop q)):=by
 obtain⟨_,hiq,hq2,ha,hh⟩:=hr
 have hlt3:kind=3→q - i - 1=0∧d.drop q=[]:=by
  intro e
  rw [e] at h6
  have hl1:(d.length:Int)=1:=h6
  exact⟨by omega,List.drop_eq_nil_of_le (by omega)⟩
 have hkk:kind=2∨kind=3:=by
  rcases (show kind=1∨kind=2∨kind=3 by omega) with e | e | e
  ·
   rw [e] at h6
   have hl0:(d.length:Int)=0:=h6
   omega
  · exact Or.inl e
  · exact Or.inr e
 refine⟨hkk,?_⟩
 have htl:=tail_run (last:=last) hh hlt3 hkk
 rw [← drop_run hi rfl hiq hq2 ha,show q - i - 1+1=q - i by omega] at htl
 exact htl
theorem run_go {d:List Int} {i q:Nat} {x:Int} (h:∀ j (hj:j < d.length),i≤j→j < q→d[j]=x) (hq:q < d.length) (heq:d[q]=x):∀ j (hj:j < d.length),i≤j→j < q+1→d[j]=x:=by
 intro j hj h1 h2
 by_cases hjq:j=q
 · subst hjq;exact heq
 · exact h j hj h1 (by omega)
theorem run_end {d:List Int} {i q:Nat} (hi:i < d.length) (hiq:i≤q) (h:∀ j (hj:j < d.length),i≤j→j < q→d[j]=d[i]) (hq:q < d.length) (hne:d[q]≠d[i]):RunTo d i q:=by
 refine⟨hi,?_,by omega,h,?_⟩
 ·
  rcases Nat.lt_or_ge i q with h' | h'
  · exact h'
  ·
   obtain rfl:i=q:=by omega
   exact absurd rfl hne
 ·
  rw [List.head?_drop,List.getElem?_eq_getElem hq]
  intro e;injection e with e;exact hne e
theorem run_all {d:List Int} {i:Nat} (hi:i < d.length) (h:∀ j (hj:j < d.length),i≤j→j < d.length→d[j]=d[i]):RunTo d i d.length:=
 ⟨hi,hi,Nat.le_refl _,h,by simp⟩
theorem bytes_of_own {w:World} {base c:Nat} {a:Option Addr} {bs:List UInt8} (h:w.ownsRow base 5 1 (.slice a bs.length c) bs.length (bv bs)) (hl:bs.length≤100000000):BytesR w.heap.size w (.slice a bs.length c) bs:=
 sl1_of_owns h (by omega) (fun i hi hv=>by unfold ByteV;simp [bv])
theorem encode_good (v:Value) (l:List Ev) (w:World) (hf:EvsR w.heap.size w v l) (ht:Tab w) (hc:EvRes l 0):Calls Tryz.prog 16 #[v] w fun e w' =>∃a c,e=.returned (.tuple #[.slice a (encE l).length c,.int .i64 0])∧w'.ownsRow w.heap.size 5 1 (.slice a (encE l).length c) (encE l).length (bv (encE l))∧Below w.heap.size w w':=by
 have HF:=Lib.hid hf
 have HT:=Lib.hid ht
 have HR:=Lib.hid hc
 obtain⟨hok,h1000⟩:=hc.ok
 have HO:=Lib.hid hok
 have hpl:=payE_le hok h1000
 obtain⟨ad,cap,rfl,hl,hl2,hcl⟩:=id hf
 have HC:=Lib.hid hcl
 clear hf ht hc hok hcl
 go_enter Tryz.func16,Tryz.ntmps16
 go_wp2_with fail
 refine (evcheck_any _ l _ HF.out HT.out).mono ?_
 rintro e w1 ⟨d,hd,rfl,hb1⟩
 obtain rfl:=hd.det HR.out
 clear hd HR
 have HB1:=Lib.hid hb1
 have hlen0:(sevens l.length).length≤10:=sevens_le10 (by omega)
 have HN:=Lib.hid (number_any w.heap.size (.slice none 0 0) [] l.length w1 (World.ownsRow_nil _ _ _ _) hb1.size (by omega) (by simp;omega))
 simp only [List.nil_append] at HN
 clear hb1
 generalize hs0:sevens l.length=s0 at *
 have HS0:=Lib.hid hs0
 clear hs0
 go_wp2_with fail
 refine HN.out.mono ?_
 rintro e w2 ⟨a2,c2,rfl,hown2,hgrow2,_⟩
 have HO2:=Lib.hid hown2
 have HB2:=Lib.hid (HB1.out.grown hgrow2 HB1.out.size (fun k hk=>by simp [Value.ownBlock] at hk))
 clear hown2 hgrow2 HN
 go_wp2
 go_loopw [5,6,23] (fun s5 s6 s23 wr =>∃(k:Nat) (a:Option Addr) (c:Nat),k≤l.length∧s23=.int .i64 k∧s6=.int .i64 (lastAt 0 (l.take k))∧s5=.slice a (s0 ++ evsE 0 (l.take k)).length c∧Hid (wr.ownsRow w.heap.size 5 1 (.slice a (s0 ++ evsE 0 (l.take k)).length c) (s0 ++ evsE 0 (l.take k)).length (bv (s0 ++ evsE 0 (l.take k))))∧Hid (Below w.heap.size w wr)) (fun _ _ s23 _=>l.length - (intOf s23).toNat)
 case atStart=>exact⟨0,a2,c2,Nat.zero_le _,rfl,rfl,by simp [evsE],Lib.hid (by simpa [evsE] using HO2.out),HB2⟩
 case round =>
  obtain⟨k,a,c,hk,rfl,rfl,rfl,OW,HB⟩:=hrel
  by_cases hlt:k < l.length
  ·
   obtain⟨e1,e2,e3,e4,e5,e6,e7,e8⟩:=ev_at HO.out hlt
   have hle:=evE_le HO.out hlt
   have hst:=evsE_step hlt
   have hlat:=lastAt_take (l:=l) (k:=k) (by omega)
   have hbl:=evsE_le HO.out k (by omega)
   have hdt:=dataE_tail e6
   obtain⟨b,off,cs,ha,hbb,hcs,hcell,dd,cd,hcs2,i1,i2,hint⟩:=HC.out k hlt
   subst ha hcs2
   generalize hBk:s0 ++ evsE 0 (l.take k)=Bk at *
   generalize hat:lastAt 0 (l.take k)=at0 at *
   have r0:wr.cell? ⟨b,off+k * 3,none⟩=some (.int .i64 l[k].at_):=(same_below HB.out _ _ hbb).trans (hcell 0 (by simp))
   have r1:wr.cell? ⟨b,off+k * 3+1,none⟩=some (.int .i64 l[k].kind):=(same_below HB.out _ _ hbb).trans (hcell 1 (by simp))
   have r2:wr.cell? ⟨b,off+k * 3+2,none⟩=some (.slice dd l[k].data.length cd):=(same_below HB.out _ _ hbb).trans (hcell 2 (by simp))
   have HINT:=Lib.hid hint
   clear hcell hint i1 i2
   generalize l[k]=x at *
   obtain⟨xat,xkd,xda⟩:=x
   simp only at e1 e2 e3 e4 e5 e6 e7 e8 r0 r1 r2 HINT hle hst hlat hdt
   have E6:=Lib.hid e6
   clear e6
   have hN:(((4 * (xat - at0)+xkd).toNat:Nat):Int)=(xat - at0) * 4+xkd:=by omega
   have hBl:Bk.length≤400000:=by rw [← hBk,List.length_append];omega
   have hnum:=fun (W:World) (ho:W.ownsRow w.heap.size 5 1 (.slice a Bk.length c) Bk.length (bv Bk)) (hw:w.heap.size≤W.heap.size)=>number_any w.heap.size (.slice a Bk.length c) Bk (4 * (xat - at0)+xkd).toNat W ho hw (by omega) (by rw [List.length_append];have:(sevens (4 * (xat - at0)+xkd).toNat).length≤10:=sevens_le10 (by omega);omega)
   rw [hN] at hnum
   have HNU:=Lib.hid hnum
   have hs1:(sevens (4 * (xat - at0)+xkd).toNat).length≤10:=sevens_le10 (by omega)
   have hev:evE at0 ⟨xat,xkd,xda⟩=sevens (4 * (xat - at0)+xkd).toNat ++ tailE xkd 0 xda:=by unfold evE;rw [hdt]
   clear hnum hN
   generalize sevens (4 * (xat - at0)+xkd).toNat=s1 at *
   have hwb:=HB.out.size
   go_wp2_with fail
   refine (HNU.out _ (OW.out.alloc _) (by simp;omega)).mono ?_
   rintro e w3 hp3
   obtain⟨a3,c3,rfl,hst3⟩:=BSt.step (g:=wr.heap.size) (cells:=#[.int .i64 xat,.int .i64 xkd,.slice dd xda.length cd]) ⟨OW.out.alloc _,alloc_at rfl,HB.out.alloc hwb _⟩ hp3
   have q0:w3.cell? ⟨wr.heap.size,0,none⟩=some (.int .i64 xat):=cell_block hst3.x 0
   have lg:=hst3.lt
   have HST:=Lib.hid hst3
   clear hst3 hp3 HNU r0 r1 r2
   generalize hg:wr.heap.size=g at *
   have hgw:w.heap.size≤g:=hwb
   clear hg OW HB
   have htot:(Bk ++ (s1 ++ tailE xkd 0 xda)).length≤400000:=by
    rw [List.length_append,← hev,← hBk,List.length_append]
    omega
   go_wp2
   have hx16:xda.length≤16:=by have h:=E6.out;unfold evW at h;split at h;omega;split at h <;> omega
   go_loopg [5,9,10] xda.length (fun gh s5 s9 s10 wq =>∃(i:Nat) (last:Int) (B':List UInt8) (a:Option Addr) (c:Nat),i≤xda.length∧gh=xda.length - i∧s10=.int .i64 i∧s9=.int .i64 last∧Word last∧s5=.slice a B'.length c∧Hid (BSt w g #[.int .i64 xat,.int .i64 xkd,.slice dd xda.length cd] a c B' wq)∧Hid (B' ++ tailE xkd last (xda.drop i)=Bk ++ (s1 ++ tailE xkd 0 xda)))
   case atStart=>exact⟨0,0,Bk ++ s1,a3,c3,Nat.zero_le _,by omega,rfl,rfl,by unfold Word;omega,by rw [List.length_append],HST,Lib.hid (by simp)⟩
   case round =>
    obtain⟨i,last,B',a4,c4,hi,rfl,rfl,rfl,hwl,rfl,HS,HE⟩:=hrel
    have x0:wr.cell? ⟨g,2,none⟩=some (.slice dd xda.length cd):=cell_block HS.out.x 2
    have x1:wr.cell? ⟨g,1,none⟩=some (.int .i64 xkd):=cell_block HS.out.x 1
    have lgq:=HS.out.lt
    by_cases hil:i < xda.length
    ·
     obtain⟨bb,oo,rfl,hbb2,hcells⟩:=ints_cells HINT.out (by omega)
     have hwz:∀ j (hj:j < xda.length),Word xda[j]:=fun j hj=>any_word e5 _ (List.getElem_mem hj)
     have HCL:=Lib.hid hcells
     clear hcells
     -- INNER
     go_upto_block 4 with fail
     go_cut [11] from 39 to 87 (fun s11 wq =>∃q:Nat,s11=.int .i64 q∧i < q∧q≤xda.length∧Hid (BSt w g #[.int .i64 xat,.int .i64 xkd,.slice (some ⟨bb,oo,none⟩) xda.length cd] a4 c4 B' wq)∧Hid (RunTo xda i q))
     case first =>
      clear E6 HC hle hbl hlat hst hev htot HE
      go_wp2_with fail
      go_loopg [11] (xda.length - i) (fun gh s11 wq =>∃q:Nat,i≤q∧q≤xda.length∧gh=xda.length - q∧s11=.int .i64 q∧Hid (BSt w g #[.int .i64 xat,.int .i64 xkd,.slice (some ⟨bb,oo,none⟩) xda.length cd] a4 c4 B' wq)∧Hid (∀ j (hj:j < xda.length),i≤j→j < q→xda[j]=xda[i]))
      case atStart=>exact⟨i,Nat.le_refl _,by omega,rfl,rfl,HS,Lib.hid fun j hj h1 h2=>by omega⟩
      case round =>
       obtain⟨q,hq1,hq2,rfl,rfl,HS1,A⟩:=hrel
       have z0:wr.cell? ⟨g,2,none⟩=some (.slice (some ⟨bb,oo,none⟩) xda.length cd):=cell_block HS1.out.x 2
       have hgw1:=HS1.out.lt
       have hxl:=hx16
       have hq0:(0:Int)≤(q:Int):=by omega
       have hi0':(0:Int)≤(i:Int):=by omega
       have hi1':(i:Int) < (xda.length:Int):=by omega
       have ci:wr.cell? ⟨bb,oo+i,none⟩=some (.int .i64 xda[i]):=(same_below HS1.out.b _ _ hbb2).trans (HCL.out i hil)
       by_cases hqq:q < xda.length
       ·
        have hq3:(q:Int) < (xda.length:Int):=by omega
        have cq:wr.cell? ⟨bb,oo+q,none⟩=some (.int .i64 xda[q]):=(same_below HS1.out.b _ _ hbb2).trans (HCL.out q hqq)
        by_cases heq:xda[q]=xda[i]
        ·
         have hgq:(xda[q] == xda[i])=true:=by rw [beq_iff_eq];exact heq
         have A2:=Lib.hid (run_go A.out hqq heq)
         clear heq
         generalize xda[q]=zq at *
         generalize xda[i]=zi at *
         go_wp2_with fail
         go_quiet (fail)
         go_wp2
         go_roundg (xda.length - (q+1))
         case measure=>omega
         case rel=>exact⟨q+1,by omega,by omega,rfl,by go_num,Lib.hid (HS1.out.drewN _),A2⟩
        ·
         have hgq:(xda[q] == xda[i])=false:=by rw [beq_eq_false_iff_ne];exact heq
         have HR:=Lib.hid (run_end hil hq1 A.out hqq heq)
         have hiq:=HR.out.choose_spec.1
         clear heq
         generalize xda[q]=zq at *
         generalize xda[i]=zi at *
         go_wp2_with fail
         go_quiet (fail)
         go_wp2_with fail
         go_meet
         exact⟨q,rfl,hiq,hq2,Lib.hid (HS1.out.drewN _),HR⟩
       ·
        have hq3:¬ (q:Int) < (xda.length:Int):=by omega
        have hgq:decide ((q:Int) < (xda.length:Int))=false:=by rw [decide_eq_false_iff_not];exact hq3
        obtain rfl:q=xda.length:=by omega
        have HR:=Lib.hid (run_all hil A.out)
        clear ci
        go_wp2_with fail
        go_quiet (fail)
        go_wp2_with fail
        go_meet
        exact⟨_,rfl,hil,hq2,Lib.hid (HS1.out.drewN _),HR⟩
     case rest =>
      obtain⟨q,rfl,hiq,hq2,HC2,HR⟩:=hcut
      have v0:wc.cell? ⟨g,2,none⟩=some (.slice (some ⟨bb,oo,none⟩) xda.length cd):=cell_block HC2.out.x 2
      have v1:wc.cell? ⟨g,1,none⟩=some (.int .i64 xkd):=cell_block HC2.out.x 1
      have lgc:=HC2.out.lt
      obtain⟨hkk,htl⟩:=HR.out.tail (last:=last) E6.out e1 e2 hil
      have hz:=hwz i hil
      have hE2:=HE.out
      rw [htl] at hE2
      have hci:=HCL.out i hil
      have v2:wc.cell? ⟨bb,oo+i,none⟩=some (.int .i64 xda[i]):=(same_below HC2.out.b _ _ hbb2).trans hci
      have hi0:(0:Int)≤(i:Int):=by omega
      have hi1:(i:Int) < (xda.length:Int):=by omega
      generalize xda[i]=zi at *
      have hl2:(B' ++ ((if xkd=2 then sevens (q - i) else []) ++ (sevens (zig (zi - last)) ++ tailE xkd zi (xda.drop q)))).length≤400000:=by rw [hE2];exact htot
      rw [List.length_append,List.length_append,List.length_append] at hl2
      unfold Word at hz hwl
      have HE2:=Lib.hid hE2
      clear hE2 htl E6 HR HC
      rcases hkk with rfl | rfl
      ·
       rw [if_pos rfl] at HE2 hl2
       have hnq:((q - i:Nat):Int)=(q:Int) - (i:Int):=by omega
       have hnum:=fun (W:World) (ho:W.ownsRow w.heap.size 5 1 (.slice a4 B'.length c4) B'.length (bv B')) (hw:w.heap.size≤W.heap.size)=>number_any w.heap.size (.slice a4 B'.length c4) B' (q - i) W ho hw (by omega) (by rw [List.length_append];omega)
       rw [hnq] at hnum
       have HNU:=Lib.hid hnum
       have hsig:=fun (a:Option Addr) (c:Nat) (W:World) (ho:W.ownsRow w.heap.size 5 1 (.slice a (B' ++ sevens (q - i)).length c) (B' ++ sevens (q - i)).length (bv (B' ++ sevens (q - i)))) (hw:w.heap.size≤W.heap.size)=>signed_any w.heap.size (.slice a (B' ++ sevens (q - i)).length c) (B' ++ sevens (q - i)) (zi - last) W ho hw (by omega) (by rw [List.length_append,List.length_append];omega)
       have HSG:=Lib.hid hsig
       clear hnum hsig hnq
       generalize hB5:B' ++ sevens (q - i)=B5 at *
       generalize hB6:B5 ++ sevens (zig (zi - last))=B6 at *
       go_wp2_with fail
       refine (HNU.out _ HC2.out.o (HC2.out.b.size)).mono ?_
       rintro e w5 hp5
       obtain⟨a5,c5,rfl,hst5⟩:=BSt.step HC2.out hp5
       have y0:w5.cell? ⟨g,2,none⟩=some (.slice (some ⟨bb,oo,none⟩) xda.length cd):=cell_block hst5.x 2
       have y1:w5.cell? ⟨bb,oo+i,none⟩=some (.int .i64 zi):=(same_below hst5.b _ _ hbb2).trans hci
       have HS5:=Lib.hid hst5
       clear hst5 hp5
       go_wp2_with fail
       refine (HSG.out _ _ _ HS5.out.o (HS5.out.b.size)).mono ?_
       rintro e w6 hp6
       obtain⟨a6,c6,rfl,hst6⟩:=BSt.step HS5.out hp6
       have u0:w6.cell? ⟨g,2,none⟩=some (.slice (some ⟨bb,oo,none⟩) xda.length cd):=cell_block hst6.x 2
       have u1:w6.cell? ⟨bb,oo+i,none⟩=some (.int .i64 zi):=(same_below hst6.b _ _ hbb2).trans hci
       have HS6:=Lib.hid hst6
       clear hst6 hp6
       go_wp2
       go_roundg (xda.length - q)
       case measure=>omega
       case rel=>exact⟨q,zi,B6,a6,c6,by omega,rfl,rfl,rfl,hz,rfl,HS6,Lib.hid (by rw [← HE2.out,← hB6,← hB5];simp)⟩
      ·
       rw [if_neg (by omega)] at HE2 hl2
       have hsig:=fun (W:World) (ho:W.ownsRow w.heap.size 5 1 (.slice a4 B'.length c4) B'.length (bv B')) (hw:w.heap.size≤W.heap.size)=>signed_any w.heap.size (.slice a4 B'.length c4) B' (zi - last) W ho hw (by omega) (by rw [List.length_append];omega)
       have HSG:=Lib.hid hsig
       clear hsig
       generalize hB6:B' ++ sevens (zig (zi - last))=B6 at *
       go_wp2_with fail
       refine (HSG.out _ HC2.out.o (HC2.out.b.size)).mono ?_
       rintro e w6 hp6
       obtain⟨a6,c6,rfl,hst6⟩:=BSt.step HC2.out hp6
       have u0:w6.cell? ⟨g,2,none⟩=some (.slice (some ⟨bb,oo,none⟩) xda.length cd):=cell_block hst6.x 2
       have u1:w6.cell? ⟨bb,oo+i,none⟩=some (.int .i64 zi):=(same_below hst6.b _ _ hbb2).trans hci
       have HS6:=Lib.hid hst6
       clear hst6 hp6
       go_wp2
       go_roundg (xda.length - q)
       case measure=>omega
       case rel=>exact⟨q,zi,B6,a6,c6,by omega,rfl,rfl,rfl,hz,rfl,HS6,Lib.hid (by rw [← HE2.out,← hB6];simp)⟩
    ·
     obtain rfl:i=xda.length:=by omega
     have hfin:B'=Bk ++ evE at0 ⟨xat,xkd,xda⟩:=by
      have h:=HE.out
      rw [List.drop_length] at h
      have h0:tailE xkd last []=[]:=by unfold tailE;split;rfl;split <;> rfl
      rw [h0,List.append_nil] at h
      rw [hev];exact h
     subst hfin
     go_wp2
     go_roundw
     case rel=>exact⟨k+1,a4,c4,by omega,by go_num,by rw [hlat],by rw [hst,← List.append_assoc,hBk],by rw [hst,← List.append_assoc,hBk];exact Lib.hid HS.out.o,Lib.hid HS.out.b⟩
     case measure=>simp [intOf];omega
  ·
   obtain rfl:k=l.length:=by omega
   have hp0:s0 ++ evsE 0 (l.take l.length)=payE l:=by rw [List.take_length];unfold payE;rw [HS0.out]
   have hen:encE l=s0 ++ evsE 0 (l.take l.length) ++ sumB (s0 ++ evsE 0 (l.take l.length)):=by unfold encE;rw [hp0]
   rw [← hp0] at hpl
   generalize s0 ++ evsE 0 (l.take l.length)=Bk at *
   have HEN:=Lib.hid hen
   have HSM:=Lib.hid (sum_any _ Bk wr (bytes_of_own OW.out (by omega)))
   obtain⟨hx,hy⟩:=sumS_lt Bk 1 0 (by decide) (by decide)
   change sum1 Bk < 65521 at hx
   change sum2 Bk < 65521 at hy
   have HSB:=Lib.hid (show sumB Bk=[UInt8.ofNat (sum2 Bk / 256),UInt8.ofNat (sum2 Bk % 256),UInt8.ofNat (sum1 Bk / 256),UInt8.ofNat (sum1 Bk % 256)] from rfl)
   generalize sum1 Bk=x at *
   generalize sum2 Bk=y at *
   clear hp0 hen
   go_wp2_with fail
   refine HSM.out.mono ?_
   rintro e w4 ⟨rfl,rfl⟩
   obtain⟨i0,hi0,hz0,hz1,hz2⟩:=info_parts info_u8
   obtain⟨v1,hv1⟩:∃ v:Int,v=((y:Int) * 65536+(x:Int)) / 16777216:=⟨_,rfl⟩
   obtain⟨v2,hv2⟩:∃ v:Int,v=((y:Int) * 65536+(x:Int)) / 65536 % 256:=⟨_,rfl⟩
   obtain⟨v3,hv3⟩:∃ v:Int,v=((y:Int) * 65536+(x:Int)) / 256 % 256:=⟨_,rfl⟩
   obtain⟨v4,hv4⟩:∃ v:Int,v=((y:Int) * 65536+(x:Int)) % 256:=⟨_,rfl⟩
   have c1:((UInt8.ofNat (y / 256)).toNat:Int)=v1:=by rw [u8_nat (by omega)];omega
   have c2:((UInt8.ofNat (y % 256)).toNat:Int)=v2:=by rw [u8_nat (by omega)];omega
   have c3:((UInt8.ofNat (x / 256)).toNat:Int)=v3:=by rw [u8_nat (by omega)];omega
   have c4:((UInt8.ofNat (x % 256)).toNat:Int)=v4:=by rw [u8_nat (by omega)];omega
   have hbv:bv (Bk ++ sumB Bk)=bv Bk ++ [.int .u8 v1,.int .u8 v2,.int .u8 v3,.int .u8 v4]:=by rw [HSB.out,bv_app];simp only [bv,List.map_cons,List.map_nil,c1,c2,c3,c4]
   have hln:(Bk ++ sumB Bk).length=Bk.length+4:=by rw [HSB.out,List.length_append];rfl
   have HV:=Lib.hid hbv
   have HL:=Lib.hid hln
   clear hbv hln c1 c2 c3 c4
   have hwb:=HB.out.size
   go_wp2_with (at_builtin;go_loud (refine wpList_append_lies _ rfl (.tmp 91) (.tmp 103) 30 rfl w.heap.size 5 i0 (.int .u8 0) 1 1 Tryz.underlying30 hi0 hz0 hz1 hz2 rfl (by decide) (.slice a Bk.length c) Bk.length _ (by rfl) (OW.out.alloc _) ⟨wr.heap.size,0,none⟩ 4 4 [.int .u8 v1,.int .u8 v2,.int .u8 v3,.int .u8 v4] (by rfl) rfl (by rw [hv1,hv2,hv3,hv4];exact World.news_of_block (heap_alloc_new wr _)) (by simp [Value.oneCell']) (by omega) (by unfold maxLen;omega) (by omega) (by simp;omega) _ rfl ?_);intro g4 cp4 w4 hown4 hgrow4 hat4 hlt4)
   have hB2:=below_grown (HB.out.alloc hwb _) (OW.out.alloc _) hgrow4 (by simp;omega) (Nat.le_refl _)
   have HO4:=Lib.hid hown4
   clear hown4 hgrow4 hat4
   go_ret2
   rw [HEN.out]
   refine⟨some ⟨g4,0,none⟩,cp4,?_,?_,hB2⟩
   · rw [HL.out];rfl
   · rw [HL.out,HV.out];exact HO4.out
structure RSt (w:World) (a:Option Addr) (c:Nat) (bs:List UInt8) (wr:World):Prop where
 o:wr.ownsRow w.heap.size 5 1 (.slice a bs.length c) bs.length (bv bs)
 b:Below w.heap.size w wr
theorem RSt.drewN {w wr:World} {c:Nat} {a:Option Addr} {bs:List UInt8} (h:RSt w a c bs wr) (n:Nat):RSt w a c bs (wr.drewN n):=⟨h.o,below_drewN h.b n⟩
theorem RSt.drew {w wr:World} {c:Nat} {a:Option Addr} {bs:List UInt8} (h:RSt w a c bs wr):RSt w a c bs wr.drew:=h.drewN 1
attribute [local go_sem ↓] Go.wp_at_zero Go.wp_at_succ
end Go.Proofs.YtkahciebbnhobaaGreatDoor
