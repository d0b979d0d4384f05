/- Several texts joined, each with its own heading in the notes: Contracts of slices. Events as bytes, in plain Lean: how they are written, how they are read, and that both go together. The readings of slices of numbers, of raw things, tapes, sessions, worlds. What is wrong with events; the contracts of evlog. No condition beyond those of each row. -/
import Derived.Test.YtkahciebbnhobaaGreatDoorYMem
import Derived.Lib.Walk
import Derived.Shelf.Abstract
import Derived.Deep.LoopGhost
import Derived.Deep.Draws
import Derived.IntWalk
namespace Go.Proofs.YtkahciebbnhobaaGreatDoor
open Go Go.RowKit Go.ChangeShapes Go.WideShapes Go.Deep
set_option maxHeartbeats 1000000
set_option linter.unusedVariables false
def PredIs (g:Nat) (p:Int→Bool):Prop:=∀ (z:Int) (W:World),-9223372036854775808≤z→z≤9223372036854775807→Calls Tryz.prog g #[.int .i64 z] W fun e w'=>e=.returned (.bool (p z))∧W=w'
theorem any_hit {p:Int→Bool} {zs:List Int} {k:Nat} (hk:k < zs.length) (h:p zs[k]=true):zs.any p=true:=List.any_eq_true.2 ⟨_,List.getElem_mem hk,h⟩
theorem any_miss {p:Int→Bool} {zs:List Int} (h:∀ j,j < zs.length→p (zs.getD j 0)=false):zs.any p=false:=by
 rw [List.any_eq_false]
 intro x hx
 obtain⟨i,hi,rfl⟩:=List.mem_iff_getElem.1 hx
 have:=h i hi
 simp [List.getD,hi] at this
 simp [this]
theorem miss_grow {p:Int→Bool} {zs:List Int} {k:Nat} (h:∀ j,j < k→p (zs.getD j 0)=false) (hk:k < zs.length) (h1:p zs[k]=false):∀ j,j < k+1→p (zs.getD j 0)=false:=by
 intro j hj
 rcases Nat.lt_succ_iff_lt_or_eq.1 hj with hj | rfl
 · exact h j hj
 · simpa [List.getD,hk] using h1
theorem idxF_any (g : Nat) (p : Int → Bool) (eg : ∀ args w, (callFunc g args).run Tryz.prog w = .ok (.enter g args) w) (hp : PredIs g p) (v : Value) (zs : List Int) (w : World) (hf : Ints w.heap.size w v zs) :
  Calls Tryz.prog 66 #[v,.func (.func g) #[] #[]] w fun e w'=>(∃ i:Int,e=.returned (.int .i64 i)∧-1≤i∧i≤17592186043904∧((0≤i)=(zs.any p=true)))∧∃ n,w'=w.drewN n:=by
 obtain⟨a,c,rfl,hl,_,hc⟩:=hf
 have Hc:=Lib.hid hc
 have HP:=Lib.hid hp
 clear hc hp
 go_enter Tryz.func66,Tryz.ntmps66
 go_wp2
 go_loopg [5,8] zs.length (fun gg _ s8 wr =>∃k q:Nat,k≤zs.length∧zs.length - k≤gg∧s8=.int .i64 k∧wr=w.drewN q∧Hid (∀ j,j < k→p (zs.getD j 0)=false))
 case atStart=>exact⟨0,0,Nat.zero_le _,by omega,rfl,rfl,Lib.hid fun j hj=>absurd hj (Nat.not_lt_zero _)⟩
 case round =>
  obtain⟨k,q,hk,hg,rfl,rfl,A⟩:=hrel
  by_cases hlt:k < zs.length
  ·
   obtain⟨b,off,vi,ha,hb,hcell,hvi,hz⟩:=Hc.out k hlt
   subst ha hvi
   have HG:=Lib.hid (miss_grow A.out hlt)
   have HH:=Lib.hid (any_hit (p:=p) hlt)
   obtain⟨z1,z2⟩:=hz
   generalize zs[k]=z at *
   have hcall:=Lib.hid (fun W=>HP.out z W z1 z2)
   cases hq:p z with
   | true =>
    rw [hq] at hcall
    have HQ:=Lib.hid hq
    clear hq
    go_wp2_with (go_at_fn g;refine (hcall.out _).mono ?_;rintro e w' ⟨rfl,rfl⟩)
    go_ret
    exact⟨⟨k,rfl,by omega,by omega,by simp [HH.out HQ.out]⟩,_,rfl⟩
   | false =>
    rw [hq] at hcall
    have HQ:=Lib.hid hq
    clear hq
    go_wp2_with (go_at_fn g;refine (hcall.out _).mono ?_;rintro e w' ⟨rfl,rfl⟩)
    go_roundg (zs.length - (k+1))
    case measure=>omega
    case rel=>exact⟨k+1,_,by omega,by omega,by go_num,rfl,Lib.hid (HG.out HQ.out)⟩
  ·
   have hm:=any_miss (p:=p) (zs:=zs) (fun j hj=>A.out j (by omega))
   have HM:=Lib.hid hm
   clear hm
   go_wp2
   go_ret
   exact⟨⟨-1,rfl,by omega,by omega,by simp [HM.out]⟩,q,rfl⟩
theorem containsF_any (g : Nat) (p : Int → Bool) (eg : ∀ args w, (callFunc g args).run Tryz.prog w = .ok (.enter g args) w) (hp : PredIs g p) (v : Value) (zs : List Int) (w : World) (hf : Ints w.heap.size w v zs) :
  Calls Tryz.prog 45 #[v,.func (.func g) #[] #[]] w fun e w'=>e=.returned (.bool (zs.any p))∧∃ n,w'=w.drewN n:=by
 have HI:=Lib.hid (idxF_any g p eg hp v zs w hf)
 clear hf hp eg
 go_enter Tryz.func45,Tryz.ntmps45
 go_wp2_with fail
 refine HI.out.mono ?_
 rintro e w' ⟨⟨i,rfl,h1,h2,h3⟩,n,rfl⟩
 have H3:=Lib.hid h3
 clear h3
 go_wp2
 go_ret
 refine⟨ret_bool ?_,n,rfl⟩
 rw [Bool.eq_iff_iff,decide_eq_true_iff,H3.out]
def oddB (z:Int):Bool:=!(decide (-1099511627776≤z) && decide (z≤1099511627776))
theorem odd_true {z:Int} (h:z < -1099511627776∨1099511627776 < z):oddB z=true:=by
 unfold oddB
 rw [Bool.not_eq_true',Bool.and_eq_false_iff,decide_eq_false_iff_not,decide_eq_false_iff_not]
 omega
theorem odd_false {z:Int} (h:-1099511627776≤z∧z≤1099511627776):oddB z=false:=by simp [oddB,h]
theorem cword_or (z:Int) (w:World):Calls Tryz.prog 47 #[.int .i64 z] w fun e w'=>e=.returned (.bool (!oddB z))∧w=w':=by
 by_cases h1:-1099511627776≤z
 ·
  by_cases h2:z≤1099511627776
  ·
   rw [odd_false ⟨h1,h2⟩]
   go_enter Tryz.func47,Tryz.ntmps47
   go_wp2
   go_ret
   simp_all
  ·
   rw [odd_true (by omega)]
   go_enter Tryz.func47,Tryz.ntmps47
   go_wp2
   go_ret
   simp_all
 ·
  rw [odd_true (by omega)]
  go_enter Tryz.func47,Tryz.ntmps47
  go_wp2
  go_ret
  simp_all
end Go.Proofs.YtkahciebbnhobaaGreatDoor
namespace Go.Proofs.YtkahciebbnhobaaGreatDoor
set_option linter.unusedVariables false
structure Ev where
 at_:Int
 kind:Int
 data:List Int
def sevens (n:Nat):List UInt8:=if n < 128 then [UInt8.ofNat n] else UInt8.ofNat (128+n % 128) :: sevens (n / 128)
 termination_by n
 decreasing_by omega
theorem sevens_small {n:Nat} (h:n < 128):sevens n=[UInt8.ofNat n]:=by rw [sevens,if_pos h]
theorem sevens_more {n:Nat} (h:128≤n):sevens n=UInt8.ofNat (128+n % 128) :: sevens (n / 128):=by rw [sevens,if_neg (by omega)]
theorem u8_nat {n:Nat} (h:n < 256):(UInt8.ofNat n).toNat=n:=by rw [UInt8.toNat_ofNat'];omega
theorem u8_lt (c:UInt8):c.toNat < 256:=c.toNat_lt
def zig (z:Int):Nat:=if z < 0 then (-2 * z - 1).toNat else (2 * z).toNat
def zag (n:Nat):Int:=if n % 2=1 then -((n+1) / 2:Nat) else ((n / 2:Nat):Int)
theorem zag_zig (z:Int):zag (zig z)=z:=by
 unfold zag zig
 split <;> split <;> omega
theorem zig_zag (n:Nat):zig (zag n)=n:=by
 unfold zag zig
 split <;> split <;> omega
def numP (i n:Nat):List UInt8→Int × Nat × List UInt8
 | []=>(5,0,[])
 | c :: bs=>if (0 < i∧c.toNat=0)∨i=7 then (4,0,bs) else if c.toNat < 128 then (0,n+c.toNat % 128 * 128 ^ i,bs) else numP (i+1) (n+c.toNat % 128 * 128 ^ i) bs
theorem numP_bad {i n:Nat} {c:UInt8} {bs:List UInt8} (h:(0 < i∧c.toNat=0)∨i=7):numP i n (c :: bs)=(4,0,bs):=by rw [numP,if_pos h]
theorem numP_end {i n:Nat} {c:UInt8} {bs:List UInt8} (h:¬ ((0 < i∧c.toNat=0)∨i=7)) (h1:c.toNat < 128):numP i n (c :: bs)=(0,n+c.toNat % 128 * 128 ^ i,bs):=by rw [numP,if_neg h,if_pos h1]
theorem numP_more {i n:Nat} {c:UInt8} {bs:List UInt8} (h:¬ ((0 < i∧c.toNat=0)∨i=7)) (h1:¬ c.toNat < 128):numP i n (c :: bs)=numP (i+1) (n+c.toNat % 128 * 128 ^ i) bs:=by rw [numP,if_neg h,if_neg h1]
theorem numP_sevens (m:Nat):∀ (i n:Nat) (r:List UInt8),m < 128 ^ (7 - i)→i≤6→(i=0∨0 < m)→numP i n (sevens m ++ r)=(0,n+m * 128 ^ i,r):=by
 induction m using Nat.strongRecOn with
 | _ m ih =>
  intro i n r hm hi h0
  by_cases h:m < 128
  ·
   have e:=u8_nat (show m < 256 by omega)
   rw [sevens_small h,List.singleton_append,numP_end (by rw [e];omega) (by rw [e];exact h),e,Nat.mod_eq_of_lt h]
  ·
   have e:=u8_nat (show 128+m % 128 < 256 by omega)
   have hi':i≠6:=by
    intro e6
    subst e6
    simp at hm
    omega
   have hlt:m / 128 < 128 ^ (7 - (i+1)):=by
    have e1:7 - i=7 - (i+1)+1:=by omega
    rw [e1,Nat.pow_succ] at hm
    exact Nat.div_lt_of_lt_mul (by rw [Nat.mul_comm];exact hm)
   rw [sevens_more (by omega),List.cons_append,numP_more (by rw [e];omega) (by rw [e];omega),ih (m / 128) (by omega) (i+1) _ r hlt (by omega) (Or.inr (by omega)),e]
   have e2:(128+m % 128) % 128=m % 128:=by omega
   rw [e2,Nat.pow_succ,Nat.add_assoc]
   congr 2
   have e3:m=m % 128+128 * (m / 128):=by omega
   conv=>rhs;rw [e3]
   rw [Nat.add_mul,Nat.mul_comm (128 ^ i) 128,← Nat.mul_assoc,Nat.mul_comm (m / 128) 128]
theorem numP_inv (bs:List UInt8):∀ (i n v:Nat) (r:List UInt8),numP i n bs=(0,v,r)→i≤6→∃ m,v=n+m * 128 ^ i∧bs=sevens m ++ r∧(i=0∨0 < m)∧m < 128 ^ (7 - i):=by
 induction bs with
 | nil=>intro i n v r h;simp [numP] at h
 | cons c bs ih =>
  intro i n v r h hi
  by_cases h1:(0 < i∧c.toNat=0)∨i=7
  · rw [numP_bad h1] at h;simp at h
  ·
   have hp:0 < 128 ^ (7 - (i+1)):=Nat.pow_pos (by omega)
   have e1:7 - i=7 - (i+1)+1:=by omega
   by_cases h2:c.toNat < 128
   ·
    rw [numP_end h1 h2] at h
    simp only [Prod.mk.injEq,true_and] at h
    obtain⟨rfl,rfl⟩:=h
    refine⟨c.toNat,by rw [Nat.mod_eq_of_lt h2],?_,by omega,?_⟩
    · rw [sevens_small h2,UInt8.ofNat_toNat];rfl
    · rw [e1,Nat.pow_succ];omega
   ·
    rw [numP_more h1 h2] at h
    have hi6:i≠6:=by
     intro e6
     subst e6
     cases bs with
     | nil=>simp [numP] at h
     | cons d ds=>rw [numP_bad (Or.inr rfl)] at h;simp at h
    obtain⟨m,hv,hb,hm0,hm⟩:=ih (i+1) _ v r h (by omega)
    have hm':0 < m:=by omega
    have hc:=u8_lt c
    refine⟨c.toNat % 128+128 * m,?_,?_,by omega,?_⟩
    · rw [hv,Nat.add_mul,Nat.pow_succ,Nat.add_assoc,Nat.mul_comm (128 ^ i) 128,← Nat.mul_assoc,Nat.mul_comm m 128]
    · rw [sevens_more (by omega),show (c.toNat % 128+128 * m) / 128=m by omega,show 128+(c.toNat % 128+128 * m) % 128=c.toNat by omega,UInt8.ofNat_toNat,List.cons_append,← hb]
    · rw [e1,Nat.pow_succ];omega
theorem numP_lt {bs r:List UInt8} {v:Nat} (h:numP 0 0 bs=(0,v,r)):v < 128 ^ 7:=by
 obtain⟨m,hv,_,_,hm⟩:=numP_inv bs 0 0 v r h (by omega)
 simp at hv hm
 omega
theorem numP_canon {bs r:List UInt8} {v:Nat} (h:numP 0 0 bs=(0,v,r)):bs=sevens v ++ r:=by
 obtain⟨m,hv,hb,_,_⟩:=numP_inv bs 0 0 v r h (by omega)
 simp at hv
 rw [hv];exact hb
theorem numP_write {n:Nat} (h:n < 128 ^ 7) (r:List UInt8):numP 0 0 (sevens n ++ r)=(0,n,r):=by
 rw [numP_sevens n 0 0 r h (by omega) (Or.inl rfl)];simp
theorem numP_err (bs:List UInt8):∀ i n,(numP i n bs).1=0∨(((numP i n bs).1=4∨(numP i n bs).1=5)∧(numP i n bs).2.1=0):=by
 induction bs with
 | nil=>intro i n;simp [numP]
 | cons c bs ih =>
  intro i n
  by_cases h1:(0 < i∧c.toNat=0)∨i=7
  · rw [numP_bad h1];simp
  ·
   by_cases h2:c.toNat < 128
   · rw [numP_end h1 h2];simp
   · rw [numP_more h1 h2];exact ih _ _
def runsE (last:Int) (run:Nat):List Int→List UInt8
 | []=>[]
 | [x]=>sevens (run+1) ++ sevens (zig (x - last))
 | x :: y :: l=>if x=y then runsE last (run+1) (y :: l) else sevens (run+1) ++ (sevens (zig (x - last)) ++ runsE x 0 (y :: l))
theorem runsE_run (last:Int) (x:Int) (rest:List Int) (h:rest.head?≠some x):∀ m run,runsE last run (List.replicate (m+1) x ++ rest)=sevens (run+m+1) ++ (sevens (zig (x - last)) ++ runsE x 0 rest):=by
 intro m
 induction m with
 | zero =>
  intro run
  cases rest with
  | nil=>simp [runsE]
  | cons y l =>
   have hne:¬ x=y:=fun e=>h (by simp [e])
   rw [List.replicate_one,List.singleton_append,runsE,if_neg hne]
 | succ m ih =>
  intro run
  rw [List.replicate_succ,List.replicate_succ,List.cons_append,List.cons_append,runsE,if_pos rfl,← List.cons_append,← List.replicate_succ,ih (run+1)]
  congr 2
  omega
theorem run_split (x:Int):∀ l:List Int,∃ m rest,x :: l=List.replicate (m+1) x ++ rest∧rest.head?≠some x∧rest.length≤l.length:=by
 intro l
 induction l with
 | nil=>exact⟨0,[],rfl,by simp,by simp⟩
 | cons y l ih =>
  by_cases h:y=x
  ·
   subst h
   obtain⟨m,rest,h1,h2,h3⟩:=ih
   refine⟨m+1,rest,?_,h2,by simp;omega⟩
   rw [List.replicate_succ,List.cons_append,← h1]
  · exact⟨0,y :: l,rfl,by simpa using h,by simp⟩
def blkP:Nat→List Int→Int→List UInt8→Int × List Int × List UInt8
 | 0,acc,_,bs=>(0,acc,bs)
 | f+1,acc,last,bs=>if 16≤acc.length then (0,acc,bs) else
  let a:=numP 0 0 bs
  if a.1≠0 then (a.1,acc,a.2.2) else
  let z:=numP 0 0 a.2.2
  if z.1≠0 then (z.1,acc,z.2.2) else
  if a.2.1 < 1∨16 - acc.length < a.2.1∨(0 < acc.length∧last+zag z.2.1=last) then (4,acc,z.2.2) else
  blkP f (acc ++ List.replicate a.2.1 (last+zag z.2.1)) (last+zag z.2.1) z.2.2
theorem blkP_full {f:Nat} {acc:List Int} {last:Int} {bs:List UInt8} (h:16≤acc.length):blkP f acc last bs=(0,acc,bs):=by
 cases f with
 | zero=>rfl
 | succ f=>rw [blkP,if_pos h]
theorem blkP_e1 {f:Nat} {acc:List Int} {last:Int} {bs r:List UInt8} {e:Int} {k:Nat} (h:¬ 16≤acc.length) (h1:numP 0 0 bs=(e,k,r)) (he:e≠0):blkP (f+1) acc last bs=(e,acc,r):=by
 rw [blkP,if_neg h]
 simp only [h1]
 rw [if_pos he]
theorem blkP_e2 {f:Nat} {acc:List Int} {last:Int} {bs r r2:List UInt8} {e:Int} {k z:Nat} (h:¬ 16≤acc.length) (h1:numP 0 0 bs=(0,k,r)) (h2:numP 0 0 r=(e,z,r2)) (he:e≠0):blkP (f+1) acc last bs=(e,acc,r2):=by
 rw [blkP,if_neg h]
 simp only [h1,h2]
 rw [if_neg (by simp),if_pos he]
theorem blkP_e3 {f:Nat} {acc:List Int} {last:Int} {bs r r2:List UInt8} {k z:Nat} (h:¬ 16≤acc.length) (h1:numP 0 0 bs=(0,k,r)) (h2:numP 0 0 r=(0,z,r2)) (hc:k < 1∨16 - acc.length < k∨(0 < acc.length∧last+zag z=last)):blkP (f+1) acc last bs=(4,acc,r2):=by
 rw [blkP,if_neg h]
 simp only [h1,h2]
 rw [if_neg (by simp),if_neg (by simp),if_pos hc]
theorem blkP_go {f:Nat} {acc:List Int} {last:Int} {bs r r2:List UInt8} {k z:Nat} (h:¬ 16≤acc.length) (h1:numP 0 0 bs=(0,k,r)) (h2:numP 0 0 r=(0,z,r2)) (hc:¬ (k < 1∨16 - acc.length < k∨(0 < acc.length∧last+zag z=last))):blkP (f+1) acc last bs=blkP f (acc ++ List.replicate k (last+zag z)) (last+zag z) r2:=by
 rw [blkP,if_neg h]
 simp only [h1,h2]
 rw [if_neg (by simp),if_neg (by simp),if_neg hc]
theorem zig_lt {z:Int} (h:-4398046511104≤z∧z≤4398046511104):zig z < 128 ^ 7:=by
 unfold zig
 have:(128:Nat) ^ 7=562949953421312:=by decide
 rw [this]
 split <;> omega
theorem small_lt {n:Nat} (h:n≤1000000):n < 128 ^ 7:=by
 have:(128:Nat) ^ 7=562949953421312:=by decide
 rw [this]
 omega
def Word (z:Int):Prop:=-1099511627776≤z∧z≤1099511627776
theorem blkP_runs:∀ (n:Nat) (d:List Int),d.length=n→∀ (f:Nat) (acc:List Int) (last:Int) (r:List UInt8),acc.length+d.length=16→d.length≤f→(acc=[]∨d.head?≠some last)→Word last→(∀ z∈d,Word z)→blkP f acc last (runsE last 0 d ++ r)=(0,acc ++ d,r):=by
 intro n
 induction n using Nat.strongRecOn with
 | _ n ih =>
  intro d hd f acc last r hl hf hh hw hz
  cases d with
  | nil=>simp only [List.length_nil,Nat.add_zero] at hl;rw [blkP_full (by omega)];simp [runsE]
  | cons x l =>
   obtain⟨m,rest,h1,h2,h3⟩:=run_split x l
   simp only [List.length_cons] at hl hf hd
   have hlen:l.length+1=m+1+rest.length:=by
    have:=congrArg List.length h1
    simpa using this
   have hx:Word x:=hz x (by simp)
   have hne:acc=[]∨x≠last:=by
    rcases hh with h | h
    · exact Or.inl h
    · exact Or.inr (fun e=>h (by simp [e]))
   obtain⟨f',rfl⟩:∃ f',f=f' + 1:=⟨f - 1,by omega⟩
   rw [h1,runsE_run last x rest h2 m 0,List.append_assoc,List.append_assoc]
   have e0:last+zag (zig (x - last))=x:=by rw [zag_zig];omega
   unfold Word at hx hw
   rw [blkP_go (by omega) (numP_write (small_lt (by omega)) _) (numP_write (zig_lt (by omega)) _) (by
    rw [e0]
    rintro (h | h | ⟨h,h'⟩)
    · omega
    · omega
    ·
     rcases hne with e | e
     · subst e;simp at h
     · exact e h'),e0,ih rest.length (by omega) rest rfl f' _ x r (by simp;omega) (by omega) (Or.inr h2) hx (fun z hz'=>hz z (by rw [h1];exact List.mem_append_right _ hz'))]
   simp
theorem blkP_inv:∀ (f:Nat) (acc:List Int) (last:Int) (bs r:List UInt8) (d:List Int),blkP f acc last bs=(0,d,r)→16≤f+acc.length→acc.length≤16→∃ t,d=acc ++ t∧d.length=16∧bs=runsE last 0 t ++ r∧(acc=[]∨t.head?≠some last):=by
 intro f
 induction f with
 | zero =>
  intro acc last bs r d h h1 h2
  simp only [blkP,Prod.mk.injEq,true_and] at h
  obtain⟨rfl,rfl⟩:=h
  exact⟨[],by simp,by omega,by simp [runsE],Or.inr (by simp)⟩
 | succ f ih =>
  intro acc last bs r d h h1 h2
  by_cases hl:16≤acc.length
  ·
   rw [blkP_full hl] at h
   simp only [Prod.mk.injEq,true_and] at h
   obtain⟨rfl,rfl⟩:=h
   exact⟨[],by simp,by omega,by simp [runsE],Or.inr (by simp)⟩
  ·
   obtain⟨e1,k,r1,p1⟩:∃ e k r1,numP 0 0 bs=(e,k,r1):=⟨_,_,_,rfl⟩
   by_cases he1:e1=0
   ·
    subst he1
    obtain⟨e2,z,r2,p2⟩:∃ e z r2,numP 0 0 r1=(e,z,r2):=⟨_,_,_,rfl⟩
    by_cases he2:e2=0
    ·
     subst he2
     by_cases hc:k < 1∨16 - acc.length < k∨(0 < acc.length∧last+zag z=last)
     · rw [blkP_e3 hl p1 p2 hc] at h;simp at h
     ·
      rw [blkP_go hl p1 p2 hc] at h
      obtain⟨t,hd,hdl,hb,ht⟩:=ih _ _ _ _ _ h (by simp;omega) (by simp;omega)
      have hk:0 < k:=by omega
      have ht':t.head?≠some (last+zag z):=by
       rcases ht with ht | ht
       · simp at ht;omega
       · exact ht
      obtain⟨m,rfl⟩:∃ m,k=m+1:=⟨k - 1,by omega⟩
      refine⟨List.replicate (m+1) (last+zag z) ++ t,by rw [hd,List.append_assoc],hdl,?_,?_⟩
      ·
       rw [runsE_run _ _ _ ht',show last+zag z - last=zag z by omega,zig_zag,numP_canon p1,numP_canon p2,hb]
       simp
      ·
       by_cases ha:acc=[]
       · exact Or.inl ha
       ·
        refine Or.inr ?_
        have:0 < acc.length:=List.length_pos_iff.2 ha
        rw [List.replicate_succ,List.cons_append,List.head?_cons]
        intro e
        injection e with e
        exact hc (Or.inr (Or.inr ⟨this,e⟩))
    ·
     rw [blkP_e2 hl p1 p2 he2] at h
     simp only [Prod.mk.injEq] at h
     exact absurd h.1 he2
   ·
    rw [blkP_e1 hl p1 he1] at h
    simp only [Prod.mk.injEq] at h
    exact absurd h.1 he1
end Go.Proofs.YtkahciebbnhobaaGreatDoor
namespace Go.Proofs.YtkahciebbnhobaaGreatDoor
open Go Go.RowKit Go.ChangeShapes Go.WideShapes Go.Deep
set_option maxHeartbeats 8000000
set_option maxRecDepth 100000
set_option linter.unusedVariables false
section
variable {H:Type} {enc:TypeId × Value→H} {w:World} {held:Bool}
def RawR (v:Value) (a b c d:Int):Prop:=v=.agg #[.int .i64 a,.int .i64 b,.int .i64 c,.int .i64 d]∧I64 a∧I64 b∧I64 c∧I64 d
end
def EvC (B:Nat) (w:World) (cs:List Value) (x:Ev):Prop:=∃ ad cd,cs=[.int .i64 x.at_,.int .i64 x.kind,.slice ad x.data.length cd]∧I64 x.at_∧I64 x.kind∧Ints B w (.slice ad x.data.length cd) x.data
def EvsR (B:Nat) (w:World) (v:Value) (l:List Ev):Prop:=SlN 3 3518437208780 B w (EvC B w) v l
theorem EvsR.to {B B':Nat} {w w':World} {v:Value} {l:List Ev} (hB:B≤B') (hw:Same B w w') (h:EvsR B w v l):EvsR B' w' v l:=
 SlN.to (Nat.le_refl _) hB hw (fun _ _ ⟨ad,cd,h1,h2,h3,h4⟩=>⟨ad,cd,h1,h2,h3,h4.to hB hw⟩) h
def evW (k:Int):Int:=if k=2 then 16 else if k=3 then 1 else 0
def evF (p:Option Ev) (x:Ev):Int:=
 if x.kind < 1∨3 < x.kind then 3 else
 if x.at_ < 0∨3000≤x.at_∨x.data.any oddB=true then 2 else
 if (x.data.length:Int)≠evW x.kind then 1 else
 match p with
 | none=>0
 | some p=>if x.at_ < p.at_∨(p.at_=x.at_∧x.kind≤p.kind) then 9 else 0
theorem evF3 {p:Option Ev} {x:Ev} (h:x.kind < 1∨3 < x.kind):evF p x=3:=by unfold evF;rw [if_pos h]
theorem evF2 {p:Option Ev} {x:Ev} (h:¬ (x.kind < 1∨3 < x.kind)) (h2:x.at_ < 0∨3000≤x.at_∨x.data.any oddB=true):evF p x=2:=by unfold evF;rw [if_neg h,if_pos h2]
theorem evF1 {p:Option Ev} {x:Ev} (h:¬ (x.kind < 1∨3 < x.kind)) (h2:¬ (x.at_ < 0∨3000≤x.at_∨x.data.any oddB=true)) (h3:(x.data.length:Int)≠evW x.kind):evF p x=1:=by unfold evF;rw [if_neg h,if_neg h2,if_pos h3]
theorem evFp {p:Option Ev} {x:Ev} (h:¬ (x.kind < 1∨3 < x.kind)) (h2:¬ (x.at_ < 0∨3000≤x.at_∨x.data.any oddB=true)) (h3:(x.data.length:Int)=evW x.kind):evF p x=match p with
 | none=>0
 | some p=>if x.at_ < p.at_∨(p.at_=x.at_∧x.kind≤p.kind) then 9 else 0:=by unfold evF;rw [if_neg h,if_neg h2,if_neg (fun e=>e h3)]
theorem evF_zero {p:Option Ev} {x:Ev} (h:evF p x=0):1≤x.kind∧x.kind≤3∧0≤x.at_∧x.at_ < 3000∧x.data.any oddB=false∧(x.data.length:Int)=evW x.kind:=by
 unfold evF at h
 split at h
 · omega
 ·
  split at h
  · omega
  ·
   split at h
   · omega
   ·
    rename_i h1 h2 h3
    refine⟨by omega,by omega,by omega,by omega,?_,by omega⟩
    cases e:x.data.any oddB with
    | false=>rfl
    | true=>exact absurd (Or.inr (Or.inr e)) h2
def fAt (l:List Ev) (k:Nat):Int:=match l[k]? with
 | none=>0
 | some x=>evF (if k=0 then none else l[k - 1]?) x
def EvRes (l:List Ev) (c:Int):Prop:=(1000 < l.length∧c=1)∨(l.length≤1000∧∃ k,k < l.length∧(∀ j,j < k→fAt l j=0)∧fAt l k=c∧c≠0)∨(l.length≤1000∧(∀ j,j < l.length→fAt l j=0)∧c=0)
theorem EvRes.det {l:List Ev} {c d:Int} (h:EvRes l c) (k:EvRes l d):c=d:=by
 rcases h with ⟨h1,rfl⟩ | ⟨h1,i,hi,h2,rfl,h4⟩ | ⟨h1,h2,rfl⟩
 ·
  rcases k with ⟨k1,rfl⟩ | ⟨k1,_⟩ | ⟨k1,_⟩
  · rfl
  · omega
  · omega
 ·
  rcases k with ⟨k1,rfl⟩ | ⟨k1,j,hj,k2,rfl,k4⟩ | ⟨k1,k2,rfl⟩
  · omega
  ·
   rcases Nat.lt_trichotomy i j with e | e | e
   · exact absurd (k2 i e) h4
   · rw [e]
   · exact absurd (h2 j e) k4
  · exact absurd (k2 i hi) h4
 ·
  rcases k with ⟨k1,rfl⟩ | ⟨k1,j,hj,k2,rfl,k4⟩ | ⟨k1,k2,rfl⟩
  · omega
  · exact absurd (h2 j hj) k4
  · rfl
theorem res_hit {l:List Ev} {k:Nat} {c:Int} (hl:l.length≤1000) (hk:k < l.length) (h:∀ j,j < k→fAt l j=0) (hc:fAt l k=c) (h0:c≠0):EvRes l c:=Or.inr (Or.inl ⟨hl,k,hk,h,hc,h0⟩)
theorem fz_grow {l:List Ev} {k:Nat} (h:∀ j,j < k→fAt l j=0) (h1:fAt l k=0):∀ j,j < k+1→fAt l j=0:=by
 intro j hj
 rcases Nat.lt_succ_iff_lt_or_eq.1 hj with hj | rfl
 · exact h j hj
 · exact h1
theorem fAt_range {l:List Ev} {m:Nat} (h:m < l.length) (h0:fAt l m=0):1≤l[m].kind∧l[m].kind≤3∧0≤l[m].at_∧l[m].at_ < 3000:=by
 unfold fAt at h0
 rw [List.getElem?_eq_getElem h] at h0
 have:=evF_zero h0
 exact⟨this.1,this.2.1,this.2.2.1,this.2.2.2.1⟩
structure Tab (w:World):Prop where
 c0:w.cell? ⟨0,0,none⟩=some (.int .i64 0)
 c1:w.cell? ⟨0,1,none⟩=some (.int .i64 0)
 c2:w.cell? ⟨0,2,none⟩=some (.int .i64 16)
 c3:w.cell? ⟨0,3,none⟩=some (.int .i64 1)
 lt:0 < w.heap.size
theorem Tab.to {w w':World} (h:Tab w) (hb:Below w.heap.size w w'):Tab w':=
 ⟨(same_below hb _ _ h.lt).trans h.c0,(same_below hb _ _ h.lt).trans h.c1,(same_below hb _ _ h.lt).trans h.c2,(same_below hb _ _ h.lt).trans h.c3,Nat.lt_of_lt_of_le h.lt hb.size⟩
def EvPost (l:List Ev) (w:World) (e:Ending) (w':World):Prop:=∃ c,EvRes l c∧e=.returned (.int .i64 c)∧Below w.heap.size w w'
theorem eword_any (z:Int) (w:World):Calls Tryz.prog 61 #[.int .i64 z] w fun e w'=>e=.returned (.bool (!oddB z))∧w=w':=by
 by_cases h1:-1099511627776≤z
 ·
  by_cases h2:z≤1099511627776
  ·
   rw [odd_false ⟨h1,h2⟩]
   go_enter Tryz.func61,Tryz.ntmps61
   go_wp2
   go_ret
   simp_all
  ·
   rw [odd_true (by omega)]
   go_enter Tryz.func61,Tryz.ntmps61
   go_wp2
   go_ret
   simp_all
 ·
  rw [odd_true (by omega)]
  go_enter Tryz.func61,Tryz.ntmps61
  go_wp2
  go_ret
  simp_all
theorem eodd_is:PredIs 60 oddB:=by
 intro z W h1 h2
 have HW:=Lib.hid (eword_any z)
 go_enter Tryz.func60,Tryz.ntmps60
 go_wp2_with (go_at_call 61;refine (HW.out _).mono ?_;rintro e w' ⟨rfl,rfl⟩)
 go_ret
 exact⟨ret_bool (by simp),rfl⟩
def OddOr (zs:List Int) (w:World) (e:Ending) (w':World):Prop:=(e=.returned (.bool true)∧Hid (zs.any oddB=true)∧∃ n,w'=w.drewN n)∨(e=.returned (.bool false)∧Hid (zs.any oddB=false)∧∃ n,w'=w.drewN n)
theorem odd_or {F:FuncId} {args:Array Value} {zs:List Int} {w:World} (h:Calls Tryz.prog F args w fun e w'=>e=.returned (.bool (zs.any oddB))∧∃ n,w'=w.drewN n):Calls Tryz.prog F args w (OddOr zs w):=by
 rcases Bool.eq_false_or_eq_true (zs.any oddB) with hq | hq
 · exact h.mono fun e w' ⟨he,hn⟩=>Or.inl ⟨by rw [he,hq],Lib.hid hq,hn⟩
 · exact h.mono fun e w' ⟨he,hn⟩=>Or.inr ⟨by rw [he,hq],Lib.hid hq,hn⟩
theorem eodd_contains (v:Value) (zs:List Int) (w:World) (hf:Ints w.heap.size w v zs):Calls Tryz.prog 45 #[v,.func (.func 60) #[] #[]] w (OddOr zs w):=
 odd_or (containsF_any _ oddB (enters_of Tryz.func60 (by kernel_rfl) rfl) eodd_is v zs w hf)
theorem evcheck_any (v:Value) (l:List Ev) (w:World) (hf:EvsR w.heap.size w v l) (ht:Tab w):Calls Tryz.prog 36 #[v] w (EvPost l w):=by
 obtain⟨a,cap,rfl,hl,hl2,hc⟩:=hf
 have HC:=Lib.hid hc
 have HT:=Lib.hid ht
 clear hc ht
 by_cases h1000:1000 < l.length
 ·
  have h1:(1000:Int) < (l.length:Int):=by omega
  go_enter Tryz.func36,Tryz.ntmps36
  go_wp2
  go_ret
  exact⟨1,Or.inl ⟨h1000,rfl⟩,rfl,Below.refl _ _⟩
 ·
  have h1:¬ (1000:Int) < (l.length:Int):=by omega
  have h1000':l.length≤1000:=by omega
  go_enter Tryz.func36,Tryz.ntmps36
  go_wp2
  go_loopw [10] (fun i wr =>∃k:Nat,k≤l.length∧i=.int .i64 k∧Hid (∀ j,j < k→fAt l j=0)∧Below w.heap.size w wr) (fun i _=>l.length - (intOf i).toNat)
  case atStart=>exact⟨0,Nat.zero_le _,rfl,Lib.hid fun j hj=>absurd hj (Nat.not_lt_zero _),Below.refl _ _⟩
  case round =>
   obtain⟨k,hk,rfl,A,hb⟩:=hrel
   by_cases hlt:k < l.length
   ·
    obtain⟨b,off,cs,ha,hbb,hcs,hcell,ad,cd,hcs2,i1,i2,hint⟩:=HC.out k hlt
    have HX:=Lib.hid (fun c (hc:fAt l k=c) (h0:c≠0)=>res_hit h1000' hlt A.out hc h0)
    have HG:=Lib.hid (fun (hc:fAt l k=0)=>fz_grow A.out hc)
    subst ha hcs2
    have HT2:=Lib.hid (HT.out.to hb)
    have HI:=Lib.hid (hint.to hb.size (same_below hb))
    have HB:=Lib.hid hb
    have r0:wr.cell? ⟨b,off+k * 3,none⟩=some (.int .i64 l[k].at_):=(same_below hb _ _ hbb).trans (hcell 0 (by simp))
    have r1:wr.cell? ⟨b,off+k * 3+1,none⟩=some (.int .i64 l[k].kind):=(same_below hb _ _ hbb).trans (hcell 1 (by simp))
    have r2:wr.cell? ⟨b,off+k * 3+2,none⟩=some (.slice ad l[k].data.length cd):=(same_below hb _ _ hbb).trans (hcell 2 (by simp))
    have hwb:=hb.size
    have hxl:l[k]? = some l[k]:=List.getElem?_eq_getElem hlt
    have e0:fAt l k=evF (if k=0 then none else l[k - 1]?) l[k]:=by unfold fAt;rw [hxl]
    rw [e0] at HX HG
    clear hint hcell hb i1 i2 e0 hxl
    generalize l[k]=x at *
    obtain⟨at_,kd,data⟩:=x
    simp only at r0 r1 r2 HI
    have t1:=HT2.out.c1
    have t2:=HT2.out.c2
    have t3:=HT2.out.c3
    have tlt:=HT2.out.lt
    by_cases k1:kd < 1
    ·
     go_wp2
     go_ret
     exact⟨3,HX.out 3 (evF3 (Or.inl k1)) (by decide),rfl,(by repeat (first | exact HB.out | refine below_drewN ?_ _ | refine Below.alloc ?_ hwb _))⟩
    by_cases k3:3 < kd
    ·
     go_wp2
     go_ret
     exact⟨3,HX.out 3 (evF3 (Or.inr k3)) (by decide),rfl,(by repeat (first | exact HB.out | refine below_drewN ?_ _ | refine Below.alloc ?_ hwb _))⟩
    by_cases a0:at_ < 0
    ·
     go_wp2
     go_ret
     exact⟨2,HX.out 2 (evF2 (by simp;omega) (Or.inl a0)) (by decide),rfl,(by repeat (first | exact HB.out | refine below_drewN ?_ _ | refine Below.alloc ?_ hwb _))⟩
    by_cases a3:3000≤at_
    ·
     go_wp2
     go_ret
     exact⟨2,HX.out 2 (evF2 (by simp;omega) (Or.inr (Or.inl a3))) (by decide),rfl,(by repeat (first | exact HB.out | refine below_drewN ?_ _ | refine Below.alloc ?_ hwb _))⟩
    have hkd:kd=1∨kd=2∨kd=3:=by omega
    clear k1 k3
    cases k with
    | zero =>
     rw [if_pos rfl] at HX HG
     simp only [Nat.zero_mul,Nat.add_zero] at r0 r1 r2
     rcases hkd with rfl | rfl | rfl
     ·
      skip
      go_wp2_with (go_at_call 45;refine (eodd_contains _ data _ ?_).mono ?_;(exact HI.out.to (by simp) (same_alloc _ _));rintro e w' (⟨rfl,ho,n1,rfl⟩ | ⟨rfl,ho,n1,rfl⟩))
      ·
       go_ret
       exact⟨2,HX.out 2 (evF2 (by simp) (Or.inr (Or.inr ho.out))) (by decide),rfl,(by repeat (first | exact HB.out | refine below_drewN ?_ _ | refine Below.alloc ?_ hwb _))⟩
      have HN:=Lib.hid (show ¬ (at_ < 0∨3000≤at_∨data.any oddB=true) by rw [ho.out];simp;omega)
      clear ho
      by_cases hlen:(data.length:Int)=0
      ·
       have bl:((data.length:Int) != 0)=false:=by rw [bne_eq_false_iff_eq];exact hlen
       have HL:=Lib.hid hlen
       clear hlen
       have HGG:=Lib.hid (HG.out (evFp (by simp) HN.out HL.out))
       go_quiet (fail)
       go_wp2_with fail
       go_quiet (fail)
       go_wp2
       go_roundw
       case rel=>exact⟨1,by omega,by go_num,HGG,(by repeat (first | exact HB.out | refine below_drewN ?_ _ | refine Below.alloc ?_ hwb _))⟩
       case measure=>simp [intOf];omega
      ·
       have bl:((data.length:Int) != 0)=true:=by rw [bne_iff_ne];exact hlen
       have HL:=Lib.hid hlen
       clear hlen
       go_quiet (fail)
       go_wp2
       go_ret
       exact⟨1,HX.out 1 (evF1 (by simp) HN.out HL.out) (by decide),rfl,(by repeat (first | exact HB.out | refine below_drewN ?_ _ | refine Below.alloc ?_ hwb _))⟩
     ·
      skip
      go_wp2_with (go_at_call 45;refine (eodd_contains _ data _ ?_).mono ?_;(exact HI.out.to (by simp) (same_alloc _ _));rintro e w' (⟨rfl,ho,n1,rfl⟩ | ⟨rfl,ho,n1,rfl⟩))
      ·
       go_ret
       exact⟨2,HX.out 2 (evF2 (by simp) (Or.inr (Or.inr ho.out))) (by decide),rfl,(by repeat (first | exact HB.out | refine below_drewN ?_ _ | refine Below.alloc ?_ hwb _))⟩
      have HN:=Lib.hid (show ¬ (at_ < 0∨3000≤at_∨data.any oddB=true) by rw [ho.out];simp;omega)
      clear ho
      by_cases hlen:(data.length:Int)=16
      ·
       have bl:((data.length:Int) != 16)=false:=by rw [bne_eq_false_iff_eq];exact hlen
       have HL:=Lib.hid hlen
       clear hlen
       have HGG:=Lib.hid (HG.out (evFp (by simp) HN.out HL.out))
       go_quiet (fail)
       go_wp2_with fail
       go_quiet (fail)
       go_wp2
       go_roundw
       case rel=>exact⟨1,by omega,by go_num,HGG,(by repeat (first | exact HB.out | refine below_drewN ?_ _ | refine Below.alloc ?_ hwb _))⟩
       case measure=>simp [intOf];omega
      ·
       have bl:((data.length:Int) != 16)=true:=by rw [bne_iff_ne];exact hlen
       have HL:=Lib.hid hlen
       clear hlen
       go_quiet (fail)
       go_wp2
       go_ret
       exact⟨1,HX.out 1 (evF1 (by simp) HN.out HL.out) (by decide),rfl,(by repeat (first | exact HB.out | refine below_drewN ?_ _ | refine Below.alloc ?_ hwb _))⟩
     ·
      skip
      go_wp2_with (go_at_call 45;refine (eodd_contains _ data _ ?_).mono ?_;(exact HI.out.to (by simp) (same_alloc _ _));rintro e w' (⟨rfl,ho,n1,rfl⟩ | ⟨rfl,ho,n1,rfl⟩))
      ·
       go_ret
       exact⟨2,HX.out 2 (evF2 (by simp) (Or.inr (Or.inr ho.out))) (by decide),rfl,(by repeat (first | exact HB.out | refine below_drewN ?_ _ | refine Below.alloc ?_ hwb _))⟩
      have HN:=Lib.hid (show ¬ (at_ < 0∨3000≤at_∨data.any oddB=true) by rw [ho.out];simp;omega)
      clear ho
      by_cases hlen:(data.length:Int)=1
      ·
       have bl:((data.length:Int) != 1)=false:=by rw [bne_eq_false_iff_eq];exact hlen
       have HL:=Lib.hid hlen
       clear hlen
       have HGG:=Lib.hid (HG.out (evFp (by simp) HN.out HL.out))
       go_quiet (fail)
       go_wp2_with fail
       go_quiet (fail)
       go_wp2
       go_roundw
       case rel=>exact⟨1,by omega,by go_num,HGG,(by repeat (first | exact HB.out | refine below_drewN ?_ _ | refine Below.alloc ?_ hwb _))⟩
       case measure=>simp [intOf];omega
      ·
       have bl:((data.length:Int) != 1)=true:=by rw [bne_iff_ne];exact hlen
       have HL:=Lib.hid hlen
       clear hlen
       go_quiet (fail)
       go_wp2
       go_ret
       exact⟨1,HX.out 1 (evF1 (by simp) HN.out HL.out) (by decide),rfl,(by repeat (first | exact HB.out | refine below_drewN ?_ _ | refine Below.alloc ?_ hwb _))⟩
    | succ m =>
     have hm:m < l.length:=by omega
     rw [if_neg (by omega),Nat.add_sub_cancel,List.getElem?_eq_getElem hm] at HX HG
     obtain⟨b',off',cs',ha',hbb',hcs',hcell',ad',cd',hcs2',i1',i2',hint'⟩:=HC.out m hm
     simp only [Option.some.injEq,Addr.mk.injEq,and_true] at ha'
     obtain⟨rfl,rfl⟩:=ha'
     subst hcs2'
     have p0:wr.cell? ⟨b,off+m * 3,none⟩=some (.int .i64 l[m].at_):=(same_below HB.out _ _ hbb').trans (hcell' 0 (by simp))
     have p1:wr.cell? ⟨b,off+m * 3+1,none⟩=some (.int .i64 l[m].kind):=(same_below HB.out _ _ hbb').trans (hcell' 1 (by simp))
     clear hcell' hint' i1' i2' hcs'
     generalize l[m]=px at *
     obtain⟨pat,pkd,pda⟩:=px
     simp only at p0 p1
     have hg:decide ((0:Int) < (m:Int)+1)=true:=by rw [decide_eq_true_iff];omega
     have hm0:(0:Int)≤(m:Int):=by omega
     have hm1:(m:Int) < (l.length:Int):=by omega
     have hbw:b < wr.heap.size:=by omega
     have hwm:IntKind.i64.wrap (m:Int)=m:=IntWalk.i64_in _ (by omega)
     rcases hkd with rfl | rfl | rfl
     ·
      skip
      go_wp2_with (go_at_call 45;refine (eodd_contains _ data _ ?_).mono ?_;(exact HI.out.to (by simp) (same_alloc _ _));rintro e w' (⟨rfl,ho,n1,rfl⟩ | ⟨rfl,ho,n1,rfl⟩))
      ·
       go_ret
       exact⟨2,HX.out 2 (evF2 (by simp) (Or.inr (Or.inr ho.out))) (by decide),rfl,(by repeat (first | exact HB.out | refine below_drewN ?_ _ | refine Below.alloc ?_ hwb _))⟩
      have HN:=Lib.hid (show ¬ (at_ < 0∨3000≤at_∨data.any oddB=true) by rw [ho.out];simp;omega)
      clear ho
      by_cases hlen:(data.length:Int)=0
      ·
       have bl:((data.length:Int) != 0)=false:=by rw [bne_eq_false_iff_eq];exact hlen
       have HL:=Lib.hid hlen
       clear hlen
       have hev:=evFp (p:=some ⟨pat,pkd,pda⟩) (x:=⟨at_,1,data⟩) (by simp) HN.out HL.out
       simp only at hev
       rcases (show at_ < pat∨(pat=at_∧1≤pkd)∨(pat=at_∧pkd < 1)∨pat < at_ by omega) with o | ⟨o,o2⟩ | ⟨o,o2⟩ | o
       ·
        skip
        have HR:=Lib.hid (HX.out 9 (hev.trans (if_pos (by omega))) (by decide))
        have g1:decide (at_ < pat)=true:=by rw [decide_eq_true_iff];exact o
        clear hev o
        go_quiet (fail)
        go_wp2_with fail
        go_quiet (fail)
        go_wp2
        go_ret
        exact⟨9,HR.out,rfl,(by repeat (first | exact HB.out | refine below_drewN ?_ _ | refine Below.alloc ?_ hwb _))⟩
       ·
        skip
        have HR:=Lib.hid (HX.out 9 (hev.trans (if_pos (by omega))) (by decide))
        subst o
        have g1:decide (pat < pat)=false:=by simp
        have g3:decide ((1:Int)≤pkd)=true:=by rw [decide_eq_true_iff];exact o2
        clear hev o2
        go_quiet (fail)
        go_wp2_with fail
        go_quiet (fail)
        go_wp2
        go_ret
        exact⟨9,HR.out,rfl,(by repeat (first | exact HB.out | refine below_drewN ?_ _ | refine Below.alloc ?_ hwb _))⟩
       ·
        skip
        have HR:=Lib.hid (HG.out (hev.trans (if_neg (by omega))))
        subst o
        have g1:decide (pat < pat)=false:=by simp
        have g3:decide ((1:Int)≤pkd)=false:=by rw [decide_eq_false_iff_not];omega
        clear hev o2
        go_quiet (fail)
        go_wp2_with fail
        go_quiet (fail)
        go_wp2
        go_roundw
        case rel=>exact⟨m+1+1,by omega,by go_num,HR,(by repeat (first | exact HB.out | refine below_drewN ?_ _ | refine Below.alloc ?_ hwb _))⟩
        case measure=>simp [intOf];omega
       ·
        skip
        have HR:=Lib.hid (HG.out (hev.trans (if_neg (by omega))))
        have g1:decide (at_ < pat)=false:=by rw [decide_eq_false_iff_not];omega
        have g2:(pat == at_)=false:=by rw [beq_eq_false_iff_ne];omega
        clear hev o
        go_quiet (fail)
        go_wp2_with fail
        go_quiet (fail)
        go_wp2
        go_roundw
        case rel=>exact⟨m+1+1,by omega,by go_num,HR,(by repeat (first | exact HB.out | refine below_drewN ?_ _ | refine Below.alloc ?_ hwb _))⟩
        case measure=>simp [intOf];omega
      ·
       have bl:((data.length:Int) != 0)=true:=by rw [bne_iff_ne];exact hlen
       have HL:=Lib.hid hlen
       clear hlen
       go_quiet (fail)
       go_wp2
       go_ret
       exact⟨1,HX.out 1 (evF1 (by simp) HN.out HL.out) (by decide),rfl,(by repeat (first | exact HB.out | refine below_drewN ?_ _ | refine Below.alloc ?_ hwb _))⟩
     ·
      skip
      go_wp2_with (go_at_call 45;refine (eodd_contains _ data _ ?_).mono ?_;(exact HI.out.to (by simp) (same_alloc _ _));rintro e w' (⟨rfl,ho,n1,rfl⟩ | ⟨rfl,ho,n1,rfl⟩))
      ·
       go_ret
       exact⟨2,HX.out 2 (evF2 (by simp) (Or.inr (Or.inr ho.out))) (by decide),rfl,(by repeat (first | exact HB.out | refine below_drewN ?_ _ | refine Below.alloc ?_ hwb _))⟩
      have HN:=Lib.hid (show ¬ (at_ < 0∨3000≤at_∨data.any oddB=true) by rw [ho.out];simp;omega)
      clear ho
      by_cases hlen:(data.length:Int)=16
      ·
       have bl:((data.length:Int) != 16)=false:=by rw [bne_eq_false_iff_eq];exact hlen
       have HL:=Lib.hid hlen
       clear hlen
       have hev:=evFp (p:=some ⟨pat,pkd,pda⟩) (x:=⟨at_,2,data⟩) (by simp) HN.out HL.out
       simp only at hev
       rcases (show at_ < pat∨(pat=at_∧2≤pkd)∨(pat=at_∧pkd < 2)∨pat < at_ by omega) with o | ⟨o,o2⟩ | ⟨o,o2⟩ | o
       ·
        skip
        have HR:=Lib.hid (HX.out 9 (hev.trans (if_pos (by omega))) (by decide))
        have g1:decide (at_ < pat)=true:=by rw [decide_eq_true_iff];exact o
        clear hev o
        go_quiet (fail)
        go_wp2_with fail
        go_quiet (fail)
        go_wp2
        go_ret
        exact⟨9,HR.out,rfl,(by repeat (first | exact HB.out | refine below_drewN ?_ _ | refine Below.alloc ?_ hwb _))⟩
       ·
        skip
        have HR:=Lib.hid (HX.out 9 (hev.trans (if_pos (by omega))) (by decide))
        subst o
        have g1:decide (pat < pat)=false:=by simp
        have g3:decide ((2:Int)≤pkd)=true:=by rw [decide_eq_true_iff];exact o2
        clear hev o2
        go_quiet (fail)
        go_wp2_with fail
        go_quiet (fail)
        go_wp2
        go_ret
        exact⟨9,HR.out,rfl,(by repeat (first | exact HB.out | refine below_drewN ?_ _ | refine Below.alloc ?_ hwb _))⟩
       ·
        skip
        have HR:=Lib.hid (HG.out (hev.trans (if_neg (by omega))))
        subst o
        have g1:decide (pat < pat)=false:=by simp
        have g3:decide ((2:Int)≤pkd)=false:=by rw [decide_eq_false_iff_not];omega
        clear hev o2
        go_quiet (fail)
        go_wp2_with fail
        go_quiet (fail)
        go_wp2
        go_roundw
        case rel=>exact⟨m+1+1,by omega,by go_num,HR,(by repeat (first | exact HB.out | refine below_drewN ?_ _ | refine Below.alloc ?_ hwb _))⟩
        case measure=>simp [intOf];omega
       ·
        skip
        have HR:=Lib.hid (HG.out (hev.trans (if_neg (by omega))))
        have g1:decide (at_ < pat)=false:=by rw [decide_eq_false_iff_not];omega
        have g2:(pat == at_)=false:=by rw [beq_eq_false_iff_ne];omega
        clear hev o
        go_quiet (fail)
        go_wp2_with fail
        go_quiet (fail)
        go_wp2
        go_roundw
        case rel=>exact⟨m+1+1,by omega,by go_num,HR,(by repeat (first | exact HB.out | refine below_drewN ?_ _ | refine Below.alloc ?_ hwb _))⟩
        case measure=>simp [intOf];omega
      ·
       have bl:((data.length:Int) != 16)=true:=by rw [bne_iff_ne];exact hlen
       have HL:=Lib.hid hlen
       clear hlen
       go_quiet (fail)
       go_wp2
       go_ret
       exact⟨1,HX.out 1 (evF1 (by simp) HN.out HL.out) (by decide),rfl,(by repeat (first | exact HB.out | refine below_drewN ?_ _ | refine Below.alloc ?_ hwb _))⟩
     ·
      skip
      go_wp2_with (go_at_call 45;refine (eodd_contains _ data _ ?_).mono ?_;(exact HI.out.to (by simp) (same_alloc _ _));rintro e w' (⟨rfl,ho,n1,rfl⟩ | ⟨rfl,ho,n1,rfl⟩))
      ·
       go_ret
       exact⟨2,HX.out 2 (evF2 (by simp) (Or.inr (Or.inr ho.out))) (by decide),rfl,(by repeat (first | exact HB.out | refine below_drewN ?_ _ | refine Below.alloc ?_ hwb _))⟩
      have HN:=Lib.hid (show ¬ (at_ < 0∨3000≤at_∨data.any oddB=true) by rw [ho.out];simp;omega)
      clear ho
      by_cases hlen:(data.length:Int)=1
      ·
       have bl:((data.length:Int) != 1)=false:=by rw [bne_eq_false_iff_eq];exact hlen
       have HL:=Lib.hid hlen
       clear hlen
       have hev:=evFp (p:=some ⟨pat,pkd,pda⟩) (x:=⟨at_,3,data⟩) (by simp) HN.out HL.out
       simp only at hev
       rcases (show at_ < pat∨(pat=at_∧3≤pkd)∨(pat=at_∧pkd < 3)∨pat < at_ by omega) with o | ⟨o,o2⟩ | ⟨o,o2⟩ | o
       ·
        skip
        have HR:=Lib.hid (HX.out 9 (hev.trans (if_pos (by omega))) (by decide))
        have g1:decide (at_ < pat)=true:=by rw [decide_eq_true_iff];exact o
        clear hev o
        go_quiet (fail)
        go_wp2_with fail
        go_quiet (fail)
        go_wp2
        go_ret
        exact⟨9,HR.out,rfl,(by repeat (first | exact HB.out | refine below_drewN ?_ _ | refine Below.alloc ?_ hwb _))⟩
       ·
        skip
        have HR:=Lib.hid (HX.out 9 (hev.trans (if_pos (by omega))) (by decide))
        subst o
        have g1:decide (pat < pat)=false:=by simp
        have g3:decide ((3:Int)≤pkd)=true:=by rw [decide_eq_true_iff];exact o2
        clear hev o2
        go_quiet (fail)
        go_wp2_with fail
        go_quiet (fail)
        go_wp2
        go_ret
        exact⟨9,HR.out,rfl,(by repeat (first | exact HB.out | refine below_drewN ?_ _ | refine Below.alloc ?_ hwb _))⟩
       ·
        skip
        have HR:=Lib.hid (HG.out (hev.trans (if_neg (by omega))))
        subst o
        have g1:decide (pat < pat)=false:=by simp
        have g3:decide ((3:Int)≤pkd)=false:=by rw [decide_eq_false_iff_not];omega
        clear hev o2
        go_quiet (fail)
        go_wp2_with fail
        go_quiet (fail)
        go_wp2
        go_roundw
        case rel=>exact⟨m+1+1,by omega,by go_num,HR,(by repeat (first | exact HB.out | refine below_drewN ?_ _ | refine Below.alloc ?_ hwb _))⟩
        case measure=>simp [intOf];omega
       ·
        skip
        have HR:=Lib.hid (HG.out (hev.trans (if_neg (by omega))))
        have g1:decide (at_ < pat)=false:=by rw [decide_eq_false_iff_not];omega
        have g2:(pat == at_)=false:=by rw [beq_eq_false_iff_ne];omega
        clear hev o
        go_quiet (fail)
        go_wp2_with fail
        go_quiet (fail)
        go_wp2
        go_roundw
        case rel=>exact⟨m+1+1,by omega,by go_num,HR,(by repeat (first | exact HB.out | refine below_drewN ?_ _ | refine Below.alloc ?_ hwb _))⟩
        case measure=>simp [intOf];omega
      ·
       have bl:((data.length:Int) != 1)=true:=by rw [bne_iff_ne];exact hlen
       have HL:=Lib.hid hlen
       clear hlen
       go_quiet (fail)
       go_wp2
       go_ret
       exact⟨1,HX.out 1 (evF1 (by simp) HN.out HL.out) (by decide),rfl,(by repeat (first | exact HB.out | refine below_drewN ?_ _ | refine Below.alloc ?_ hwb _))⟩
   ·
    obtain rfl:k=l.length:=by omega
    go_wp2
    go_ret
    exact⟨0,Or.inr (Or.inr ⟨h1000',A.out,rfl⟩),rfl,hb⟩
end Go.Proofs.YtkahciebbnhobaaGreatDoor
