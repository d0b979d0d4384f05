/- Several texts joined, each with its own heading in the notes: The contract of the reference's GuestNew. The contracts of cpu. What a tape's check answers, in plain Lean, and run. run. No condition beyond those of each row. -/
import Derived.Test.YtkahciebbnhobaaGreatDoorYPk
import Derived.Deep.AppendLies
import Derived.Test.YtkahciebbnhobaaGreatDoorYEv
import Derived.Test.YtkahciebbnhobaaGreatDoorYDe
import Derived.Test.YtkahciebbnhobaaGreatDoorYSu
import Derived.StillTailTactics
import Derived.Deep.CutBlock
import Derived.Deep.CutRange
import Derived.Deep.LoopGhost
namespace Go.Proofs.YtkahciebbnhobaaGreatDoor
open Go Go.RowKit Go.ChangeShapes Go.WideShapes Go.Deep
set_option linter.unusedVariables false
attribute [local go_sem ↓] Go.wp_at_zero Go.wp_at_succ
structure GInv (w:World) (gb gr:Nat) (a:Option Addr) (n c:Nat) (mem:List Int) (wx:World):Prop where
 x:wx.heap[w.heap.size]? = some (.cells #[.slice none 0 0,.int .i64 0,.int .i64 0,.bool false,.bool false,.int .i64 0,.int .i64 0,.int .i64 0,.slice none 0 0,.slice none 0 0,.int .i64 0,.int .i64 0] 34 (0,0))
 y:wx.heap[gb]? = some (.cells #[.slice (some ⟨gr,0,none⟩) 8 8,.int .i64 0,.int .i64 0,.bool false,.bool false,.int .i64 (-1),.int .i64 0,.int .i64 0,.slice a n c,.slice none 0 0,.int .i64 0,.int .i64 (-1)] 34 (0,0))
 r:wx.heap[gr]? = some (.cells ((List.replicate 8 (0:Int)).map (Value.int .i64)).toArray 3 (0,0))
 m:wx.ownsRow w.heap.size 3 1 (.slice a n c) n (mem.map (Value.int .i64))
 b:Below w.heap.size w wx
 wr:w.heap.size < gr
 wb:w.heap.size < gb
 rm:some gr≠(Value.slice a n c).ownBlock
theorem GInv.own {w wx:World} {gb gr c:Nat} {a:Option Addr} {img:List Int} (hl:img.length≤256) (h:GInv w gb gr a 256 c (imageM img).mem wx):SInv w w.heap.size (imageM img) (.slice (some ⟨gr,0,none⟩) 8 8) (.slice a 256 c) (.slice none 0 0) wx:=by
 have l1:(imageM img).regs.length=8:=by simp [imageM]
 have l2:=image_len img hl
 have o1:=own_block (base:=w.heap.size) h.r (by have:=h.wr;omega) (n:=8) (by simp) (by omega)
 have hm:=h.m
 refine⟨⟨by rw [l1];exact o1,by rw [l2];exact hm,World.ownsRow_nil _ _ _ _,Or.inr h.rm,?_,?_,?_,Or.inl rfl,Or.inl rfl⟩,⟨_,h.x⟩,h.b⟩
 · exact Or.inr (by simp [Value.ownBlock])
 ·
  unfold Apart
  cases e:Value.ownBlock (.slice a 256 c) with
  | none=>exact Or.inl rfl
  | some q=>exact Or.inr (by simp [Value.ownBlock])
 ·
  unfold Apart
  cases e:Value.ownBlock (.slice a 256 c) with
  | none=>exact Or.inl rfl
  | some q=>exact Or.inr (by have:=h.rm;rw [e] at this;exact fun e'=>this e'.symm)
end Go.Proofs.YtkahciebbnhobaaGreatDoor
namespace Go.Proofs.YtkahciebbnhobaaGreatDoor
open Go Go.RowKit Go.ChangeShapes Go.WideShapes Go.ChangeAt
set_option maxHeartbeats 4000000
set_option maxRecDepth 100000
set_option linter.unusedVariables false
theorem cnew_all (v:Value) (img:List Int) (w:World) (hv:Ints w.heap.size w v img):Calls Tryz.prog 23 #[v] w (NewPost w (newM img) (newC img)):=by
 by_cases h1:256 < img.length
 ·
  have e:newM img=zeroM:=by unfold newM;rw [if_pos h1]
  rw [e];exact new_bad v img w hv (Or.inl h1)
 ·
  cases h2:img.any oddB with
  | true =>
   have e:newM img=zeroM:=by unfold newM;rw [if_neg h1,if_pos h2]
   rw [e];exact new_bad v img w hv (Or.inr h2)
  | false =>
   have e:newM img=imageM img:=by unfold newM;rw [if_neg h1,if_neg (by rw [h2];decide)]
   have e':newC img=0:=by unfold newC;rw [if_neg h1,if_neg (by rw [h2];decide)]
   rw [e,e'];exact new_good v img w hv (by omega) h2
def ChkR (img:List Int) (b:List UInt8) (cnt c:Int) (l:List Ev):Prop:=
 (newC img≠0∧c=newC img∧l=[]) ∨
 (newC img=0∧(cnt < 0∨3000 < cnt)∧c=2∧l=[]) ∨
 (newC img=0∧0≤cnt∧cnt≤3000∧∃ d m,DecR b d m∧((d≠0∧c=d∧l=[])∨(d=0∧(∃ (i:Nat) (h:i < m.length),cnt≤m[i].at_)∧c=9∧l=[])∨(d=0∧(∀ (i:Nat) (h:i < m.length),m[i].at_ < cnt)∧c=0∧l=m)))
theorem ChkR.det {img:List Int} {b:List UInt8} {cnt c d:Int} {l m:List Ev} (h:ChkR img b cnt c l) (k:ChkR img b cnt d m):c=d∧l=m:=by
 rcases h with ⟨h1,rfl,rfl⟩ | ⟨h1,h2,rfl,rfl⟩ | ⟨h1,h2,h3,e,x,hd,h⟩ <;> rcases k with ⟨k1,rfl,rfl⟩ | ⟨k1,k2,rfl,rfl⟩ | ⟨k1,k2,k3,e',x',hd',k⟩
 · exact⟨rfl,rfl⟩
 · exact absurd k1 h1
 · exact absurd k1 h1
 · exact absurd h1 k1
 · exact⟨rfl,rfl⟩
 ·
  rcases h2 with h2 | h2
  · exact absurd k2 (Int.not_le.2 h2)
  · exact absurd k3 (Int.not_le.2 h2)
 · exact absurd h1 k1
 ·
  rcases k2 with k2 | k2
  · exact absurd h2 (Int.not_le.2 k2)
  · exact absurd h3 (Int.not_le.2 k2)
 ·
  obtain⟨rfl,rfl⟩:=hd.det hd'
  rcases h with ⟨h4,rfl,rfl⟩ | ⟨h4,⟨i,hi,h5⟩,rfl,rfl⟩ | ⟨h4,h5,rfl,rfl⟩ <;> rcases k with ⟨k4,rfl,rfl⟩ | ⟨k4,⟨j,hj,k5⟩,rfl,rfl⟩ | ⟨k4,k5,rfl,rfl⟩
  · exact⟨rfl,rfl⟩
  · exact absurd k4 h4
  · exact absurd k4 h4
  · exact absurd h4 k4
  · exact⟨rfl,rfl⟩
  · exact absurd h5 (Int.not_le.2 (k5 i hi))
  · exact absurd h4 k4
  · exact absurd k5 (Int.not_le.2 (h5 j hj))
  · exact⟨rfl,rfl⟩
theorem at_mono {l:List Ev} (h:EvOk l) {i:Nat} (hi:i < l.length):∀ (j:Nat) (hj:j < l.length),i≤j→l[i].at_≤l[j].at_:=by
 intro j
 induction j with
 | zero =>
  intro hj hij
  obtain rfl:i=0:=by omega
  exact Int.le_refl _
 | succ k ih =>
  intro hj hij
  by_cases he:i=k+1
  · subst he;exact Int.le_refl _
  ·
   have h1:=ih (by omega) (by omega)
   have h2:=(ev_at h hj).2.2.2.2.2.2.2
   rw [lastAt_take (by omega)] at h2
   omega
theorem dec_mono {b:List UInt8} {l:List Ev} (h:DecR b 0 l) {i:Nat} (hi:i < l.length):l[i].at_≤(l[l.length - 1]'(by omega)).at_:=
 at_mono (dec_canon h).2.ok.1 hi _ (by omega) (by omega)
def ChkPost (img:List Int) (b:List UInt8) (cnt:Int) (w:World) (en:Ending) (w':World):Prop:=∃ c l vo,ChkR img b cnt c l∧en=.returned (.tuple #[vo,.int .i64 c])∧EvsR w'.heap.size w' vo l∧Below w.heap.size w w'
def ChkNew (img:List Int) (b:List UInt8) (cnt:Int) (w:World) (en:Ending) (w':World):Prop:=∃ c l vo,ChkR img b cnt c l∧en=.returned (.tuple #[vo,.int .i64 c])∧EvsN w.heap.size w' vo l∧Below w.heap.size w w'
theorem ChkNew.no {img:List Int} {b:List UInt8} {cnt:Int} {w w':World} {c:Int} (h:ChkR img b cnt c []) (hb:Below w.heap.size w w'):ChkNew img b cnt w (.returned (.tuple #[.slice none 0 0,.int .i64 c])) w':=⟨c,[],_,h,rfl,EvsN.nil _ _,hb⟩
theorem ChkNew.post {img:List Int} {b:List UInt8} {cnt:Int} {w w':World} {en:Ending} (h:ChkNew img b cnt w en w'):ChkPost img b cnt w en w':=by
 obtain⟨c,l,vo,h1,h2,h3,h4⟩:=h
 exact⟨c,l,vo,h1,h2,h3.1,h4⟩
theorem runcheck_new (vi ve:Value) (img:List Int) (b:List UInt8) (cnt:Int) (w:World) (ht:Tab w) (hi:Ints w.heap.size w vi img) (hb:BytesR w.heap.size w ve b) (hc:I64 cnt):Calls Tryz.prog 11 #[.agg #[vi,ve,.int .i64 cnt]] w (ChkNew img b cnt w):=by
 have HI:=Lib.hid hi
 have HB:=Lib.hid hb
 have HT:=Lib.hid ht
 obtain⟨ai,ci,rfl,_⟩:=id hi
 obtain⟨ae,ce,rfl,_⟩:=id hb
 clear hi hb ht
 have hnc:newC img=0∨newC img≠0:=by omega
 generalize hcc:newC img=nc at hnc
 go_enter Tryz.func11,Tryz.ntmps11
 go_wp2_with fail
 refine (cnew_all _ img _ (HI.out.to (by simp) (same_alloc _ _))).mono ?_
 rintro e w1 ⟨ar,cr,am,cm,ao,co,he,hown,hb1⟩
 rw [Mach.agg] at he
 rw [hcc] at he
 subst he
 have hx:=block_below hb1 (g:=w.heap.size) (alloc_at rfl) (by simp)
 have lt1:w.heap.size < w1.heap.size:=by have:=hb1.size;simp at this;omega
 have q0:w1.cell? ⟨w.heap.size,0,none⟩=some (.slice ai img.length ci):=cell_block hx 0
 have q1:w1.cell? ⟨w.heap.size,1,none⟩=some (.slice ae b.length ce):=cell_block hx 1
 have q2:w1.cell? ⟨w.heap.size,2,none⟩=some (.int .i64 cnt):=cell_block hx 2
 have HB1:=Lib.hid ((below_alloc w _).trans (hb1.mono (by simp)))
 have HBA:=Lib.hid (fun O=>(HB1.out).alloc (Nat.le_of_lt lt1) O)
 have HX:=Lib.hid hx
 have HNC:=Lib.hid hnc
 clear hx hb1 hown
 rcases HNC.out with h0 | h0
 ·
  subst h0
  by_cases hr:0≤cnt∧cnt≤3000
  ·
   have r1:decide (cnt < 0)=false:=decide_eq_false (by omega)
   have r2:decide (3000 < cnt)=false:=decide_eq_false (by omega)
   have HR:=Lib.hid hr
   clear hr
   go_wp2_with fail
   refine (evdecode_new _ b _ (HB.out.to (HBA.out _).size (same_below (HBA.out _))) (HT.out.to (HBA.out _))).mono ?_
   rintro e w2 ⟨d,l,vo,hdec,rfl,hev,hb2⟩
   have hx2:=block_below hb2 (g:=w.heap.size) ((alloc_lt lt1).trans HX.out) (by simp;omega)
   have lt2:w.heap.size < w2.heap.size:=by have:=hb2.size;simp at this;omega
   have p2:w2.cell? ⟨w.heap.size,2,none⟩=some (.int .i64 cnt):=cell_block hx2 2
   have HB2:=Lib.hid ((HBA.out _).trans (hb2.mono (by simp;omega)))
   have HEV:=Lib.hid (hev.le (HBA.out _).size)
   have HDE:=Lib.hid hdec
   clear hx2 hb2 q0 q1 q2
   by_cases hd:d=0
   ·
    subst hd
    have HMO:=Lib.hid (fun i hi=>dec_mono hdec (i:=i) hi)
    have HLEN:=Lib.hid (dec_canon hdec).2.ok.2
    clear hdec
    obtain⟨al,cl,rfl,hll,_,hcell⟩:=hev.1
    have HC:=Lib.hid hcell
    clear hcell
    by_cases hl:l=[]
    ·
     subst hl
     have HP:=Lib.hid (show ChkR img b cnt 0 [] from Or.inr (Or.inr ⟨hcc,HR.out.1,HR.out.2,0,_,HDE.out,Or.inr (Or.inr ⟨rfl,fun i hi=>absurd hi (Nat.not_lt_zero _),rfl,rfl⟩)⟩))
     go_wp2_with fail
     go_quiet (fail)
     go_wp2
     go_ret2
     exact⟨0,[],_,HP.out,rfl,HEV.out.below (below_drewN (Below.refl _ _) _),below_drewN HB2.out _⟩
    ·
     obtain⟨n,hn⟩:∃ n,l.length=n+1:=⟨l.length - 1,by have:=List.length_pos_iff.2 hl;omega⟩
     have hnl:n < l.length:=by omega
     obtain⟨bb,off,cs,ha,hbb,hcs,hcell,dd,cd,hcs2,i1,i2,hint⟩:=HC.out n hnl
     subst ha hcs2
     have k0:w2.cell? ⟨bb,off+n * 3,none⟩=some (.int .i64 l[n].at_):=hcell 0 (by simp)
     have HMX:Hid (∀ (i:Nat) (hi:i < l.length),l[i].at_≤l[n].at_):=Lib.hid (fun (i:Nat) (hi:i < l.length)=>by
      have h:=HMO.out i hi
      have e:l.length - 1=n:=by omega
      simp only [e] at h
      exact h)
     have hlc:(0:Int) < (l.length:Int):=by omega
     have hsub:(l.length:Int) - 1=(n:Int):=by omega
     have hwn:IntKind.i64.wrap (n:Int)=(n:Int):=IntWalk.i64_in _ (by have:=HLEN.out;omega)
     have hw41:IntKind.i64.wrap ((l.length:Int) - 1)=(n:Int):=by rw [hsub];exact hwn
     have hn0:(0:Int)≤(n:Int):=by omega
     have hgd:decide (0 < l.length)=true:=decide_eq_true (by omega)
     have hnl2:(n:Int) < (l.length:Int):=by omega
     have HN:=Lib.hid hn
     have HL:=Lib.hid hnl
     by_cases hge:cnt≤l[n].at_
     ·
      have HP:=Lib.hid (show ChkR img b cnt 9 [] from Or.inr (Or.inr ⟨hcc,HR.out.1,HR.out.2,0,_,HDE.out,Or.inr (Or.inl ⟨rfl,⟨n,hnl,hge⟩,rfl,rfl⟩)⟩))
      have hged:decide (cnt≤l[n].at_)=true:=decide_eq_true hge
      generalize l[n]=x at *
      clear hcell hcs hint hge hn hl
      go_wp2_with fail
      go_quiet (fail)
      go_wp2
      go_ret2
      exact ChkNew.no HP.out (below_drewN HB2.out _)
     ·
      have HP:=Lib.hid (show ChkR img b cnt 0 l from Or.inr (Or.inr ⟨hcc,HR.out.1,HR.out.2,0,_,HDE.out,Or.inr (Or.inr ⟨rfl,fun i hi=>by have:=HMX.out i hi;omega,rfl,rfl⟩)⟩))
      have hged:decide (cnt≤l[n].at_)=false:=decide_eq_false hge
      clear HMX HMO
      generalize l[n]=x at *
      clear hcell hcs hint hge hn hl
      go_wp2_with fail
      go_quiet (fail)
      go_wp2
      go_ret2
      exact⟨0,l,_,HP.out,rfl,HEV.out.below (below_drewN (Below.refl _ _) _),below_drewN HB2.out _⟩
   ·
    have hl0:=dec_err hdec hd
    subst hl0
    have HP:=Lib.hid (show ChkR img b cnt d [] from Or.inr (Or.inr ⟨hcc,HR.out.1,HR.out.2,d,_,HDE.out,Or.inl ⟨hd,rfl,rfl⟩⟩))
    have hd1:(d != 0)=true:=by rw [bne_iff_ne];exact hd
    clear hd hdec hev
    go_wp2
    go_ret2
    exact ChkNew.no HP.out HB2.out
  ·
   have HP:=Lib.hid (show ChkR img b cnt 2 [] from Or.inr (Or.inl ⟨hcc,by omega,rfl,rfl⟩))
   go_wp2
   all_goals (go_ret2;exact ChkNew.no HP.out (HBA.out _))
 ·
  have HP:=Lib.hid (show ChkR img b cnt nc [] from Or.inl ⟨by rw [hcc];exact h0,hcc.symm,rfl⟩)
  have hd1:(nc != 0)=true:=by rw [bne_iff_ne];exact h0
  clear h0
  go_wp2
  go_ret2
  exact ChkNew.no HP.out (HBA.out _)
theorem runcheck_any (vi ve:Value) (img:List Int) (b:List UInt8) (cnt:Int) (w:World) (ht:Tab w) (hi:Ints w.heap.size w vi img) (hb:BytesR w.heap.size w ve b) (hc:I64 cnt):Calls Tryz.prog 11 #[.agg #[vi,ve,.int .i64 cnt]] w (ChkPost img b cnt w):=(runcheck_new vi ve img b cnt w ht hi hb hc).mono fun _ _ h=>h.post
end Go.Proofs.YtkahciebbnhobaaGreatDoor
namespace Go.Proofs.YtkahciebbnhobaaGreatDoor
open Go Go.RowKit Go.ChangeShapes Go.WideShapes Go.Deep
set_option maxHeartbeats 8000000
set_option maxRecDepth 100000
set_option linter.unusedVariables false
attribute [local go_sem ↓] Go.wp_at_zero Go.wp_at_succ
theorem imgM_ok {zs:List Int} (h:newC zs=0):MOk (imageM zs)∧newM zs=imageM zs:=by
 by_cases h1:256 < zs.length
 · unfold newC at h;rw [if_pos h1] at h;cases h
 ·
  by_cases h2:zs.any oddB=true
  · unfold newC at h;rw [if_neg h1,if_pos h2] at h;cases h
  ·
   refine⟨⟨rfl,image_len _ (by omega),Nat.zero_le _,rfl,?_,rfl,?_,?_,?_,?_,?_,?_,?_⟩,by unfold newM;rw [if_neg h1,if_neg h2]⟩
   ·
    refine of_words (fun z hz=>?_)
    have hz':z∈zs ++ List.replicate (256 - zs.length) (0:Int):=hz
    rcases List.mem_append.1 hz' with hz | hz
    · exact words_of (by simpa using h2) z hz
    · rw [List.eq_of_mem_replicate hz];unfold WordZ;omega
   all_goals (show _∧_;simp [imageM])
def RepR (img:List Int) (b:List UInt8) (cnt n:Int) (m:Mach) (c:Int):Prop:=
 ∃ d l,ChkR img b cnt d l∧((d≠0∧c=d∧m=zeroM)∨(d=0∧(n < 0∨cnt < n)∧c=2∧m=zeroM)∨(d=0∧0≤n∧n≤cnt∧c=0∧m=runM l (imageM img) n.toNat))
theorem RepR.det {img:List Int} {b:List UInt8} {cnt n c d:Int} {m q:Mach} (h:RepR img b cnt n m c) (k:RepR img b cnt n q d):c=d∧m=q:=by
 obtain⟨e,l,h1,h⟩:=h
 obtain⟨f,l2,k1,k⟩:=k
 obtain⟨rfl,rfl⟩:=h1.det k1
 rcases h with ⟨h2,rfl,rfl⟩ | ⟨h2,h3,rfl,rfl⟩ | ⟨h2,h3,h4,rfl,rfl⟩ <;> rcases k with ⟨k2,rfl,rfl⟩ | ⟨k2,k3,rfl,rfl⟩ | ⟨k2,k3,k4,rfl,rfl⟩
 · exact⟨rfl,rfl⟩
 · exact absurd k2 h2
 · exact absurd k2 h2
 · exact absurd h2 k2
 · exact⟨rfl,rfl⟩
 · omega
 · exact absurd h2 k2
 · omega
 · exact⟨rfl,rfl⟩
def RepPost (img:List Int) (b:List UInt8) (cnt n:Int) (w:World) (e:Ending) (w':World):Prop:=∃ m c,RepR img b cnt n m c∧NewPost w m c e w'
theorem RepPost.no {img:List Int} {b:List UInt8} {cnt n c:Int} {w w':World} (h:RepR img b cnt n zeroM c) (hb:Below w.heap.size w w'):RepPost img b cnt n w (.returned (.tuple #[.agg #[.slice none 0 0,.int .i64 0,.int .i64 0,.bool false,.bool false,.int .i64 0,.int .i64 0,.int .i64 0,.slice none 0 0,.slice none 0 0,.int .i64 0,.int .i64 0],.int .i64 c])) w':=⟨zeroM,c,h,zero_post hb⟩
theorem chk_good {img:List Int} {b:List UInt8} {cnt:Int} {l:List Ev} (h:ChkR img b cnt 0 l):newC img=0∧0≤cnt∧cnt≤3000∧EvL l∧l.length≤1000∧∀ (i:Nat) (h:i < l.length),l[i].at_ < cnt:=by
 rcases h with ⟨h1,h2,_⟩ | ⟨_,_,h2,_⟩ | ⟨h1,h2,h3,d,m,hd,h⟩
 · exact absurd h2.symm h1
 · cases h2
 ·
  rcases h with ⟨h4,h5,_⟩ | ⟨_,_,h5,_⟩ | ⟨rfl,h5,_,rfl⟩
  · exact absurd h5.symm h4
  · cases h5
  ·
   have k:=(dec_canon hd).2.ok
   exact⟨h1,h2,h3,evl_of k.1,k.2,h5⟩
theorem mown_below {base:Nat} {w w':World} {m:Mach} {vr vm vo:Value} (h:MachOwn base w m vr vm vo) (hb:Below w.heap.size w w'):MachOwn base w' m vr vm vo:=
 ⟨own_below h.hr hb (Nat.le_refl _),own_below h.hm hb (Nat.le_refl _),own_below h.ho hb (Nat.le_refl _),h.rm,h.ro,h.mo,h.mr,h.or,h.om⟩
theorem replay_any (vi ve:Value) (img:List Int) (b:List UInt8) (cnt n:Int) (w:World) (ht:Tab w) (hi:Ints w.heap.size w vi img) (hb:BytesR w.heap.size w ve b) (hc:I64 cnt) (hn:I64 n):Calls Tryz.prog 17 #[.agg #[vi,ve,.int .i64 cnt],.int .i64 n] w (RepPost img b cnt n w):=by
 have HI:=Lib.hid hi
 have HB:=Lib.hid hb
 have HC:=Lib.hid hc
 have HT:=Lib.hid ht
 obtain⟨ai,ci,rfl,_⟩:=id hi
 obtain⟨ae,ce,rfl,_⟩:=id hb
 obtain⟨hn1,hn2⟩:=hn
 clear hi hb hc ht
 go_enter Tryz.func17,Tryz.ntmps17
 go_wp2_with fail
 have HBA:=Lib.hid (below_alloc2 w (.cells #[.slice ai img.length ci,.slice ae b.length ce,.int .i64 cnt] 32 (0,0)) (.cells #[.slice none 0 0,.int .i64 0,.int .i64 0,.bool false,.bool false,.int .i64 0,.int .i64 0,.int .i64 0,.slice none 0 0,.slice none 0 0,.int .i64 0,.int .i64 0] 34 (0,0)))
 refine (runcheck_any _ _ img b cnt _ (HT.out.to HBA.out) (HI.out.to HBA.out.size (same_below HBA.out)) (HB.out.to HBA.out.size (same_below HBA.out)) HC.out).mono ?_
 rintro e w1 ⟨d,l,vo,hchk,rfl,hev,hb1⟩
 have hxt:w1.heap[w.heap.size]? = some (.cells #[.slice ai img.length ci,.slice ae b.length ce,.int .i64 cnt] 32 (0,0)):=block_below hb1 ((alloc_lt (by simp)).trans (alloc_at rfl)) (by simp;omega)
 have hxr:w1.heap[w.heap.size+1]? = some (.cells #[.slice none 0 0,.int .i64 0,.int .i64 0,.bool false,.bool false,.int .i64 0,.int .i64 0,.int .i64 0,.slice none 0 0,.slice none 0 0,.int .i64 0,.int .i64 0] 34 (0,0)):=block_below hb1 (alloc_at (by simp)) (by simp)
 have lt1:w.heap.size+1 < w1.heap.size:=(Array.getElem?_eq_some_iff.1 hxr).1
 have HB1:=Lib.hid (HBA.out.trans (hb1.mono (by simp;omega)))
 have HCH:=Lib.hid hchk
 have HEV:=Lib.hid hev
 have HXR:=Lib.hid hxr
 have q0:w1.cell? ⟨w.heap.size,0,none⟩=some (.slice ai img.length ci):=cell_block hxt 0
 have q2:w1.cell? ⟨w.heap.size,2,none⟩=some (.int .i64 cnt):=cell_block hxt 2
 first | (obtain⟨r0,r1,r2,r3,r4,r5,r6,r7,r8,r9,r10,r11⟩:=cells12 hxr) | (obtain⟨r0,r1,r2,r3,r4,r5,r6,r7,r8,r9,r10,r11⟩:=cells13 hxr)
 have g0:=free_block hxr 0
 have g1:=free_block hxr 1
 have g2:=free_block hxr 2
 have g3:=free_block hxr 3
 have g4:=free_block hxr 4
 have g5:=free_block hxr 5
 have g6:=free_block hxr 6
 have g7:=free_block hxr 7
 have g8:=free_block hxr 8
 have g9:=free_block hxr 9
 have g10:=free_block hxr 10
 have g11:=free_block hxr 11
 clear hchk hev hb1 hxt hxr HBA
 by_cases hd:d=0
 ·
  subst hd
  have HGD:=Lib.hid (chk_good HCH.out)
  by_cases hno:n < 0∨cnt < n
  ·
   have HR:=Lib.hid (show RepR img b cnt n zeroM 2 from ⟨0,l,HCH.out,Or.inr (Or.inl ⟨rfl,hno,rfl,rfl⟩)⟩)
   rcases (show n < 0∨(¬ n < 0∧cnt < n) by omega) with h | ⟨h,h2⟩
   ·
    clear hno
    go_wp2_with fail
    refine bodyPost_ret (v:=.tuple #[.agg #[.slice none 0 0,.int .i64 0,.int .i64 0,.bool false,.bool false,.int .i64 0,.int .i64 0,.int .i64 0,.slice none 0 0,.slice none 0 0,.int .i64 0,.int .i64 0],.int .i64 2]) (by simp [results,Tryz.results17,go_sem,r0,r1,r2,r3,r4,r5,r6,r7,r8,r9,r10,r11]) rfl ?_
    refine RepPost.no HR.out ?_
    go_grown
    exact HB1.out
   ·
    clear hno
    go_wp2_with fail
    refine bodyPost_ret (v:=.tuple #[.agg #[.slice none 0 0,.int .i64 0,.int .i64 0,.bool false,.bool false,.int .i64 0,.int .i64 0,.int .i64 0,.slice none 0 0,.slice none 0 0,.int .i64 0,.int .i64 0],.int .i64 2]) (by simp [results,Tryz.results17,go_sem,r0,r1,r2,r3,r4,r5,r6,r7,r8,r9,r10,r11]) rfl ?_
    refine RepPost.no HR.out ?_
    go_grown
    exact HB1.out
  ·
   obtain⟨N,rfl⟩:∃ N:Nat,n=N:=⟨n.toNat,by omega⟩
   have hN:(N:Int)≤cnt:=by omega
   have h3000:N≤3000:=by have:=HGD.out.2.2.1;omega
   have hlo:¬ (N:Int) < 0:=by omega
   have hhi:¬ cnt < (N:Int):=by omega
   have HR:=Lib.hid (show RepR img b cnt N (runM l (imageM img) N) 0 from ⟨0,l,HCH.out,Or.inr (Or.inr ⟨rfl,by omega,hN,rfl,by rw [Int.toNat_natCast]⟩)⟩)
   have HIM:=Lib.hid (imgM_ok HGD.out.1)
   have HNW:=Lib.hid (cnew_all (.slice ai img.length ci) img w1 (HI.out.to HB1.out.size (same_below HB1.out)))
   rw [HIM.out.2,HGD.out.1] at HNW
   obtain⟨al,cl,hvo,_,_,_⟩:=id HEV.out
   subst hvo
   generalize hm0:imageM img=m0 at *
   have HC0:Hid (m0.count=0):=Lib.hid (by rw [← hm0];rfl)
   clear hno hN hm0 r0 r1 r2 r3 r4 r5 r6 r7 r8 r9 r10 r11 g0 g1 g2 g3 g4 g5 g6 g7 g8 g9 g10 g11
   go_wp2_with fail
   refine HNW.out.mono ?_
   rintro e w2 ⟨ar,cr,am,cm,ao,co,rfl,hown,hb2⟩
   rw [Mach.agg]
   have h8:=HIM.out.1.regs
   have h256:=HIM.out.1.mem
   have HB2:=Lib.hid hb2
   have lt2:w1.heap.size≤w2.heap.size:=hb2.size
   obtain⟨gr,mb,rfl,rfl,hgst⟩:=gst_start HIM.out.1 (mown_below hown (below_alloc w2 (.cells #[.slice ar m0.regs.length cr,.int .i64 m0.pc,.int .i64 m0.back,.bool m0.ints,.bool m0.wait,.int .i64 m0.table,.int .i64 m0.count,.int .i64 m0.fin,.slice am m0.mem.length cm,.slice ao m0.out.length co,.int .i64 m0.ready,.int .i64 m0.want] 34 (0,0)))) (hb2.trans ((below_alloc w2 _).mono lt2))
   rw [h8,h256]
   rw [h8,h256] at hgst
   obtain⟨W3,hW3⟩:∃ W3,W3=(w2.alloc (.cells #[.slice (some ⟨gr,0,none⟩) 8 cr,.int .i64 m0.pc,.int .i64 m0.back,.bool m0.ints,.bool m0.wait,.int .i64 m0.table,.int .i64 m0.count,.int .i64 m0.fin,.slice (some ⟨mb,0,none⟩) 256 cm,.slice ao m0.out.length co,.int .i64 m0.ready,.int .i64 m0.want] 34 (0,0))).alloc (.cells #[.slice (some ⟨gr,0,none⟩) 8 cr,.int .i64 m0.pc,.int .i64 m0.back,.bool m0.ints,.bool m0.wait,.int .i64 m0.table,.int .i64 m0.count,.int .i64 m0.fin,.slice (some ⟨mb,0,none⟩) 256 cm,.slice ao m0.out.length co,.int .i64 m0.ready,.int .i64 m0.want,.int .i64 0] 66 (0,0)):=⟨_,rfl⟩
   obtain⟨cb,hcb⟩:∃ cb,cb=w2.heap.size+1:=⟨_,rfl⟩
   have hsz:(w2.alloc (.cells #[.slice (some ⟨gr,0,none⟩) 8 cr,.int .i64 m0.pc,.int .i64 m0.back,.bool m0.ints,.bool m0.wait,.int .i64 m0.table,.int .i64 m0.count,.int .i64 m0.fin,.slice (some ⟨mb,0,none⟩) 256 cm,.slice ao m0.out.length co,.int .i64 m0.ready,.int .i64 m0.want] 34 (0,0))).heap.size=cb:=by rw [hcb];simp
   rw [← hW3,hsz] at hgst
   have HG:=Lib.hid hgst
   have hlW:W3.heap.size=cb+1:=by rw [hW3,hcb];simp
   have HRB3:=Lib.hid (hgst.old.at HXR.out (fun q=>q))
   clear hown hb2 h8 h256 HNW q0 q2
   go_upto_region 8 with fail
   rw [← hW3,← hcb]
   have HPS0:Hid (PSt pbRun (FlatSt mb cm) w1 (fun _=>False) W3.heap.size cb gr cr (.slice (some ⟨mb,0,none⟩) 256 cm) m0 0 false (.slice al l.length cl) ao co (fun g=>g=mb) (W3.alloc (.cells #[.slice al l.length cl] 90 (0,0)))):=Lib.hid ⟨HG.out.alloc (rflat_is mb cm) _,alloc_at rfl,fun e=>by have:=(HG.out.mem.2.2.2.lt mb rfl).2;omega,Or.inr HG.out.old.size⟩
   obtain⟨pb,hpb⟩:∃ pb,pb=cb+1:=⟨_,rfl⟩
   rw [hlW,← hpb] at HPS0
   clear hW3 hcb hsz hgst HG
   go_upto_region 9 with fail
   rw [← hpb]
   generalize World.alloc W3 _=W4 at *
   clear hpb hlW HRB3
   go_wp2_with fail
   go_loopg [43] N (fun gh s43 wr =>∃(i:Nat) (LL:List Ev) (al:Option Addr) (nl cl:Nat) (wro:Int),i≤N∧gh=N - i∧s43=.int .i64 i∧Hid (PS pbRun (FlatSt mb cm) w1 (fun _=>False) pb cb gr cr (.slice (some ⟨mb,0,none⟩) 256 cm) (runM l m0 i) wro false (.slice al nl cl) wr)∧Hid (EvsR w1.heap.size w1 (.slice al nl cl) LL)∧Hid (Stands l (runM l m0 i) i LL))
   case atStart=>exact⟨0,l,al,l.length,cl,0,Nat.zero_le _,by omega,rfl,Lib.hid HPS0.out.ps,HEV,Lib.hid (Stands.start HGD.out.2.2.2.1 HC0.out)⟩
   case round =>
    obtain⟨i,LL,al,nl,cl,wro,hi,rfl,rfl,HPS,HE,HST⟩:=hrel
    obtain⟨ao,co,F,hps⟩:=HPS.out
    have hok:=runM_ok HGD.out.2.2.2.1 HIM.out.1 HC0.out i (by omega)
    have HOK:=Lib.hid hok
    have c8:wr.cell? ⟨cb,8,none⟩=some (.slice (some ⟨mb,0,none⟩) 256 cm):=cell_block hps.g.box 8
    have lcb:=hps.g.clt
    by_cases hlt:i < N
    ·
     have hEL:EvL LL:=by
      obtain⟨pre,e,_⟩:=HST.out.pre
      have hl:=HGD.out.2.2.2.1
      rw [e] at hl
      exact hl.drop
     have HFW:=Lib.hid (forward_any (rflat_is mb cm) hps hok.1 (by have:=hok.2;omega) (Nat.le_refl _) (wE:=w1) (fun W ho=>(ho.same (Nat.le_refl _) (fun _ _ h=>h)).imp) LL hEL HE.out)
     have HSP:=Lib.hid (HST.out.step HGD.out.2.2.2.1)
     have hli:(i:Int) < (N:Int):=by omega
     clear hps hok HPS HPS0 hEL
     go_wp2_with fail
     refine HFW.out.mono ?_
     rintro e w5 ⟨m',wr',x',a5,n5,c5,rfl,hps5,hev5,hm5,-,-,hor⟩
     have hx5:x'=false:=by obtain⟨_,_,_,k⟩:=hps5;exact k.g.mem.1
     subst hx5
     obtain⟨-,rfl,rfl⟩:=hor.resolve_right (by decide)
     rw [HSP.out.1] at hps5
     have HP5:=Lib.hid hps5
     have HE5:=Lib.hid hev5
     clear hps5 hev5 hm5 HFW c8 lcb
     go_wp2_with fail
     go_roundg (N - (i+1))
     case measure=>omega
     case rel=>exact⟨i+1,_,a5,n5,c5,_,by omega,rfl,by go_num,HP5,HE5,Lib.hid HSP.out.2⟩
    ·
     obtain rfl:i=N:=by omega
     have HS:=Lib.hid hps
     have hxr:=hps.g.old.at HXR.out (fun q=>q)
     have HXR6:=Lib.hid hxr
     first | (obtain⟨r0,r1,r2,r3,r4,r5,r6,r7,r8,r9,r10,r11⟩:=cells12 hxr) | (obtain⟨r0,r1,r2,r3,r4,r5,r6,r7,r8,r9,r10,r11⟩:=cells13 hxr)
     have g0:=free_block hxr 0
     have g1:=free_block hxr 1
     have g2:=free_block hxr 2
     have g3:=free_block hxr 3
     have g4:=free_block hxr 4
     have g5:=free_block hxr 5
     have g6:=free_block hxr 6
     have g7:=free_block hxr 7
     have g8:=free_block hxr 8
     have g9:=free_block hxr 9
     have g10:=free_block hxr 10
     have g11:=free_block hxr 11
     first | (obtain⟨p0,p1,p2,p3,p4,p5,p6,p7,p8,p9,p10,p11⟩:=cells12 hps.g.box) | (obtain⟨p0,p1,p2,p3,p4,p5,p6,p7,p8,p9,p10,p11⟩:=cells13 hps.g.box)
     have lrb:w.heap.size+1 < wr.heap.size:=(Array.getElem?_eq_some_iff.1 hxr).1
     clear hps hok HPS HPS0 hxr c8
     generalize runM l m0 i=mz at *
     go_wp2_with fail
     refine bodyPost_ret (v:=.tuple #[.agg #[.slice (some ⟨gr,0,none⟩) 8 cr,.int .i64 mz.pc,.int .i64 mz.back,.bool mz.ints,.bool mz.wait,.int .i64 mz.table,.int .i64 mz.count,.int .i64 mz.fin,.slice (some ⟨mb,0,none⟩) 256 cm,.slice ao mz.out.length co,.int .i64 mz.ready,.int .i64 mz.want],.int .i64 0]) (by simp [results,Tryz.results17,go_sem,r0,r1,r2,r3,r4,r5,r6,r7,r8,r9,r10,r11]) rfl ?_
     clear p0 p1 p2 p3 p4 p5 p6 p7 p8 p9 p10 p11 r0 r1 r2 r3 r4 r5 r6 r7 r8 r9 r10 r11 g0 g1 g2 g3 g4 g5 g6 g7 g8 g9 g10 g11
     have h0:=HS.out.g.sinv (w:=w) (g:=w.heap.size+1) (fun k q=>q) HOK.out.1 HB1.out ⟨_,HXR6.out⟩
     have hw1:w.heap.size≤w.heap.size+1:=Nat.le_succ _
     have h12:=((((((((((((h0.step hw1 0 (.slice (some ⟨gr,0,none⟩) 8 cr)).step hw1 1 (.int .i64 mz.pc)).step hw1 2 (.int .i64 mz.back)).step hw1 3 (.bool mz.ints)).step hw1 4 (.bool mz.wait)).step hw1 5 (.int .i64 mz.table)).step hw1 6 (.int .i64 mz.count)).step hw1 7 (.int .i64 mz.fin)).step hw1 8 (.slice (some ⟨mb,0,none⟩) 256 cm)).step hw1 9 (.slice ao mz.out.length co)).step hw1 10 (.int .i64 mz.ready)).step hw1 11 (.int .i64 mz.want))
     exact⟨mz,0,HR.out,SInv.post' HOK.out.1.regs.symm HOK.out.1.mem.symm rfl h12⟩
 ·
  have HR:=Lib.hid (show RepR img b cnt n zeroM d from ⟨d,l,HCH.out,Or.inl ⟨hd,rfl,rfl⟩⟩)
  have hd1:(d != 0)=true:=by rw [bne_iff_ne];exact hd
  clear hd
  go_wp2_with fail
  refine bodyPost_ret (v:=.tuple #[.agg #[.slice none 0 0,.int .i64 0,.int .i64 0,.bool false,.bool false,.int .i64 0,.int .i64 0,.int .i64 0,.slice none 0 0,.slice none 0 0,.int .i64 0,.int .i64 0],.int .i64 d]) (by simp [results,Tryz.results17,go_sem,r0,r1,r2,r3,r4,r5,r6,r7,r8,r9,r10,r11]) rfl ?_
  refine RepPost.no HR.out ?_
  go_grown
  exact HB1.out
end Go.Proofs.YtkahciebbnhobaaGreatDoor
