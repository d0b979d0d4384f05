/- Several texts joined, each with its own heading in the notes: The keep's recorded. The keep's recorded guest in memory, and what its tape answers. The table that the program lays ahead of its start: what the rows' condition gives the walks. No condition beyond those of each row. -/
import Derived.Test.YtpdbcdfgonnnnaaDoorYPs
import Derived.Test.YtpdbcdfgonnnnaaDoorYWl
import Derived.Test.YtpdbcdfgonnnnaaDoorYQh
import Derived.Handy
import Derived.StillTailTactics
import Derived.Deep.RegionWith
import Derived.Deep.RegionLaw
import Derived.Deep.CutBlock
import Derived.Deep.CutRange
import Derived.Deep.RegionHeld3
import Derived.Deep.LoopGhost
import Derived.Test.YtpdbcdfgonnnnaaDoorYIn
import Derived.Test.YtpdbcdfgonnnnaaDoorYNg
import Derived.Test.YtpdbcdfgonnnnaaDoorYCm
import Derived.Test.YtpdbcdfgonnnnaaDoorRows
import Derived.Test.YtpdbcdfgonnnnaaDoorYEv
import Derived.FnData
import Derived.LaidLaws
import Derived.ProofKit
import Derived.LaidMore
import Derived.OpenShut
import Derived.Stop.Joined
namespace Go.Proofs.YtpdbcdfgonnnnaaDoor
open Go Go.RowKit Go.ChangeShapes Go.WideShapes Go.Deep
set_option maxHeartbeats 8000000
set_option maxRecDepth 100000
set_option linter.unusedVariables false
attribute [local go_sem ↓] Go.wp_at_zero Go.wp_at_succ
theorem Same.imp {E : Nat} {w w' : World} (h : Same E w w') : Imp E w w' := fun b o x hb hx => by rw [h b o hb]; exact hx
@[reducible] def pbRun : PBox := ⟨fun v => #[v], 65, 0, fun _ => rfl, fun _ _ => rfl, by decide, by decide⟩
theorem runcheck_any (vi ve : Value) (img : List Int) (b : List UInt8) (cnt : Int) (w : World) (ht : Tab w) (hi : Ints w.heap.size w vi img) (hb : BytesR w.heap.size w ve b) (hc : I64 cnt) : Calls Tryd.prog 45 #[.agg #[vi, ve, .int .i64 cnt]] w (ChkPost img b cnt w) := (runcheck_new vi ve img b cnt w ht hi hb hc).mono fun _ _ h => h.post
def RepR (img : List Int) (b : List UInt8) (cnt n : Int) (m : Mach) (c : Int) : Prop :=
 ∃ d l, ChkR img b cnt d l ∧ ((d ≠ 0 ∧ c = d ∧ m = zeroM) ∨ (d = 0 ∧ (n < 0 ∨ cnt < n) ∧ c = 2 ∧ m = zeroM) ∨ (d = 0 ∧ 0 ≤ n ∧ n ≤ cnt ∧ c = 0 ∧ m = runM l (imageM img) n.toNat))
theorem RepR.det {img : List Int} {b : List UInt8} {cnt n c d : Int} {m q : Mach} (h : RepR img b cnt n m c) (k : RepR img b cnt n q d) : c = d ∧ m = q := by
 obtain ⟨e, l, h1, h⟩ := h
 obtain ⟨f, l2, k1, k⟩ := k
 obtain ⟨rfl, rfl⟩ := h1.det k1
 rcases h with ⟨h2, rfl, rfl⟩ | ⟨h2, h3, rfl, rfl⟩ | ⟨h2, h3, h4, rfl, rfl⟩ <;> rcases k with ⟨k2, rfl, rfl⟩ | ⟨k2, k3, rfl, rfl⟩ | ⟨k2, k3, k4, rfl, rfl⟩
 · exact ⟨rfl, rfl⟩
 · exact absurd k2 h2
 · exact absurd k2 h2
 · exact absurd h2 k2
 · exact ⟨rfl, rfl⟩
 · omega
 · exact absurd h2 k2
 · omega
 · exact ⟨rfl, rfl⟩
def RepPost (img : List Int) (b : List UInt8) (cnt n : Int) (w : World) (e : Ending) (w' : World) : Prop := ∃ m c, RepR img b cnt n m c ∧ NewPost w m c e w'
theorem RepPost.no {img : List Int} {b : List UInt8} {cnt n c : Int} {w w' : World} (h : RepR img b cnt n zeroM c) (hb : Below w.heap.size w w') : RepPost img b cnt n w (.returned (.tuple #[.agg #[.slice none 0 0, .int .i64 0, .int .i64 0, .bool false, .bool false, .int .i64 0, .int .i64 0, .int .i64 0, .slice none 0 0, .slice none 0 0, .int .i64 0, .int .i64 0], .int .i64 c])) w' := ⟨zeroM, c, h, zero_post hb⟩
theorem replay_any (vi ve : Value) (img : List Int) (b : List UInt8) (cnt n : Int) (w : World) (ht : Tab w) (hi : Ints w.heap.size w vi img) (hb : BytesR w.heap.size w ve b) (hc : I64 cnt) (hn : I64 n) : Calls Tryd.prog 21 #[.agg #[vi, ve, .int .i64 cnt], .int .i64 n] w (RepPost img b cnt n w) := by
 have HI := Lib.hid hi
 have HB := Lib.hid hb
 have HC := Lib.hid hc
 have HT := Lib.hid ht
 obtain ⟨ai, ci, rfl, _⟩ := id hi
 obtain ⟨ae, ce, rfl, _⟩ := id hb
 obtain ⟨hn1, hn2⟩ := hn
 clear hi hb hc ht
 go_enter Tryd.func21, Tryd.ntmps21
 go_wp2_with fail
 have HBA := Lib.hid (below_alloc2 w (.cells #[.slice ai img.length ci, .slice ae b.length ce, .int .i64 cnt] 27 (0, 0)) (.cells #[.slice none 0 0, .int .i64 0, .int .i64 0, .bool false, .bool false, .int .i64 0, .int .i64 0, .int .i64 0, .slice none 0 0, .slice none 0 0, .int .i64 0, .int .i64 0] 29 (0, 0)))
 refine (runcheck_any _ _ img b cnt _ (HT.out.to HBA.out) (HI.out.to HBA.out.size (same_below HBA.out)) (HB.out.to HBA.out.size (same_below HBA.out)) HC.out).mono ?_
 rintro e w1 ⟨d, l, vo, hchk, rfl, hev, hb1⟩
 have hxt : w1.heap[w.heap.size]? = some (.cells #[.slice ai img.length ci, .slice ae b.length ce, .int .i64 cnt] 27 (0, 0)) := block_below hb1 ((alloc_lt (by simp)).trans (alloc_at rfl)) (by simp; omega)
 have hxr : w1.heap[w.heap.size + 1]? = some (.cells #[.slice none 0 0, .int .i64 0, .int .i64 0, .bool false, .bool false, .int .i64 0, .int .i64 0, .int .i64 0, .slice none 0 0, .slice none 0 0, .int .i64 0, .int .i64 0] 29 (0, 0)) := block_below hb1 (alloc_at (by simp)) (by simp)
 have lt1 : w.heap.size + 1 < w1.heap.size := (Array.getElem?_eq_some_iff.1 hxr).1
 have HB1 := Lib.hid (HBA.out.trans (hb1.mono (by simp; omega)))
 have HCH := Lib.hid hchk
 have HEV := Lib.hid hev
 have HXR := Lib.hid hxr
 have q0 : w1.cell? ⟨w.heap.size, 0, none⟩ = some (.slice ai img.length ci) := cell_block hxt 0
 have q2 : w1.cell? ⟨w.heap.size, 2, none⟩ = some (.int .i64 cnt) := cell_block hxt 2
 first | (obtain ⟨r0, r1, r2, r3, r4, r5, r6, r7, r8, r9, r10, r11⟩ := cells12 hxr) | (obtain ⟨r0, r1, r2, r3, r4, r5, r6, r7, r8, r9, r10, r11⟩ := cells13 hxr)
 have g0 := free_block hxr 0
 have g1 := free_block hxr 1
 have g2 := free_block hxr 2
 have g3 := free_block hxr 3
 have g4 := free_block hxr 4
 have g5 := free_block hxr 5
 have g6 := free_block hxr 6
 have g7 := free_block hxr 7
 have g8 := free_block hxr 8
 have g9 := free_block hxr 9
 have g10 := free_block hxr 10
 have g11 := free_block hxr 11
 clear hchk hev hb1 hxt hxr HBA
 by_cases hd : d = 0
 ·
  subst hd
  have HGD := Lib.hid (chk_good HCH.out)
  by_cases hno : n < 0 ∨ cnt < n
  ·
   have HR := Lib.hid (show RepR img b cnt n zeroM 2 from ⟨0, l, HCH.out, Or.inr (Or.inl ⟨rfl, hno, rfl, rfl⟩)⟩)
   rcases (show n < 0 ∨ (¬ n < 0 ∧ cnt < n) by omega) with h | ⟨h, h2⟩
   ·
    clear hno
    go_wp2_with fail
    refine bodyPost_ret (v := .tuple #[.agg #[.slice none 0 0, .int .i64 0, .int .i64 0, .bool false, .bool false, .int .i64 0, .int .i64 0, .int .i64 0, .slice none 0 0, .slice none 0 0, .int .i64 0, .int .i64 0], .int .i64 2]) (by simp [results, Tryd.results21, go_sem, r0, r1, r2, r3, r4, r5, r6, r7, r8, r9, r10, r11]) rfl ?_
    refine RepPost.no HR.out ?_
    go_grown
    exact HB1.out
   ·
    clear hno
    go_wp2_with fail
    refine bodyPost_ret (v := .tuple #[.agg #[.slice none 0 0, .int .i64 0, .int .i64 0, .bool false, .bool false, .int .i64 0, .int .i64 0, .int .i64 0, .slice none 0 0, .slice none 0 0, .int .i64 0, .int .i64 0], .int .i64 2]) (by simp [results, Tryd.results21, go_sem, r0, r1, r2, r3, r4, r5, r6, r7, r8, r9, r10, r11]) rfl ?_
    refine RepPost.no HR.out ?_
    go_grown
    exact HB1.out
  ·
   obtain ⟨N, rfl⟩ : ∃ N : Nat, n = N := ⟨n.toNat, by omega⟩
   have hN : (N : Int) ≤ cnt := by omega
   have h3000 : N ≤ 3000 := by have := HGD.out.2.2.1; omega
   have hlo : ¬ (N : Int) < 0 := by omega
   have hhi : ¬ cnt < (N : Int) := by omega
   have HR := Lib.hid (show RepR img b cnt N (runM l (imageM img) N) 0 from ⟨0, l, HCH.out, Or.inr (Or.inr ⟨rfl, by omega, hN, rfl, by rw [Int.toNat_natCast]⟩)⟩)
   have HIM := Lib.hid (imgM_ok HGD.out.1)
   have HNW := Lib.hid (cnew_all (.slice ai img.length ci) img w1 (HI.out.to HB1.out.size (same_below HB1.out)))
   rw [HIM.out.2, HGD.out.1] at HNW
   obtain ⟨al, cl, hvo, _, _, _⟩ := id HEV.out
   subst hvo
   generalize hm0 : imageM img = m0 at *
   have HC0 : Hid (m0.count = 0) := Lib.hid (by rw [← hm0]; rfl)
   clear hno hN hm0 r0 r1 r2 r3 r4 r5 r6 r7 r8 r9 r10 r11 g0 g1 g2 g3 g4 g5 g6 g7 g8 g9 g10 g11
   go_wp2_with fail
   refine HNW.out.mono ?_
   rintro e w2 ⟨ar, cr, am, cm, ao, co, rfl, hown, hb2⟩
   rw [Mach.agg]
   have h8 := HIM.out.1.regs
   have h256 := HIM.out.1.mem
   have HB2 := Lib.hid hb2
   have lt2 : w1.heap.size ≤ w2.heap.size := hb2.size
   obtain ⟨gr, mb, rfl, rfl, hgst⟩ := gst_start HIM.out.1 (mown_below hown (below_alloc w2 (.cells #[.slice ar m0.regs.length cr, .int .i64 m0.pc, .int .i64 m0.back, .bool m0.ints, .bool m0.wait, .int .i64 m0.table, .int .i64 m0.count, .int .i64 m0.fin, .slice am m0.mem.length cm, .slice ao m0.out.length co, .int .i64 m0.ready, .int .i64 m0.want] 29 (0, 0)))) (hb2.trans ((below_alloc w2 _).mono lt2))
   rw [h8, h256]
   rw [h8, h256] at hgst
   obtain ⟨W3, hW3⟩ : ∃ W3, W3 = (w2.alloc (.cells #[.slice (some ⟨gr, 0, none⟩) 8 cr, .int .i64 m0.pc, .int .i64 m0.back, .bool m0.ints, .bool m0.wait, .int .i64 m0.table, .int .i64 m0.count, .int .i64 m0.fin, .slice (some ⟨mb, 0, none⟩) 256 cm, .slice ao m0.out.length co, .int .i64 m0.ready, .int .i64 m0.want] 29 (0, 0))).alloc (.cells #[.slice (some ⟨gr, 0, none⟩) 8 cr, .int .i64 m0.pc, .int .i64 m0.back, .bool m0.ints, .bool m0.wait, .int .i64 m0.table, .int .i64 m0.count, .int .i64 m0.fin, .slice (some ⟨mb, 0, none⟩) 256 cm, .slice ao m0.out.length co, .int .i64 m0.ready, .int .i64 m0.want, .int .i64 0] 76 (0, 0)) := ⟨_, rfl⟩
   obtain ⟨cb, hcb⟩ : ∃ cb, cb = w2.heap.size + 1 := ⟨_, rfl⟩
   have hsz : (w2.alloc (.cells #[.slice (some ⟨gr, 0, none⟩) 8 cr, .int .i64 m0.pc, .int .i64 m0.back, .bool m0.ints, .bool m0.wait, .int .i64 m0.table, .int .i64 m0.count, .int .i64 m0.fin, .slice (some ⟨mb, 0, none⟩) 256 cm, .slice ao m0.out.length co, .int .i64 m0.ready, .int .i64 m0.want] 29 (0, 0))).heap.size = cb := by rw [hcb]; simp
   rw [← hW3, hsz] at hgst
   have HG := Lib.hid hgst
   have hlW : W3.heap.size = cb + 1 := by rw [hW3, hcb]; simp
   have HRB3 := Lib.hid (hgst.old.at HXR.out (fun q => q))
   clear hown hb2 h8 h256 HNW q0 q2
   go_upto_region 8 with fail
   rw [← hW3, ← hcb]
   have HPS0 : Hid (PSt pbRun (FlatSt mb cm) w1 (fun _ => False) W3.heap.size cb gr cr (.slice (some ⟨mb, 0, none⟩) 256 cm) m0 0 false (.slice al l.length cl) ao co (fun g => g = mb) (W3.alloc (.cells #[.slice al l.length cl] 65 (0, 0)))) := Lib.hid ⟨HG.out.alloc (rflat_is mb cm) _, alloc_at rfl, fun e => by have := (HG.out.mem.2.2.2.lt mb rfl).2; omega, Or.inr HG.out.old.size⟩
   obtain ⟨pb, hpb⟩ : ∃ pb, pb = cb + 1 := ⟨_, rfl⟩
   rw [hlW, ← hpb] at HPS0
   clear hW3 hcb hsz hgst HG
   go_upto_region 9 with fail
   rw [← hpb]
   generalize World.alloc W3 _ = W4 at *
   clear hpb hlW HRB3
   go_wp2_with fail
   go_loopg [43] N (fun gh s43 wr => ∃ (i : Nat) (LL : List Ev) (al : Option Addr) (nl cl : Nat) (wro : Int), i ≤ N ∧ gh = N - i ∧ s43 = .int .i64 i ∧ Hid (PS pbRun (FlatSt mb cm) w1 (fun _ => False) pb cb gr cr (.slice (some ⟨mb, 0, none⟩) 256 cm) (runM l m0 i) wro false (.slice al nl cl) wr) ∧ Hid (EvsR w1.heap.size w1 (.slice al nl cl) LL) ∧ Hid (Stands l (runM l m0 i) i LL))
   case atStart => exact ⟨0, l, al, l.length, cl, 0, Nat.zero_le _, by omega, rfl, Lib.hid HPS0.out.ps, HEV, Lib.hid (Stands.start HGD.out.2.2.2.1 HC0.out)⟩
   case round =>
    obtain ⟨i, LL, al, nl, cl, wro, hi, rfl, rfl, HPS, HE, HST⟩ := hrel
    obtain ⟨ao, co, F, hps⟩ := HPS.out
    have hok := runM_ok HGD.out.2.2.2.1 HIM.out.1 HC0.out i (by omega)
    have HOK := Lib.hid hok
    have c8 : wr.cell? ⟨cb, 8, none⟩ = some (.slice (some ⟨mb, 0, none⟩) 256 cm) := cell_block hps.g.box 8
    have lcb := hps.g.clt
    by_cases hlt : i < N
    ·
     have hEL : EvL LL := by
      obtain ⟨pre, e, _⟩ := HST.out.pre
      have hl := HGD.out.2.2.2.1
      rw [e] at hl
      exact hl.drop
     have HFW := Lib.hid (forward_any (rflat_is mb cm) hps hok.1 (by have := hok.2; omega) (Nat.le_refl _) (wE := w1) (fun W ho => (ho.same (Nat.le_refl _) (fun _ _ h => h)).imp) LL hEL HE.out)
     have HSP := Lib.hid (HST.out.step HGD.out.2.2.2.1)
     have hli : (i : Int) < (N : Int) := by omega
     clear hps hok HPS HPS0 hEL
     go_wp2_with fail
     refine HFW.out.mono ?_
     rintro e w5 ⟨m', wr', x', a5, n5, c5, rfl, hps5, hev5, hm5, -, -, hor⟩
     have hx5 : x' = false := by obtain ⟨_, _, _, k⟩ := hps5; exact k.g.mem.1
     subst hx5
     obtain ⟨-, rfl, rfl⟩ := hor.resolve_right (by decide)
     rw [HSP.out.1] at hps5
     have HP5 := Lib.hid hps5
     have HE5 := Lib.hid hev5
     clear hps5 hev5 hm5 HFW c8 lcb
     go_wp2_with fail
     go_roundg (N - (i + 1))
     case measure => omega
     case rel => exact ⟨i + 1, _, a5, n5, c5, _, by omega, rfl, by go_num, HP5, HE5, Lib.hid HSP.out.2⟩
    ·
     obtain rfl : i = N := by omega
     have HS := Lib.hid hps
     have hxr := hps.g.old.at HXR.out (fun q => q)
     have HXR6 := Lib.hid hxr
     first | (obtain ⟨r0, r1, r2, r3, r4, r5, r6, r7, r8, r9, r10, r11⟩ := cells12 hxr) | (obtain ⟨r0, r1, r2, r3, r4, r5, r6, r7, r8, r9, r10, r11⟩ := cells13 hxr)
     have g0 := free_block hxr 0
     have g1 := free_block hxr 1
     have g2 := free_block hxr 2
     have g3 := free_block hxr 3
     have g4 := free_block hxr 4
     have g5 := free_block hxr 5
     have g6 := free_block hxr 6
     have g7 := free_block hxr 7
     have g8 := free_block hxr 8
     have g9 := free_block hxr 9
     have g10 := free_block hxr 10
     have g11 := free_block hxr 11
     first | (obtain ⟨p0, p1, p2, p3, p4, p5, p6, p7, p8, p9, p10, p11⟩ := cells12 hps.g.box) | (obtain ⟨p0, p1, p2, p3, p4, p5, p6, p7, p8, p9, p10, p11⟩ := cells13 hps.g.box)
     have lrb : w.heap.size + 1 < wr.heap.size := (Array.getElem?_eq_some_iff.1 hxr).1
     clear hps hok HPS HPS0 hxr c8
     generalize runM l m0 i = mz at *
     go_wp2_with fail
     refine bodyPost_ret (v := .tuple #[.agg #[.slice (some ⟨gr, 0, none⟩) 8 cr, .int .i64 mz.pc, .int .i64 mz.back, .bool mz.ints, .bool mz.wait, .int .i64 mz.table, .int .i64 mz.count, .int .i64 mz.fin, .slice (some ⟨mb, 0, none⟩) 256 cm, .slice ao mz.out.length co, .int .i64 mz.ready, .int .i64 mz.want], .int .i64 0]) (by simp [results, Tryd.results21, go_sem, r0, r1, r2, r3, r4, r5, r6, r7, r8, r9, r10, r11]) rfl ?_
     clear p0 p1 p2 p3 p4 p5 p6 p7 p8 p9 p10 p11 r0 r1 r2 r3 r4 r5 r6 r7 r8 r9 r10 r11 g0 g1 g2 g3 g4 g5 g6 g7 g8 g9 g10 g11
     have h0 := HS.out.g.sinv (w := w) (g := w.heap.size + 1) (fun k q => q) HOK.out.1 HB1.out ⟨_, HXR6.out⟩
     have hw1 : w.heap.size ≤ w.heap.size + 1 := Nat.le_succ _
     have h12 := ((((((((((((h0.step hw1 0 (.slice (some ⟨gr, 0, none⟩) 8 cr)).step hw1 1 (.int .i64 mz.pc)).step hw1 2 (.int .i64 mz.back)).step hw1 3 (.bool mz.ints)).step hw1 4 (.bool mz.wait)).step hw1 5 (.int .i64 mz.table)).step hw1 6 (.int .i64 mz.count)).step hw1 7 (.int .i64 mz.fin)).step hw1 8 (.slice (some ⟨mb, 0, none⟩) 256 cm)).step hw1 9 (.slice ao mz.out.length co)).step hw1 10 (.int .i64 mz.ready)).step hw1 11 (.int .i64 mz.want))
     exact ⟨mz, 0, HR.out, SInv.post' HOK.out.1.regs.symm HOK.out.1.mem.symm rfl h12⟩
 ·
  have HR := Lib.hid (show RepR img b cnt n zeroM d from ⟨d, l, HCH.out, Or.inl ⟨hd, rfl, rfl⟩⟩)
  have hd1 : (d != 0) = true := by rw [bne_iff_ne]; exact hd
  clear hd
  go_wp2_with fail
  refine bodyPost_ret (v := .tuple #[.agg #[.slice none 0 0, .int .i64 0, .int .i64 0, .bool false, .bool false, .int .i64 0, .int .i64 0, .int .i64 0, .slice none 0 0, .slice none 0 0, .int .i64 0, .int .i64 0], .int .i64 d]) (by simp [results, Tryd.results21, go_sem, r0, r1, r2, r3, r4, r5, r6, r7, r8, r9, r10, r11]) rfl ?_
  refine RepPost.no HR.out ?_
  go_grown
  exact HB1.out
def setCells (w : World) (g : Nat) : Nat → List Value → World
 | _, [] => w
 | i, v :: vs => setCells (w.setCell ⟨g, i, none⟩ v) g (i + 1) vs
theorem setCells_ne {g k : Nat} {o : Obj} (hne : k ≠ g) : ∀ (vs : List Value) (i : Nat) (w : World), w.heap[k]? = some o → (setCells w g i vs).heap[k]? = some o
 | [], _, _, h => h
 | v :: vs, i, w, h => setCells_ne hne vs (i + 1) _ (set_block_ne h hne v)
theorem setCells_own {base : Nat} {e : TypeId} {size : Nat} {v : Value} {n g : Nat} {xs : List Value} (hne : some g ≠ v.ownBlock) : ∀ (vs : List Value) (i : Nat) (w : World), w.ownsRow base e size v n xs → (setCells w g i vs).ownsRow base e size v n xs
 | [], _, _, h => h
 | u :: vs, i, w, h => setCells_own hne vs (i + 1) _ (own_set h hne u)
theorem setCells_below {B g : Nat} {a : World} (hB : B ≤ g) : ∀ (vs : List Value) (i : Nat) (w : World), Below B a w → Below B a (setCells w g i vs)
 | [], _, _, h => h
 | u :: vs, i, w, h => setCells_below hB vs (i + 1) _ (h.setCell hB u)
theorem setCells_at {g : Nat} {t : TypeId} {fr : Nat × Nat} : ∀ (vs done rest : List Value) (w : World), rest.length = vs.length → w.heap[g]? = some (.cells (done ++ rest).toArray t fr) → (setCells w g done.length vs).heap[g]? = some (.cells (done ++ vs).toArray t fr)
 | [], done, rest, w, hl, h => by
  rw [List.length_eq_zero_iff.1 hl] at h
  exact h
 | v :: vs, done, rest, w, hl, h => by
  cases rest with
  | nil => cases hl
  | cons r rest =>
   have h1 := set_block (i := done.length) h v
   have e : ((done ++ r :: rest).toArray.setIfInBounds done.length v) = ((done ++ [v]) ++ rest).toArray := by
    rw [List.setIfInBounds_toArray, List.set_append_right _ _ (Nat.le_refl _), Nat.sub_self]
    simp
   rw [e] at h1
   have h2 := setCells_at vs (done ++ [v]) rest (w.setCell ⟨g, done.length, none⟩ v) (by simpa using hl) h1
   rw [List.length_append] at h2
   rw [show done ++ v :: vs = (done ++ [v]) ++ vs by simp]
   exact h2
theorem setCells_all {g : Nat} {t : TypeId} {fr : Nat × Nat} {vs old : List Value} {w : World} (hl : old.length = vs.length) (h : w.heap[g]? = some (.cells old.toArray t fr)) : (setCells w g 0 vs).heap[g]? = some (.cells vs.toArray t fr) :=
 setCells_at vs [] old w hl h
def KRecPost (n : Int) (w : World) (e : Ending) (w' : World) : Prop := ∃ (img is vs : List Int) (bs : List (List Int)) (ds : List Int) (l : List UInt8) (N : Nat) (m : Mach) (ai ab ar am ao : Option Addr) (ci cb cr cm co : Nat), e = .returned (.tuple #[.agg #[.slice ai img.length ci, .slice ab l.length cb, .int .i64 N], .agg #[.slice ar m.regs.length cr, .int .i64 m.pc, .int .i64 m.back, .bool m.ints, .bool m.wait, .int .i64 m.table, .int .i64 m.count, .int .i64 m.fin, .slice am m.mem.length cm, .slice ao m.out.length co, .int .i64 m.ready, .int .i64 m.want], .bool true]) ∧ KRec img is vs bs ds n l N m ∧ newC img = 0 ∧ img.length ≤ 64 ∧ w'.ownsRow w.heap.size 3 1 (.slice ai img.length ci) img.length (img.map (Value.int .i64)) ∧ w'.ownsRow w.heap.size 5 1 (.slice ab l.length cb) l.length (bv l) ∧ MachOwn w.heap.size w' m (.slice ar m.regs.length cr) (.slice am m.mem.length cm) (.slice ao m.out.length co) ∧ Below w.heap.size w w'
theorem newC_words {img : List Int} (hl : img.length ≤ 256) (h : ∀ z ∈ img, WordZ z) : newC img = 0 := by
 unfold newC
 rw [if_neg (by omega), if_neg]
 intro k
 obtain ⟨z, hz, h1⟩ := List.any_eq_true.1 k
 have := h z hz
 unfold WordZ at this
 unfold oddB at h1
 simp at h1
 omega
end Go.Proofs.YtpdbcdfgonnnnaaDoor
namespace Go.Proofs.YtpdbcdfgonnnnaaDoor
open Go Go.RowKit Go.ChangeShapes Go.WideShapes Go.Deep
set_option maxRecDepth 100000
set_option linter.unusedVariables false
structure KT (w : World) (n : Int) (vi vb vg : Value) (img is vs : List Int) (bs : List (List Int)) (ds : List Int) (l : List UInt8) (N : Nat) (m : Mach) : Prop where
 rc : KRec img is vs bs ds n l N m
 nc : newC img = 0
 il : img.length ≤ 64
 i : Ints w.heap.size w vi img
 b : BytesR w.heap.size w vb l
 g : MachR w.heap.size w vg m
theorem KT.to {w w' : World} {n : Int} {vi vb vg : Value} {img is vs : List Int} {bs : List (List Int)} {ds : List Int} {l : List UInt8} {N : Nat} {m : Mach} (h : KT w n vi vb vg img is vs bs ds l N m) (hb : Below w.heap.size w w') : KT w' n vi vb vg img is vs bs ds l N m :=
 ⟨h.rc, h.nc, h.il, h.i.to hb.size (same_below hb), h.b.to hb.size (same_below hb), h.g.to hb.size (same_below hb)⟩
def KPost (last : Value) (n : Int) (w : World) (e : Ending) (w' : World) : Prop := ∃ (img is vs : List Int) (bs : List (List Int)) (ds : List Int) (l : List UInt8) (N : Nat) (m : Mach) (ai ab ar am ao : Option Addr) (ci cb cr cm co : Nat), e = .returned (.tuple #[.agg #[.slice ai img.length ci, .slice ab l.length cb, .int .i64 N], .agg #[.slice ar m.regs.length cr, .int .i64 m.pc, .int .i64 m.back, .bool m.ints, .bool m.wait, .int .i64 m.table, .int .i64 m.count, .int .i64 m.fin, .slice am m.mem.length cm, .slice ao m.out.length co, .int .i64 m.ready, .int .i64 m.want], last]) ∧ KT w' n (.slice ai img.length ci) (.slice ab l.length cb) (.agg #[.slice ar m.regs.length cr, .int .i64 m.pc, .int .i64 m.back, .bool m.ints, .bool m.wait, .int .i64 m.table, .int .i64 m.count, .int .i64 m.fin, .slice am m.mem.length cm, .slice ao m.out.length co, .int .i64 m.ready, .int .i64 m.want]) img is vs bs ds l N m ∧ Below w.heap.size w w'
theorem newC_i64 {img : List Int} (h : newC img = 0) : ∀ z ∈ img, I64 z := by
 by_cases h1 : 256 < img.length
 · unfold newC at h; rw [if_pos h1] at h; cases h
 ·
  by_cases h2 : img.any oddB = true
  · unfold newC at h; rw [if_neg h1, if_pos h2] at h; cases h
  · exact fun z hz => (words_of (by simpa using h2) z hz).i64
section
variable {img is vs : List Int} {bs : List (List Int)} {ds : List Int} {n : Int} {l : List UInt8} {N : Nat} {m : Mach}
theorem KRec.ok (h : KRec img is vs bs ds n l N m) {k : Nat} (hk : k ≤ N) : MOk (recI is vs bs ds (recS0 img) k).m := (h.tape.at k hk).ok.ok
theorem KRec.mok (h : KRec img is vs bs ds n l N m) : MOk m := by rw [h.mach]; exact h.ok (Nat.le_refl _)
theorem KRec.chk (h : KRec img is vs bs ds n l N m) (hn : newC img = 0) : ChkR img l N 0 (recI is vs bs ds (recS0 img) N).all :=
 Or.inr (Or.inr ⟨hn, by omega, by have := h.tape.le; omega, 0, _, h.dec, Or.inr (Or.inr ⟨rfl, fun i hi => (h.tape.at N (Nat.le_refl _)).lt _ (List.getElem_mem hi), rfl, rfl⟩)⟩)
theorem KRec.run (h : KRec img is vs bs ds n l N m) {k : Nat} (hk : k ≤ N) : runM (recI is vs bs ds (recS0 img) N).all (imageM img) k = (recI is vs bs ds (recS0 img) k).m := h.tape.run k hk
theorem KRec.rep (h : KRec img is vs bs ds n l N m) (hn : newC img = 0) {k : Nat} (hk : k ≤ N) : RepR img l N k (recI is vs bs ds (recS0 img) k).m 0 :=
 ⟨0, _, h.chk hn, Or.inr (Or.inr ⟨rfl, by omega, by omega, rfl, by rw [← h.run hk]; rfl⟩)⟩
end
theorem mach_r {w : World} {base : Nat} {m : Mach} {ar am ao : Option Addr} {cr cm co : Nat} (hok : MOk m) (h : MachOwn base w m (.slice ar m.regs.length cr) (.slice am m.mem.length cm) (.slice ao m.out.length co)) : MachR w.heap.size w (m.agg (.slice ar m.regs.length cr) (.slice am m.mem.length cm) (.slice ao m.out.length co)) m :=
 h.reads (fun z hz => (words_of hok.wr z hz).i64) (fun z hz => (words_of hok.wm z hz).i64) (fun z hz => (words_of hok.wo z hz).i64) (by rw [hok.regs]; omega) (by rw [hok.mem]; omega) (by have := hok.out; omega)
theorem krec_any (ai a0 a1 a2 a3 : Option Addr) (ci c0 c1 c2 c3 : Nat) (img is vs : List Int) (bs : List (List Int)) (ds : List Int) (n : Int) (w : World) (ht : Tab w) (hi : Ints w.heap.size w (.slice ai img.length ci) img) (h0 : Ints w.heap.size w (.slice a0 is.length c0) is) (h1 : Ints w.heap.size w (.slice a1 vs.length c1) vs) (h2 : RowsR w.heap.size w (.slice a2 bs.length c2) bs) (h3 : Ints w.heap.size w (.slice a3 ds.length c3) ds) (hn0 : 0 ≤ n) (hn1 : n ≤ 500) (hnc : newC img = 0) (hil : img.length ≤ 64) (hw : W20 is vs bs ds) : Calls Tryd.prog 17 #[.slice ai img.length ci, .agg #[.slice a0 is.length c0, .slice a1 vs.length c1, .slice a2 bs.length c2, .slice a3 ds.length c3], .int .i64 n] w (KPost (.int .i64 0) n w) := by
 refine (record_any ai ci a0 a1 a2 a3 c0 c1 c2 c3 img is vs bs ds n w ht hi h0 h1 h2 h3 (by unfold I64; omega)).mono ?_
 rintro e w5 ⟨cc, l, cnt, i2, m, vi, vb, ar, cr, am, cm, ao, co, hR, rfl, hvi, hvb, hbd, hmo, hb5⟩
 obtain ⟨rfl, hi2, N, rfl, hK⟩ := keep_rec hR hnc hw hn0 hn1
 subst hi2
 obtain ⟨ai, ci, rfl⟩ := own_shape hvi
 obtain ⟨ab, cb, rfl⟩ := own_shape hvb
 refine ⟨i2, is, vs, bs, ds, l, N, m, ai, ab, ar, am, ao, ci, cb, cr, cm, co, rfl, ⟨hK, hnc, hil, ints_of_owns hvi (by omega) (newC_i64 hnc), bytes_of_own hvb (by have := hK.l60; omega), mach_r hK.mok hmo⟩, hb5⟩
theorem w20_none : W20 [] [] [] [] := ⟨by simp, by simp, by simp, by simp, by simp, by simp, by simp, by simp⟩
theorem newC_none : newC [] = 0 := rfl
theorem KRec.l5 {img is vs : List Int} {bs : List (List Int)} {ds : List Int} {n : Int} {l : List UInt8} {N : Nat} {m : Mach} (h : KRec img is vs bs ds n l N m) : 5 ≤ l.length := by
 rcases h.dec with ⟨_, q, _⟩ | ⟨_, q, _⟩ | ⟨q, _⟩ | ⟨q, _⟩
 · cases q
 · cases q
 · exact q
 · exact q
theorem knone_any (n : Int) (w : World) (ht : Tab w) (hn0 : 0 ≤ n) (hn1 : n ≤ 500) : Calls Tryd.prog 17 #[.slice none 0 0, .agg #[.slice none 0 0, .slice none 0 0, .slice none 0 0, .slice none 0 0], .int .i64 n] w (KPost (.int .i64 0) n w) :=
 krec_any none none none none none 0 0 0 0 0 [] [] [] [] [] n w ht (Sl1.nil _ _ _ _) (Sl1.nil _ _ _ _) (Sl1.nil _ _ _ _) (RowsR.nil _ _) (Sl1.nil _ _ _ _) hn0 hn1 newC_none (by simp) w20_none
theorem machr_ints {B : Nat} {w : World} {M : Mach} {ar am ao : Option Addr} {cr cm co : Nat} (h : MachR B w (.agg #[.slice ar M.regs.length cr, .int .i64 M.pc, .int .i64 M.back, .bool M.ints, .bool M.wait, .int .i64 M.table, .int .i64 M.count, .int .i64 M.fin, .slice am M.mem.length cm, .slice ao M.out.length co, .int .i64 M.ready, .int .i64 M.want]) M) : Ints B w (.slice ar M.regs.length cr) M.regs ∧ Ints B w (.slice am M.mem.length cm) M.mem ∧ Ints B w (.slice ao M.out.length co) M.out := by
 obtain ⟨ar', cr', am', cm', ao', co', he, h1, h2, h3⟩ := h
 unfold Mach.agg at he
 injection he with he
 injection he with he
 injection he with e0 he
 injection he with e1 he
 injection he with e2 he
 injection he with e3 he
 injection he with e4 he
 injection he with e5 he
 injection he with e6 he
 injection he with e7 he
 injection he with e8 he
 injection he with e9 he
 rw [← e0] at h1
 rw [← e8] at h2
 rw [← e9] at h3
 exact ⟨h1, h2, h3⟩
section
variable {w : World} {n : Int} {ai ab : Option Addr} {ci cb : Nat} {vg : Value} {img is vs : List Int} {bs : List (List Int)} {ds : List Int} {l : List UInt8} {N : Nat} {m : Mach}
theorem krep_any (h : KT w n (.slice ai img.length ci) (.slice ab l.length cb) vg img is vs bs ds l N m) (ht : Tab w) {k : Int} {j : Nat} (hk : k = j) (hj : j ≤ N) {M : Mach} (hM : M = (recI is vs bs ds (recS0 img) j).m) : Calls Tryd.prog 21 #[.agg #[.slice ai img.length ci, .slice ab l.length cb, .int .i64 N], .int .i64 k] w fun e w' => ∃ ar cr am cm ao co, e = .returned (.tuple #[.agg #[.slice ar M.regs.length cr, .int .i64 M.pc, .int .i64 M.back, .bool M.ints, .bool M.wait, .int .i64 M.table, .int .i64 M.count, .int .i64 M.fin, .slice am M.mem.length cm, .slice ao M.out.length co, .int .i64 M.ready, .int .i64 M.want], .int .i64 0]) ∧ MachR w'.heap.size w' (.agg #[.slice ar M.regs.length cr, .int .i64 M.pc, .int .i64 M.back, .bool M.ints, .bool M.wait, .int .i64 M.table, .int .i64 M.count, .int .i64 M.fin, .slice am M.mem.length cm, .slice ao M.out.length co, .int .i64 M.ready, .int .i64 M.want]) M ∧ Below w.heap.size w w' := by
 have h3 := h.rc.tape.le
 subst hk
 refine (replay_any _ _ img l N j w ht h.i h.b (by unfold I64; omega) (by unfold I64; omega)).mono ?_
 rintro e w1 ⟨m2, c, hrep, ar, cr, am, cm, ao, co, he, hown, hb1⟩
 obtain ⟨rfl, rfl⟩ := (h.rc.rep h.nc hj).det hrep
 rw [← hM] at he hown
 exact ⟨ar, cr, am, cm, ao, co, he, mach_r (by rw [hM]; exact h.rc.ok hj) hown, hb1⟩
end
abbrev laidW := Rows.topReplayRow.laid
theorem gWords : Tryd.prog.globalNamed "hourglass/evlog.words" = some 0 := by kernel_rfl
theorem tWords : (Tryd.prog.globals[0]?).map (·.type) = some 157 := by kernel_rfl
theorem door_met (os : Os) (args : Array Value) : laidMetH Tryd.prog laidW ((World.doorLaid Tryd.prog 400 os).forCall (fun _ _ => 0) ⟨#[], args, []⟩).memory :=
 laidMetH_of_parts3 (fuel := 8) (laidMet_of_run' 8 (by kernel_rfl) (by kernel_rfl)) (by kernel_rfl) (by kernel_rfl)
theorem tab_of_laid {W : World} (h : laidMetH Tryd.prog laidW W) : Tab W := by
 rw [MakeChecks.laidMetH_plain _ _ _ (by kernel_rfl)] at h
 obtain ⟨ps, ⟨g0, t0, cs0, f0, p0, q0, hg0, ht0, hv0, hd0, _, _⟩, _, _⟩ := h
 obtain rfl := Option.some.inj (gWords.symm.trans hg0)
 obtain rfl := Option.some.inj (tWords.symm.trans ht0)
 obtain ⟨xs, m1, rfl, hx1, hlen, hn3, hel⟩ := DataW.trod_array Tryd.underlying157 hd0
 have c3 : Tryd.prog.cellsOf 3 = 1 := by kernel_rfl
 have c4 : Tryd.prog.cellsOf 157 = 4 := by kernel_rfl
 have h0 := hel 0 (by decide)
 have h1 := hel 1 (by decide)
 have h2 := hel 2 (by decide)
 have h3 := hel 3 (by decide)
 rw [c3] at h0 h1 h2 h3
 rw [c4] at hlen
 obtain ⟨cs⟩ := cs0
 simp only at hlen h0 h1 h2 h3 hv0
 obtain ⟨a0, a1, a2, a3, rfl⟩ := len4 hlen
 obtain ⟨x0, x1, x2, x3, rfl⟩ := len4 hn3
 simp only [Prod.mk.injEq] at hx1
 have hx := hx1.1
 simp only [Rows.laid_hourglass_evlog_words, List.map_cons, List.map_nil, DataW.agg.injEq, List.cons.injEq, and_true] at hx
 obtain ⟨y0, y1, y2, y3⟩ := hx
 have one : ∀ {a : Value} {x : DataW Unit × List MemPlace} {n : Int}, DataW.trod (fun _ => ()) Tryd.prog W 0 (fun _ => true) false m1 3 [a] = some x → DataW.lit (.int .i64 n) = x.1 → a = .int .i64 n := by
  intro a x n h e
  obtain ⟨k, e1, e2, _⟩ := DataW.trod_int Tryd.underlying3 h
  rw [e2] at e
  simp only [DataW.lit.injEq, Lit.int.injEq, true_and] at e
  simp only [List.cons.injEq, and_true] at e1
  rw [e1, e]
 have z0 := one h0 y0
 have z1 := one h1 y1
 have z2 := one h2 y2
 have z3 := one h3 y3
 subst z0 z1 z2 z3
 have hc := World.var?_cell hg0 hv0
 refine ⟨hc 0, hc 1, hc 2, hc 3, World.block_lt_of_cell? W ⟨0, 0, none⟩ (hc 0)⟩
section
variable {H : Type} {enc : TypeId × Value → H} {w : World} {held : Bool}
end
end Go.Proofs.YtpdbcdfgonnnnaaDoor
