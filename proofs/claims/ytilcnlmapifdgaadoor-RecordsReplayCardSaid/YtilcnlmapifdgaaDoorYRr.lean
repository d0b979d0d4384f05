/- run.Replay. No condition beyond the readings and the table. -/
import Derived.Test.YtilcnlmapifdgaaDoorYSu
import Derived.Test.YtilcnlmapifdgaaDoorYNg
import Derived.StillTailTactics
import Derived.Deep.CutBlock
import Derived.Deep.CutRange
import Derived.Deep.LoopGhost
namespace Go.Proofs.YtilcnlmapifdgaaDoor
open Go Go.RowKit Go.ChangeShapes Go.WideShapes Go.Deep
set_option linter.unusedVariables false
attribute [local go_sem ↓] Go.wp_at_zero Go.wp_at_succ

theorem imgM_ok {zs : List Int} (h : newC zs = 0) : MOk (imageM zs) ∧ newM zs = imageM zs := by
  by_cases h1 : 256 < zs.length
  · unfold newC at h; rw [if_pos h1] at h; cases h
  · by_cases h2 : zs.any oddB = true
    · unfold newC at h; rw [if_neg h1, if_pos h2] at h; cases h
    · refine ⟨⟨rfl, image_len _ (by omega), Nat.zero_le _, rfl, ?_, rfl, ?_, ?_, ?_, ?_, ?_, ?_, ?_⟩, by unfold newM; rw [if_neg h1, if_neg h2]⟩
      · refine of_words (fun z hz => ?_)
        have hz' : z ∈ zs ++ List.replicate (256 - zs.length) (0 : Int) := hz
        rcases List.mem_append.1 hz' with hz | hz
        · exact words_of (by simpa using h2) z hz
        · rw [List.eq_of_mem_replicate hz]; unfold WordZ; omega
      all_goals (show _ ∧ _; simp [imageM])
/-- What a replay answers: the guest and the error. -/
def RepR (img : List Int) (b : List UInt8) (cnt n : Int) (m : Mach) (c : Int) : Prop :=
  ∃ d l, ChkR img b cnt d l ∧ ((d ≠ 0 ∧ c = d ∧ m = zeroM) ∨ (d = 0 ∧ (n < 0 ∨ cnt < n) ∧ c = 2 ∧ m = zeroM) ∨ (d = 0 ∧ 0 ≤ n ∧ n ≤ cnt ∧ c = 0 ∧ m = runM l (imageM img) n.toNat))
theorem RepR.det {img : List Int} {b : List UInt8} {cnt n c d : Int} {m q : Mach} (h : RepR img b cnt n m c) (k : RepR img b cnt n q d) : c = d ∧ m = q := by
  obtain ⟨e, l, h1, h⟩ := h
  obtain ⟨f, l2, k1, k⟩ := k
  obtain ⟨rfl, rfl⟩ := h1.det k1
  rcases h with ⟨h2, rfl, rfl⟩ | ⟨h2, h3, rfl, rfl⟩ | ⟨h2, h3, h4, rfl, rfl⟩ <;> rcases k with ⟨k2, rfl, rfl⟩ | ⟨k2, k3, rfl, rfl⟩ | ⟨k2, k3, k4, rfl, rfl⟩
  · exact ⟨rfl, rfl⟩
  · exact absurd k2 h2
  · exact absurd k2 h2
  · exact absurd h2 k2
  · exact ⟨rfl, rfl⟩
  · omega
  · exact absurd h2 k2
  · omega
  · exact ⟨rfl, rfl⟩
def RepPost (img : List Int) (b : List UInt8) (cnt n : Int) (w : World) (e : Ending) (w' : World) : Prop := ∃ m c, RepR img b cnt n m c ∧ NewPost w m c e w'
theorem RepPost.no {img : List Int} {b : List UInt8} {cnt n c : Int} {w w' : World} (h : RepR img b cnt n zeroM c) (hb : Below w.heap.size w w') : RepPost img b cnt n w (.returned (.tuple #[.agg #[.slice none 0 0, .int .i64 0, .int .i64 0, .bool false, .bool false, .int .i64 0, .int .i64 0, .int .i64 0, .slice none 0 0, .slice none 0 0, .int .i64 0, .int .i64 0], .int .i64 c])) w' := ⟨zeroM, c, h, zero_post hb⟩
theorem chk_good {img : List Int} {b : List UInt8} {cnt : Int} {l : List Ev} (h : ChkR img b cnt 0 l) : newC img = 0 ∧ 0 ≤ cnt ∧ cnt ≤ 3000 ∧ EvL l ∧ l.length ≤ 1000 ∧ ∀ (i : Nat) (h : i < l.length), l[i].at_ < cnt := by
  rcases h with ⟨h1, h2, _⟩ | ⟨_, _, h2, _⟩ | ⟨h1, h2, h3, d, m, hd, h⟩
  · exact absurd h2.symm h1
  · cases h2
  · rcases h with ⟨h4, h5, _⟩ | ⟨_, _, h5, _⟩ | ⟨rfl, h5, _, rfl⟩
    · exact absurd h5.symm h4
    · cases h5
    · have k := (dec_canon hd).2.ok
      exact ⟨h1, h2, h3, evl_of k.1, k.2, h5⟩
theorem mown_below {base : Nat} {w w' : World} {m : Mach} {vr vm vo : Value} (h : MachOwn base w m vr vm vo) (hb : Below w.heap.size w w') : MachOwn base w' m vr vm vo :=
  ⟨own_below h.hr hb (Nat.le_refl _), own_below h.hm hb (Nat.le_refl _), own_below h.ho hb (Nat.le_refl _), h.rm, h.ro, h.mo, h.mr, h.or, h.om⟩

set_option maxHeartbeats 8000000 in
set_option maxRecDepth 100000 in
theorem replay_any (vi ve : Value) (img : List Int) (b : List UInt8) (cnt n : Int) (w : World) (ht : Tab w) (hi : Ints w.heap.size w vi img) (hb : BytesR w.heap.size w ve b) (hc : I64 cnt) (hn : I64 n) : Calls Tryd.prog 23 #[.agg #[vi, ve, .int .i64 cnt], .int .i64 n] w (RepPost img b cnt n w) := by
  have HI := Lib.hid hi
  have HB := Lib.hid hb
  have HC := Lib.hid hc
  have HT := Lib.hid ht
  obtain ⟨ai, ci, rfl, _⟩ := id hi
  obtain ⟨ae, ce, rfl, _⟩ := id hb
  obtain ⟨hn1, hn2⟩ := hn
  clear hi hb hc ht
  go_enter Tryd.func23, Tryd.ntmps23
  go_wp2_with fail
  have HBA := Lib.hid (below_alloc2 w (.cells #[.slice ai img.length ci, .slice ae b.length ce, .int .i64 cnt] 27 (0, 0)) (.cells #[.slice none 0 0, .int .i64 0, .int .i64 0, .bool false, .bool false, .int .i64 0, .int .i64 0, .int .i64 0, .slice none 0 0, .slice none 0 0, .int .i64 0, .int .i64 0] 29 (0, 0)))
  refine (runcheck_any _ _ img b cnt _ (HT.out.to HBA.out) (HI.out.to HBA.out.size (same_below HBA.out)) (HB.out.to HBA.out.size (same_below HBA.out)) HC.out).mono ?_
  rintro e w1 ⟨d, l, vo, hchk, rfl, hev, hb1⟩
  have hxt : w1.heap[w.heap.size]? = some (.cells #[.slice ai img.length ci, .slice ae b.length ce, .int .i64 cnt] 27 (0, 0)) := block_below hb1 ((alloc_lt (by simp)).trans (alloc_at rfl)) (by simp; omega)
  have hxr : w1.heap[w.heap.size + 1]? = some (.cells #[.slice none 0 0, .int .i64 0, .int .i64 0, .bool false, .bool false, .int .i64 0, .int .i64 0, .int .i64 0, .slice none 0 0, .slice none 0 0, .int .i64 0, .int .i64 0] 29 (0, 0)) := block_below hb1 (alloc_at (by simp)) (by simp)
  have lt1 : w.heap.size + 1 < w1.heap.size := (Array.getElem?_eq_some_iff.1 hxr).1
  have HB1 := Lib.hid (HBA.out.trans (hb1.mono (by simp; omega)))
  have HCH := Lib.hid hchk
  have HEV := Lib.hid hev
  have HXR := Lib.hid hxr
  have q0 : w1.cell? ⟨w.heap.size, 0, none⟩ = some (.slice ai img.length ci) := cell_block hxt 0
  have q2 : w1.cell? ⟨w.heap.size, 2, none⟩ = some (.int .i64 cnt) := cell_block hxt 2
  have r0 : w1.cell? ⟨w.heap.size + 1, 0, none⟩ = some (.slice none 0 0) := cell_block hxr 0
  have g0 := free_block hxr 0
  have r1 : w1.cell? ⟨w.heap.size + 1, 1, none⟩ = some (.int .i64 0) := cell_block hxr 1
  have g1 := free_block hxr 1
  have r2 : w1.cell? ⟨w.heap.size + 1, 2, none⟩ = some (.int .i64 0) := cell_block hxr 2
  have g2 := free_block hxr 2
  have r3 : w1.cell? ⟨w.heap.size + 1, 3, none⟩ = some (.bool false) := cell_block hxr 3
  have g3 := free_block hxr 3
  have r4 : w1.cell? ⟨w.heap.size + 1, 4, none⟩ = some (.bool false) := cell_block hxr 4
  have g4 := free_block hxr 4
  have r5 : w1.cell? ⟨w.heap.size + 1, 5, none⟩ = some (.int .i64 0) := cell_block hxr 5
  have g5 := free_block hxr 5
  have r6 : w1.cell? ⟨w.heap.size + 1, 6, none⟩ = some (.int .i64 0) := cell_block hxr 6
  have g6 := free_block hxr 6
  have r7 : w1.cell? ⟨w.heap.size + 1, 7, none⟩ = some (.int .i64 0) := cell_block hxr 7
  have g7 := free_block hxr 7
  have r8 : w1.cell? ⟨w.heap.size + 1, 8, none⟩ = some (.slice none 0 0) := cell_block hxr 8
  have g8 := free_block hxr 8
  have r9 : w1.cell? ⟨w.heap.size + 1, 9, none⟩ = some (.slice none 0 0) := cell_block hxr 9
  have g9 := free_block hxr 9
  have r10 : w1.cell? ⟨w.heap.size + 1, 10, none⟩ = some (.int .i64 0) := cell_block hxr 10
  have g10 := free_block hxr 10
  have r11 : w1.cell? ⟨w.heap.size + 1, 11, none⟩ = some (.int .i64 0) := cell_block hxr 11
  have g11 := free_block hxr 11
  clear hchk hev hb1 hxt hxr HBA
  by_cases hd : d = 0
  · subst hd
    have HGD := Lib.hid (chk_good HCH.out)
    by_cases hno : n < 0 ∨ cnt < n
    · have HR := Lib.hid (show RepR img b cnt n zeroM 2 from ⟨0, l, HCH.out, Or.inr (Or.inl ⟨rfl, hno, rfl, rfl⟩)⟩)
      rcases (show n < 0 ∨ (¬ n < 0 ∧ cnt < n) by omega) with h | ⟨h, h2⟩
      · clear hno
        go_wp2_with fail
        refine bodyPost_ret (v := .tuple #[.agg #[.slice none 0 0, .int .i64 0, .int .i64 0, .bool false, .bool false, .int .i64 0, .int .i64 0, .int .i64 0, .slice none 0 0, .slice none 0 0, .int .i64 0, .int .i64 0], .int .i64 2]) (by simp [results, Tryd.results23, go_sem, r0, r1, r2, r3, r4, r5, r6, r7, r8, r9, r10, r11]) rfl ?_
        refine RepPost.no HR.out ?_
        go_grown
        exact HB1.out
      · clear hno
        go_wp2_with fail
        refine bodyPost_ret (v := .tuple #[.agg #[.slice none 0 0, .int .i64 0, .int .i64 0, .bool false, .bool false, .int .i64 0, .int .i64 0, .int .i64 0, .slice none 0 0, .slice none 0 0, .int .i64 0, .int .i64 0], .int .i64 2]) (by simp [results, Tryd.results23, go_sem, r0, r1, r2, r3, r4, r5, r6, r7, r8, r9, r10, r11]) rfl ?_
        refine RepPost.no HR.out ?_
        go_grown
        exact HB1.out
    · obtain ⟨N, rfl⟩ : ∃ N : Nat, n = N := ⟨n.toNat, by omega⟩
      have hN : (N : Int) ≤ cnt := by omega
      have h3000 : N ≤ 3000 := by have := HGD.out.2.2.1; omega
      have hlo : ¬ (N : Int) < 0 := by omega
      have hhi : ¬ cnt < (N : Int) := by omega
      have HR := Lib.hid (show RepR img b cnt N (runM l (imageM img) N) 0 from ⟨0, l, HCH.out, Or.inr (Or.inr ⟨rfl, by omega, hN, rfl, by rw [Int.toNat_natCast]⟩)⟩)
      have HIM := Lib.hid (imgM_ok HGD.out.1)
      have HNW := Lib.hid (cnew_all (.slice ai img.length ci) img w1 (HI.out.to HB1.out.size (same_below HB1.out)))
      rw [HIM.out.2, HGD.out.1] at HNW
      obtain ⟨al, cl, hvo, _, _, _⟩ := id HEV.out
      subst hvo
      generalize hm0 : imageM img = m0 at *
      have HC0 : Hid (m0.count = 0) := Lib.hid (by rw [← hm0]; rfl)
      clear hno hN hm0 r0 r1 r2 r3 r4 r5 r6 r7 r8 r9 r10 r11 g0 g1 g2 g3 g4 g5 g6 g7 g8 g9 g10 g11
      go_wp2_with fail
      refine HNW.out.mono ?_
      rintro e w2 ⟨ar, cr, am, cm, ao, co, rfl, hown, hb2⟩
      rw [Mach.agg]
      have h8 := HIM.out.1.regs
      have h256 := HIM.out.1.mem
      have HB2 := Lib.hid hb2
      have lt2 : w1.heap.size ≤ w2.heap.size := hb2.size
      obtain ⟨gr, mb, rfl, rfl, hgst⟩ := gst_start HIM.out.1 (mown_below hown (below_alloc w2 (.cells #[.slice ar m0.regs.length cr, .int .i64 m0.pc, .int .i64 m0.back, .bool m0.ints, .bool m0.wait, .int .i64 m0.table, .int .i64 m0.count, .int .i64 m0.fin, .slice am m0.mem.length cm, .slice ao m0.out.length co, .int .i64 m0.ready, .int .i64 m0.want] 29 (0, 0)))) (hb2.trans ((below_alloc w2 _).mono lt2))
      rw [h8, h256]
      rw [h8, h256] at hgst
      obtain ⟨W3, hW3⟩ : ∃ W3, W3 = (w2.alloc (.cells #[.slice (some ⟨gr, 0, none⟩) 8 cr, .int .i64 m0.pc, .int .i64 m0.back, .bool m0.ints, .bool m0.wait, .int .i64 m0.table, .int .i64 m0.count, .int .i64 m0.fin, .slice (some ⟨mb, 0, none⟩) 256 cm, .slice ao m0.out.length co, .int .i64 m0.ready, .int .i64 m0.want] 29 (0, 0))).alloc (.cells #[.slice (some ⟨gr, 0, none⟩) 8 cr, .int .i64 m0.pc, .int .i64 m0.back, .bool m0.ints, .bool m0.wait, .int .i64 m0.table, .int .i64 m0.count, .int .i64 m0.fin, .slice (some ⟨mb, 0, none⟩) 256 cm, .slice ao m0.out.length co, .int .i64 m0.ready, .int .i64 m0.want, .int .i64 0] 84 (0, 0)) := ⟨_, rfl⟩
      obtain ⟨cb, hcb⟩ : ∃ cb, cb = w2.heap.size + 1 := ⟨_, rfl⟩
      have hsz : (w2.alloc (.cells #[.slice (some ⟨gr, 0, none⟩) 8 cr, .int .i64 m0.pc, .int .i64 m0.back, .bool m0.ints, .bool m0.wait, .int .i64 m0.table, .int .i64 m0.count, .int .i64 m0.fin, .slice (some ⟨mb, 0, none⟩) 256 cm, .slice ao m0.out.length co, .int .i64 m0.ready, .int .i64 m0.want] 29 (0, 0))).heap.size = cb := by rw [hcb]; simp
      rw [← hW3, hsz] at hgst
      have HG := Lib.hid hgst
      have hlW : W3.heap.size = cb + 1 := by rw [hW3, hcb]; simp
      have HRB3 := Lib.hid (hgst.old.at HXR.out (fun q => q))
      clear hown hb2 h8 h256 HNW q0 q2
      go_upto_region 8 with fail
      rw [← hW3, ← hcb]
      have HPS0 : Hid (PSt pbRun (FlatSt mb cm) w1 (fun _ => False) W3.heap.size cb gr cr (.slice (some ⟨mb, 0, none⟩) 256 cm) m0 0 false (.slice al l.length cl) ao co (fun g => g = mb) (W3.alloc (.cells #[.slice al l.length cl] 73 (0, 0)))) := Lib.hid ⟨HG.out.alloc (rflat_is mb cm) _, alloc_at rfl, fun e => by have := (HG.out.mem.2.2.2.lt mb rfl).2; omega, Or.inr HG.out.old.size⟩
      obtain ⟨pb, hpb⟩ : ∃ pb, pb = cb + 1 := ⟨_, rfl⟩
      rw [hlW, ← hpb] at HPS0
      clear hW3 hcb hsz hgst HG
      go_upto_region 9 with fail
      rw [← hpb]
      generalize World.alloc W3 _ = W4 at *
      clear hpb hlW HRB3
      go_wp2_with fail
      go_loopg [43] N (fun gh s43 wr => ∃ (i : Nat) (LL : List Ev) (al : Option Addr) (nl cl : Nat) (wro : Int), i ≤ N ∧ gh = N - i ∧ s43 = .int .i64 i ∧ Hid (PS pbRun (FlatSt mb cm) w1 (fun _ => False) pb cb gr cr (.slice (some ⟨mb, 0, none⟩) 256 cm) (runM l m0 i) wro false (.slice al nl cl) wr) ∧ Hid (EvsR w1.heap.size w1 (.slice al nl cl) LL) ∧ Hid (Stands l (runM l m0 i) i LL))
      case atStart => exact ⟨0, l, al, l.length, cl, 0, Nat.zero_le _, by omega, rfl, Lib.hid HPS0.out.ps, HEV, Lib.hid (Stands.start HGD.out.2.2.2.1 HC0.out)⟩
      case round =>
        obtain ⟨i, LL, al, nl, cl, wro, hi, rfl, rfl, HPS, HE, HST⟩ := hrel
        obtain ⟨ao, co, F, hps⟩ := HPS.out
        have hok := runM_ok HGD.out.2.2.2.1 HIM.out.1 HC0.out i (by omega)
        have HOK := Lib.hid hok
        have c8 : wr.cell? ⟨cb, 8, none⟩ = some (.slice (some ⟨mb, 0, none⟩) 256 cm) := cell_block hps.g.box 8
        have lcb := hps.g.clt
        by_cases hlt : i < N
        · have hEL : EvL LL := by
            obtain ⟨pre, e, _⟩ := HST.out.pre
            have hl := HGD.out.2.2.2.1
            rw [e] at hl
            exact hl.drop
          have HFW := Lib.hid (forward_any (rflat_is mb cm) hps hok.1 (by have := hok.2; omega) (Nat.le_refl _) (wE := w1) (fun W ho => (ho.same (Nat.le_refl _) (fun _ _ h => h)).imp) LL hEL HE.out)
          have HSP := Lib.hid (HST.out.step HGD.out.2.2.2.1)
          have hli : (i : Int) < (N : Int) := by omega
          clear hps hok HPS HPS0 hEL
          go_wp2_with fail
          refine HFW.out.mono ?_
          rintro e w5 ⟨m', wr', x', a5, n5, c5, rfl, hps5, hev5, hm5, -, -, hor⟩
          have hx5 : x' = false := by obtain ⟨_, _, _, k⟩ := hps5; exact k.g.mem.1
          subst hx5
          obtain ⟨-, rfl, rfl⟩ := hor.resolve_right (by decide)
          rw [HSP.out.1] at hps5
          have HP5 := Lib.hid hps5
          have HE5 := Lib.hid hev5
          clear hps5 hev5 hm5 HFW c8 lcb
          go_wp2_with fail
          go_roundg (N - (i + 1))
          case measure => omega
          case rel => exact ⟨i + 1, _, a5, n5, c5, _, by omega, rfl, by go_num, HP5, HE5, Lib.hid HSP.out.2⟩
        · obtain rfl : i = N := by omega
          have HS := Lib.hid hps
          have hxr := hps.g.old.at HXR.out (fun q => q)
          have HXR6 := Lib.hid hxr
          have r0 : wr.cell? ⟨w.heap.size + 1, 0, none⟩ = some (.slice none 0 0) := cell_block hxr 0
          have g0 := free_block hxr 0
          have r1 : wr.cell? ⟨w.heap.size + 1, 1, none⟩ = some (.int .i64 0) := cell_block hxr 1
          have g1 := free_block hxr 1
          have r2 : wr.cell? ⟨w.heap.size + 1, 2, none⟩ = some (.int .i64 0) := cell_block hxr 2
          have g2 := free_block hxr 2
          have r3 : wr.cell? ⟨w.heap.size + 1, 3, none⟩ = some (.bool false) := cell_block hxr 3
          have g3 := free_block hxr 3
          have r4 : wr.cell? ⟨w.heap.size + 1, 4, none⟩ = some (.bool false) := cell_block hxr 4
          have g4 := free_block hxr 4
          have r5 : wr.cell? ⟨w.heap.size + 1, 5, none⟩ = some (.int .i64 0) := cell_block hxr 5
          have g5 := free_block hxr 5
          have r6 : wr.cell? ⟨w.heap.size + 1, 6, none⟩ = some (.int .i64 0) := cell_block hxr 6
          have g6 := free_block hxr 6
          have r7 : wr.cell? ⟨w.heap.size + 1, 7, none⟩ = some (.int .i64 0) := cell_block hxr 7
          have g7 := free_block hxr 7
          have r8 : wr.cell? ⟨w.heap.size + 1, 8, none⟩ = some (.slice none 0 0) := cell_block hxr 8
          have g8 := free_block hxr 8
          have r9 : wr.cell? ⟨w.heap.size + 1, 9, none⟩ = some (.slice none 0 0) := cell_block hxr 9
          have g9 := free_block hxr 9
          have r10 : wr.cell? ⟨w.heap.size + 1, 10, none⟩ = some (.int .i64 0) := cell_block hxr 10
          have g10 := free_block hxr 10
          have r11 : wr.cell? ⟨w.heap.size + 1, 11, none⟩ = some (.int .i64 0) := cell_block hxr 11
          have g11 := free_block hxr 11
          have p0 : wr.cell? ⟨cb, 0, none⟩ = some (.slice (some ⟨gr, 0, none⟩) 8 cr) := cell_block hps.g.box 0
          have p1 : wr.cell? ⟨cb, 1, none⟩ = some (.int .i64 (runM l m0 i).pc) := cell_block hps.g.box 1
          have p2 : wr.cell? ⟨cb, 2, none⟩ = some (.int .i64 (runM l m0 i).back) := cell_block hps.g.box 2
          have p3 : wr.cell? ⟨cb, 3, none⟩ = some (.bool (runM l m0 i).ints) := cell_block hps.g.box 3
          have p4 : wr.cell? ⟨cb, 4, none⟩ = some (.bool (runM l m0 i).wait) := cell_block hps.g.box 4
          have p5 : wr.cell? ⟨cb, 5, none⟩ = some (.int .i64 (runM l m0 i).table) := cell_block hps.g.box 5
          have p6 : wr.cell? ⟨cb, 6, none⟩ = some (.int .i64 (runM l m0 i).count) := cell_block hps.g.box 6
          have p7 : wr.cell? ⟨cb, 7, none⟩ = some (.int .i64 (runM l m0 i).fin) := cell_block hps.g.box 7
          have p8 : wr.cell? ⟨cb, 8, none⟩ = some (.slice (some ⟨mb, 0, none⟩) 256 cm) := cell_block hps.g.box 8
          have p9 : wr.cell? ⟨cb, 9, none⟩ = some (.slice ao (runM l m0 i).out.length co) := cell_block hps.g.box 9
          have p10 : wr.cell? ⟨cb, 10, none⟩ = some (.int .i64 (runM l m0 i).ready) := cell_block hps.g.box 10
          have p11 : wr.cell? ⟨cb, 11, none⟩ = some (.int .i64 (runM l m0 i).want) := cell_block hps.g.box 11
          have lrb : w.heap.size + 1 < wr.heap.size := (Array.getElem?_eq_some_iff.1 hxr).1
          clear hps hok HPS HPS0 hxr c8
          generalize runM l m0 i = mz at *
          go_wp2_with fail
          refine bodyPost_ret (v := .tuple #[.agg #[.slice (some ⟨gr, 0, none⟩) 8 cr, .int .i64 mz.pc, .int .i64 mz.back, .bool mz.ints, .bool mz.wait, .int .i64 mz.table, .int .i64 mz.count, .int .i64 mz.fin, .slice (some ⟨mb, 0, none⟩) 256 cm, .slice ao mz.out.length co, .int .i64 mz.ready, .int .i64 mz.want], .int .i64 0]) (by simp [results, Tryd.results23, go_sem, r0, r1, r2, r3, r4, r5, r6, r7, r8, r9, r10, r11]) rfl ?_
          clear p0 p1 p2 p3 p4 p5 p6 p7 p8 p9 p10 p11 r0 r1 r2 r3 r4 r5 r6 r7 r8 r9 r10 r11 g0 g1 g2 g3 g4 g5 g6 g7 g8 g9 g10 g11
          have h0 := HS.out.g.sinv (w := w) (g := w.heap.size + 1) (fun k q => q) HOK.out.1 HB1.out ⟨_, HXR6.out⟩
          have hw1 : w.heap.size ≤ w.heap.size + 1 := Nat.le_succ _
          have h12 := ((((((((((((h0.step hw1 0 (.slice (some ⟨gr, 0, none⟩) 8 cr)).step hw1 1 (.int .i64 mz.pc)).step hw1 2 (.int .i64 mz.back)).step hw1 3 (.bool mz.ints)).step hw1 4 (.bool mz.wait)).step hw1 5 (.int .i64 mz.table)).step hw1 6 (.int .i64 mz.count)).step hw1 7 (.int .i64 mz.fin)).step hw1 8 (.slice (some ⟨mb, 0, none⟩) 256 cm)).step hw1 9 (.slice ao mz.out.length co)).step hw1 10 (.int .i64 mz.ready)).step hw1 11 (.int .i64 mz.want))
          exact ⟨mz, 0, HR.out, SInv.post' HOK.out.1.regs.symm HOK.out.1.mem.symm rfl h12⟩
  · have HR := Lib.hid (show RepR img b cnt n zeroM d from ⟨d, l, HCH.out, Or.inl ⟨hd, rfl, rfl⟩⟩)
    have hd1 : (d != 0) = true := by rw [bne_iff_ne]; exact hd
    clear hd
    go_wp2_with fail
    refine bodyPost_ret (v := .tuple #[.agg #[.slice none 0 0, .int .i64 0, .int .i64 0, .bool false, .bool false, .int .i64 0, .int .i64 0, .int .i64 0, .slice none 0 0, .slice none 0 0, .int .i64 0, .int .i64 0], .int .i64 d]) (by simp [results, Tryd.results23, go_sem, r0, r1, r2, r3, r4, r5, r6, r7, r8, r9, r10, r11]) rfl ?_
    refine RepPost.no HR.out ?_
    go_grown
    exact HB1.out
end Go.Proofs.YtilcnlmapifdgaaDoor
