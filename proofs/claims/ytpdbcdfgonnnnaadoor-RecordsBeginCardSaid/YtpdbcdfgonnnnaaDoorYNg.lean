/- Several texts joined, each with its own heading in the notes: The contract of the reference's GuestNew. The contracts of cpu. What a tape's check answers, in plain Lean, and run. run. No condition beyond those of each row. -/
import Derived.Test.YtpdbcdfgonnnnaaDoorYPk
import Derived.Deep.AppendLies
import Derived.Test.YtpdbcdfgonnnnaaDoorYEv
import Derived.Test.YtpdbcdfgonnnnaaDoorYDe
import Derived.Test.YtpdbcdfgonnnnaaDoorYSu
import Derived.StillTailTactics
import Derived.Deep.CutBlock
import Derived.Deep.CutRange
import Derived.Deep.LoopGhost
namespace Go.Proofs.YtpdbcdfgonnnnaaDoor
open Go Go.RowKit Go.ChangeShapes Go.WideShapes Go.Deep
set_option linter.unusedVariables false
attribute [local go_sem ↓] Go.wp_at_zero Go.wp_at_succ
structure GInv (w : World) (gb gr : Nat) (a : Option Addr) (n c : Nat) (mem : List Int) (wx : World) : Prop where
 x : wx.heap[w.heap.size]? = some (.cells #[.slice none 0 0, .int .i64 0, .int .i64 0, .bool false, .bool false, .int .i64 0, .int .i64 0, .int .i64 0, .slice none 0 0, .slice none 0 0, .int .i64 0, .int .i64 0] 29 (0, 0))
 y : wx.heap[gb]? = some (.cells #[.slice (some ⟨gr, 0, none⟩) 8 8, .int .i64 0, .int .i64 0, .bool false, .bool false, .int .i64 (-1), .int .i64 0, .int .i64 0, .slice a n c, .slice none 0 0, .int .i64 0, .int .i64 (-1)] 29 (0, 0))
 r : wx.heap[gr]? = some (.cells ((List.replicate 8 (0 : Int)).map (Value.int .i64)).toArray 3 (0, 0))
 m : wx.ownsRow w.heap.size 3 1 (.slice a n c) n (mem.map (Value.int .i64))
 b : Below w.heap.size w wx
 wr : w.heap.size < gr
 wb : w.heap.size < gb
 rm : some gr ≠ (Value.slice a n c).ownBlock
theorem GInv.own {w wx : World} {gb gr c : Nat} {a : Option Addr} {img : List Int} (hl : img.length ≤ 256) (h : GInv w gb gr a 256 c (imageM img).mem wx) : SInv w w.heap.size (imageM img) (.slice (some ⟨gr, 0, none⟩) 8 8) (.slice a 256 c) (.slice none 0 0) wx := by
 have l1 : (imageM img).regs.length = 8 := by simp [imageM]
 have l2 := image_len img hl
 have o1 := own_block (base := w.heap.size) h.r (by have := h.wr; omega) (n := 8) (by simp) (by omega)
 have hm := h.m
 refine ⟨⟨by rw [l1]; exact o1, by rw [l2]; exact hm, World.ownsRow_nil _ _ _ _, Or.inr h.rm, ?_, ?_, ?_, Or.inl rfl, Or.inl rfl⟩, ⟨_, h.x⟩, h.b⟩
 · exact Or.inr (by simp [Value.ownBlock])
 ·
  unfold Apart
  cases e : Value.ownBlock (.slice a 256 c) with
  | none => exact Or.inl rfl
  | some q => exact Or.inr (by simp [Value.ownBlock])
 ·
  unfold Apart
  cases e : Value.ownBlock (.slice a 256 c) with
  | none => exact Or.inl rfl
  | some q => exact Or.inr (by have := h.rm; rw [e] at this; exact fun e' => this e'.symm)
abbrev zobj : Obj := .cells #[.slice none 0 0, .int .i64 0, .int .i64 0, .bool false, .bool false, .int .i64 0, .int .i64 0, .int .i64 0, .slice none 0 0, .slice none 0 0, .int .i64 0, .int .i64 0] 29 (0, 0)
structure GPre (w w2 : World) (lo : Nat) (a2 : Option Addr) (n c2 : Nat) (img : List Int) : Prop where
 x : w2.heap[w.heap.size]? = some zobj
 b : Below w.heap.size w w2
 o : w2.ownsRow w.heap.size 3 1 (.slice a2 n c2) n (img.map (Value.int .i64))
 l : ∀ k, (Value.slice a2 n c2).ownBlock = some k → lo ≤ k ∧ k < w2.heap.size
 s : lo ≤ w2.heap.size
 p : w.heap.size < lo
end Go.Proofs.YtpdbcdfgonnnnaaDoor
namespace Go.Proofs.YtpdbcdfgonnnnaaDoor
open Go Go.RowKit Go.ChangeShapes Go.WideShapes Go.ChangeAt
set_option maxHeartbeats 4000000
set_option maxRecDepth 100000
set_option linter.unusedVariables false
def MI64 (m : Mach) : Prop := (∀ z ∈ m.regs, I64 z) ∧ (∀ z ∈ m.mem, I64 z) ∧ (∀ z ∈ m.out, I64 z) ∧ m.regs.length ≤ 256 ∧ m.mem.length ≤ 256 ∧ m.out.length ≤ 256
theorem zeroM_i64 : MI64 zeroM := ⟨fun z hz => (by cases hz), fun z hz => (by cases hz), fun z hz => (by cases hz), by decide, by decide, by decide⟩
theorem imageM_i64 (img : List Int) (hl : img.length ≤ 256) (h : ∀ z ∈ img, I64 z) : MI64 (imageM img) := by
 refine ⟨fun z hz => ?_, fun z hz => ?_, fun z hz => (by cases hz), by simp [imageM], by simp [imageM]; omega, by simp [imageM]⟩
 ·
  have hz' : z ∈ List.replicate 8 (0 : Int) := hz
  rw [List.eq_of_mem_replicate hz']; unfold I64; omega
 ·
  have hz' : z ∈ img ++ List.replicate (256 - img.length) (0 : Int) := hz
  rcases List.mem_append.1 hz' with hz | hz
  · exact h z hz
  · rw [List.eq_of_mem_replicate hz]; unfold I64; omega
theorem newM_i64 (img : List Int) (h : ∀ z ∈ img, I64 z) : MI64 (newM img) := by
 unfold newM
 split
 · exact zeroM_i64
 ·
  split
  · exact zeroM_i64
  · exact imageM_i64 img (by omega) h
theorem cnew_all (v : Value) (img : List Int) (w : World) (hv : Ints w.heap.size w v img) : Calls Tryd.prog 31 #[v] w (NewPost w (newM img) (newC img)) := by
 by_cases h1 : 256 < img.length
 ·
  have e : newM img = zeroM := by unfold newM; rw [if_pos h1]
  rw [e]; exact new_bad v img w hv (Or.inl h1)
 ·
  cases h2 : img.any oddB with
  | true =>
   have e : newM img = zeroM := by unfold newM; rw [if_neg h1, if_pos h2]
   rw [e]; exact new_bad v img w hv (Or.inr h2)
  | false =>
   have e : newM img = imageM img := by unfold newM; rw [if_neg h1, if_neg (by rw [h2]; decide)]
   have e' : newC img = 0 := by unfold newC; rw [if_neg h1, if_neg (by rw [h2]; decide)]
   rw [e, e']; exact new_good v img w hv (by omega) h2
def ChkR (img : List Int) (b : List UInt8) (cnt c : Int) (l : List Ev) : Prop :=
 (newC img ≠ 0 ∧ c = newC img ∧ l = []) ∨
 (newC img = 0 ∧ (cnt < 0 ∨ 3000 < cnt) ∧ c = 2 ∧ l = []) ∨
 (newC img = 0 ∧ 0 ≤ cnt ∧ cnt ≤ 3000 ∧ ∃ d m, DecR b d m ∧ ((d ≠ 0 ∧ c = d ∧ l = []) ∨ (d = 0 ∧ (∃ (i : Nat) (h : i < m.length), cnt ≤ m[i].at_) ∧ c = 9 ∧ l = []) ∨ (d = 0 ∧ (∀ (i : Nat) (h : i < m.length), m[i].at_ < cnt) ∧ c = 0 ∧ l = m)))
theorem ChkR.det {img : List Int} {b : List UInt8} {cnt c d : Int} {l m : List Ev} (h : ChkR img b cnt c l) (k : ChkR img b cnt d m) : c = d ∧ l = m := by
 rcases h with ⟨h1, rfl, rfl⟩ | ⟨h1, h2, rfl, rfl⟩ | ⟨h1, h2, h3, e, x, hd, h⟩ <;> rcases k with ⟨k1, rfl, rfl⟩ | ⟨k1, k2, rfl, rfl⟩ | ⟨k1, k2, k3, e', x', hd', k⟩
 · exact ⟨rfl, rfl⟩
 · exact absurd k1 h1
 · exact absurd k1 h1
 · exact absurd h1 k1
 · exact ⟨rfl, rfl⟩
 ·
  rcases h2 with h2 | h2
  · exact absurd k2 (Int.not_le.2 h2)
  · exact absurd k3 (Int.not_le.2 h2)
 · exact absurd h1 k1
 ·
  rcases k2 with k2 | k2
  · exact absurd h2 (Int.not_le.2 k2)
  · exact absurd h3 (Int.not_le.2 k2)
 ·
  obtain ⟨rfl, rfl⟩ := hd.det hd'
  rcases h with ⟨h4, rfl, rfl⟩ | ⟨h4, ⟨i, hi, h5⟩, rfl, rfl⟩ | ⟨h4, h5, rfl, rfl⟩ <;> rcases k with ⟨k4, rfl, rfl⟩ | ⟨k4, ⟨j, hj, k5⟩, rfl, rfl⟩ | ⟨k4, k5, rfl, rfl⟩
  · exact ⟨rfl, rfl⟩
  · exact absurd k4 h4
  · exact absurd k4 h4
  · exact absurd h4 k4
  · exact ⟨rfl, rfl⟩
  · exact absurd h5 (Int.not_le.2 (k5 i hi))
  · exact absurd h4 k4
  · exact absurd k5 (Int.not_le.2 (h5 j hj))
  · exact ⟨rfl, rfl⟩
theorem at_mono {l : List Ev} (h : EvOk l) {i : Nat} (hi : i < l.length) : ∀ (j : Nat) (hj : j < l.length), i ≤ j → l[i].at_ ≤ l[j].at_ := by
 intro j
 induction j with
 | zero =>
  intro hj hij
  obtain rfl : i = 0 := by omega
  exact Int.le_refl _
 | succ k ih =>
  intro hj hij
  by_cases he : i = k + 1
  · subst he; exact Int.le_refl _
  ·
   have h1 := ih (by omega) (by omega)
   have h2 := (ev_at h hj).2.2.2.2.2.2.2
   rw [lastAt_take (by omega)] at h2
   omega
theorem dec_mono {b : List UInt8} {l : List Ev} (h : DecR b 0 l) {i : Nat} (hi : i < l.length) : l[i].at_ ≤ (l[l.length - 1]'(by omega)).at_ :=
 at_mono (dec_canon h).2.ok.1 hi _ (by omega) (by omega)
def ChkPost (img : List Int) (b : List UInt8) (cnt : Int) (w : World) (en : Ending) (w' : World) : Prop := ∃ c l vo, ChkR img b cnt c l ∧ en = .returned (.tuple #[vo, .int .i64 c]) ∧ EvsR w'.heap.size w' vo l ∧ Below w.heap.size w w'
def ChkNew (img : List Int) (b : List UInt8) (cnt : Int) (w : World) (en : Ending) (w' : World) : Prop := ∃ c l vo, ChkR img b cnt c l ∧ en = .returned (.tuple #[vo, .int .i64 c]) ∧ EvsN w.heap.size w' vo l ∧ Below w.heap.size w w'
theorem ChkNew.no {img : List Int} {b : List UInt8} {cnt : Int} {w w' : World} {c : Int} (h : ChkR img b cnt c []) (hb : Below w.heap.size w w') : ChkNew img b cnt w (.returned (.tuple #[.slice none 0 0, .int .i64 c])) w' := ⟨c, [], _, h, rfl, EvsN.nil _ _, hb⟩
theorem ChkNew.post {img : List Int} {b : List UInt8} {cnt : Int} {w w' : World} {en : Ending} (h : ChkNew img b cnt w en w') : ChkPost img b cnt w en w' := by
 obtain ⟨c, l, vo, h1, h2, h3, h4⟩ := h
 exact ⟨c, l, vo, h1, h2, h3.1, h4⟩
theorem runcheck_new (vi ve : Value) (img : List Int) (b : List UInt8) (cnt : Int) (w : World) (ht : Tab w) (hi : Ints w.heap.size w vi img) (hb : BytesR w.heap.size w ve b) (hc : I64 cnt) : Calls Tryd.prog 45 #[.agg #[vi, ve, .int .i64 cnt]] w (ChkNew img b cnt w) := by
 have HI := Lib.hid hi
 have HB := Lib.hid hb
 have HT := Lib.hid ht
 obtain ⟨ai, ci, rfl, _⟩ := id hi
 obtain ⟨ae, ce, rfl, _⟩ := id hb
 clear hi hb ht
 have hnc : newC img = 0 ∨ newC img ≠ 0 := by omega
 generalize hcc : newC img = nc at hnc
 go_enter Tryd.func45, Tryd.ntmps45
 go_wp2_with fail
 refine (cnew_all _ img _ (HI.out.to (by simp) (same_alloc _ _))).mono ?_
 rintro e w1 ⟨ar, cr, am, cm, ao, co, he, hown, hb1⟩
 rw [Mach.agg] at he
 rw [hcc] at he
 subst he
 have hx := block_below hb1 (g := w.heap.size) (alloc_at rfl) (by simp)
 have lt1 : w.heap.size < w1.heap.size := by have := hb1.size; simp at this; omega
 have q0 : w1.cell? ⟨w.heap.size, 0, none⟩ = some (.slice ai img.length ci) := cell_block hx 0
 have q1 : w1.cell? ⟨w.heap.size, 1, none⟩ = some (.slice ae b.length ce) := cell_block hx 1
 have q2 : w1.cell? ⟨w.heap.size, 2, none⟩ = some (.int .i64 cnt) := cell_block hx 2
 have HB1 := Lib.hid ((below_alloc w _).trans (hb1.mono (by simp)))
 have HBA := Lib.hid (fun O => (HB1.out).alloc (Nat.le_of_lt lt1) O)
 have HX := Lib.hid hx
 have HNC := Lib.hid hnc
 clear hx hb1 hown
 rcases HNC.out with h0 | h0
 ·
  subst h0
  by_cases hr : 0 ≤ cnt ∧ cnt ≤ 3000
  ·
   have r1 : decide (cnt < 0) = false := decide_eq_false (by omega)
   have r2 : decide (3000 < cnt) = false := decide_eq_false (by omega)
   have HR := Lib.hid hr
   clear hr
   go_wp2_with fail
   refine (evdecode_new _ b _ (HB.out.to (HBA.out _).size (same_below (HBA.out _))) (HT.out.to (HBA.out _))).mono ?_
   rintro e w2 ⟨d, l, vo, hdec, rfl, hev, hb2⟩
   have hx2 := block_below hb2 (g := w.heap.size) ((alloc_lt lt1).trans HX.out) (by simp; omega)
   have lt2 : w.heap.size < w2.heap.size := by have := hb2.size; simp at this; omega
   have p2 : w2.cell? ⟨w.heap.size, 2, none⟩ = some (.int .i64 cnt) := cell_block hx2 2
   have HB2 := Lib.hid ((HBA.out _).trans (hb2.mono (by simp; omega)))
   have HEV := Lib.hid (hev.le (HBA.out _).size)
   have HDE := Lib.hid hdec
   clear hx2 hb2 q0 q1 q2
   by_cases hd : d = 0
   ·
    subst hd
    have HMO := Lib.hid (fun i hi => dec_mono hdec (i := i) hi)
    have HLEN := Lib.hid (dec_canon hdec).2.ok.2
    clear hdec
    obtain ⟨al, cl, rfl, hll, _, hcell⟩ := hev.1
    have HC := Lib.hid hcell
    clear hcell
    by_cases hl : l = []
    ·
     subst hl
     have HP := Lib.hid (show ChkR img b cnt 0 [] from Or.inr (Or.inr ⟨hcc, HR.out.1, HR.out.2, 0, _, HDE.out, Or.inr (Or.inr ⟨rfl, fun i hi => absurd hi (Nat.not_lt_zero _), rfl, rfl⟩)⟩))
     go_wp2_with fail
     go_quiet (fail)
     go_wp2
     go_ret2
     exact ⟨0, [], _, HP.out, rfl, HEV.out.below (below_drewN (Below.refl _ _) _), below_drewN HB2.out _⟩
    ·
     obtain ⟨n, hn⟩ : ∃ n, l.length = n + 1 := ⟨l.length - 1, by have := List.length_pos_iff.2 hl; omega⟩
     have hnl : n < l.length := by omega
     obtain ⟨bb, off, cs, ha, hbb, hcs, hcell, dd, cd, hcs2, i1, i2, hint⟩ := HC.out n hnl
     subst ha hcs2
     have k0 : w2.cell? ⟨bb, off + n * 3, none⟩ = some (.int .i64 l[n].at_) := hcell 0 (by simp)
     have HMX : Hid (∀ (i : Nat) (hi : i < l.length), l[i].at_ ≤ l[n].at_) := Lib.hid (fun (i : Nat) (hi : i < l.length) => by
      have h := HMO.out i hi
      have e : l.length - 1 = n := by omega
      simp only [e] at h
      exact h)
     have hlc : (0 : Int) < (l.length : Int) := by omega
     have hsub : (l.length : Int) - 1 = (n : Int) := by omega
     have hwn : IntKind.i64.wrap (n : Int) = (n : Int) := IntWalk.i64_in _ (by have := HLEN.out; omega)
     have hw41 : IntKind.i64.wrap ((l.length : Int) - 1) = (n : Int) := by rw [hsub]; exact hwn
     have hn0 : (0 : Int) ≤ (n : Int) := by omega
     have hgd : decide (0 < l.length) = true := decide_eq_true (by omega)
     have hnl2 : (n : Int) < (l.length : Int) := by omega
     have HN := Lib.hid hn
     have HL := Lib.hid hnl
     by_cases hge : cnt ≤ l[n].at_
     ·
      have HP := Lib.hid (show ChkR img b cnt 9 [] from Or.inr (Or.inr ⟨hcc, HR.out.1, HR.out.2, 0, _, HDE.out, Or.inr (Or.inl ⟨rfl, ⟨n, hnl, hge⟩, rfl, rfl⟩)⟩))
      have hged : decide (cnt ≤ l[n].at_) = true := decide_eq_true hge
      generalize l[n] = x at *
      clear hcell hcs hint hge hn hl
      go_wp2_with fail
      go_quiet (fail)
      go_wp2
      go_ret2
      exact ChkNew.no HP.out (below_drewN HB2.out _)
     ·
      have HP := Lib.hid (show ChkR img b cnt 0 l from Or.inr (Or.inr ⟨hcc, HR.out.1, HR.out.2, 0, _, HDE.out, Or.inr (Or.inr ⟨rfl, fun i hi => by have := HMX.out i hi; omega, rfl, rfl⟩)⟩))
      have hged : decide (cnt ≤ l[n].at_) = false := decide_eq_false hge
      clear HMX HMO
      generalize l[n] = x at *
      clear hcell hcs hint hge hn hl
      go_wp2_with fail
      go_quiet (fail)
      go_wp2
      go_ret2
      exact ⟨0, l, _, HP.out, rfl, HEV.out.below (below_drewN (Below.refl _ _) _), below_drewN HB2.out _⟩
   ·
    have hl0 := dec_err hdec hd
    subst hl0
    have HP := Lib.hid (show ChkR img b cnt d [] from Or.inr (Or.inr ⟨hcc, HR.out.1, HR.out.2, d, _, HDE.out, Or.inl ⟨hd, rfl, rfl⟩⟩))
    have hd1 : (d != 0) = true := by rw [bne_iff_ne]; exact hd
    clear hd hdec hev
    go_wp2
    go_ret2
    exact ChkNew.no HP.out HB2.out
  ·
   have HP := Lib.hid (show ChkR img b cnt 2 [] from Or.inr (Or.inl ⟨hcc, by omega, rfl, rfl⟩))
   go_wp2
   all_goals (go_ret2; exact ChkNew.no HP.out (HBA.out _))
 ·
  have HP := Lib.hid (show ChkR img b cnt nc [] from Or.inl ⟨by rw [hcc]; exact h0, hcc.symm, rfl⟩)
  have hd1 : (nc != 0) = true := by rw [bne_iff_ne]; exact h0
  clear h0
  go_wp2
  go_ret2
  exact ChkNew.no HP.out (HBA.out _)
end Go.Proofs.YtpdbcdfgonnnnaaDoor
namespace Go.Proofs.YtpdbcdfgonnnnaaDoor
open Go Go.RowKit Go.ChangeShapes Go.WideShapes Go.Deep
set_option linter.unusedVariables false
attribute [local go_sem ↓] Go.wp_at_zero Go.wp_at_succ
theorem imgM_ok {zs : List Int} (h : newC zs = 0) : MOk (imageM zs) ∧ newM zs = imageM zs := by
 by_cases h1 : 256 < zs.length
 · unfold newC at h; rw [if_pos h1] at h; cases h
 ·
  by_cases h2 : zs.any oddB = true
  · unfold newC at h; rw [if_neg h1, if_pos h2] at h; cases h
  ·
   refine ⟨⟨rfl, image_len _ (by omega), Nat.zero_le _, rfl, ?_, rfl, ?_, ?_, ?_, ?_, ?_, ?_, ?_⟩, by unfold newM; rw [if_neg h1, if_neg h2]⟩
   ·
    refine of_words (fun z hz => ?_)
    have hz' : z ∈ zs ++ List.replicate (256 - zs.length) (0 : Int) := hz
    rcases List.mem_append.1 hz' with hz | hz
    · exact words_of (by simpa using h2) z hz
    · rw [List.eq_of_mem_replicate hz]; unfold WordZ; omega
   all_goals (show _ ∧ _; simp [imageM])
theorem chk_good {img : List Int} {b : List UInt8} {cnt : Int} {l : List Ev} (h : ChkR img b cnt 0 l) : newC img = 0 ∧ 0 ≤ cnt ∧ cnt ≤ 3000 ∧ EvL l ∧ l.length ≤ 1000 ∧ ∀ (i : Nat) (h : i < l.length), l[i].at_ < cnt := by
 rcases h with ⟨h1, h2, _⟩ | ⟨_, _, h2, _⟩ | ⟨h1, h2, h3, d, m, hd, h⟩
 · exact absurd h2.symm h1
 · cases h2
 ·
  rcases h with ⟨h4, h5, _⟩ | ⟨_, _, h5, _⟩ | ⟨rfl, h5, _, rfl⟩
  · exact absurd h5.symm h4
  · cases h5
  ·
   have k := (dec_canon hd).2.ok
   exact ⟨h1, h2, h3, evl_of k.1, k.2, h5⟩
theorem mown_below {base : Nat} {w w' : World} {m : Mach} {vr vm vo : Value} (h : MachOwn base w m vr vm vo) (hb : Below w.heap.size w w') : MachOwn base w' m vr vm vo :=
 ⟨own_below h.hr hb (Nat.le_refl _), own_below h.hm hb (Nat.le_refl _), own_below h.ho hb (Nat.le_refl _), h.rm, h.ro, h.mo, h.mr, h.or, h.om⟩
end Go.Proofs.YtpdbcdfgonnnnaaDoor
