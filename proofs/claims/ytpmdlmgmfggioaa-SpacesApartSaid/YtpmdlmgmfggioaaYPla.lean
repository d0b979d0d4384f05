/- space.Play: a store beside the words, a fault told. No condition beyond the readings. -/
import Derived.Test.YtpmdlmgmfggioaaYFw
import Derived.Test.YtpmdlmgmfggioaaYSwc
import Derived.Test.YtpmdlmgmfggioaaYOp4
import Derived.Test.YtpmdlmgmfggioaaYHz
import Derived.Test.YtpmdlmgmfggioaaYHv
import Derived.Deep.LoopGhost
import Derived.Deep.CutBlock
import Derived.Deep.CutRange
namespace Go.Proofs.Ytpmdlmgmfggioaa
open Go Go.RowKit Go.ChangeShapes Go.WideShapes Go.Deep
set_option linter.unusedVariables false
attribute [local go_sem ↓] Go.wp_at_zero Go.wp_at_succ

theorem space_store_out (sb : Nat) (at_ v : Int) (w : World) (h : at_ < 0 ∨ 255 < at_) : Calls Try.prog 13 #[.pointer (some ⟨sb, 0, none⟩), .int .i64 at_, .int .i64 v] w fun e w' => e = .returned (.bool false) ∧ w' = w := by
  by_cases h0 : at_ < 0
  · clear h
    go_enter Try.func13, Try.ntmps13
    go_wp2
    go_ret
    exact ⟨rfl, rfl⟩
  · have h1 : (256 : Int) ≤ at_ := by omega
    clear h
    go_enter Try.func13, Try.ntmps13
    go_wp2
    all_goals first | (exfalso; omega; done) | skip
    go_ret
    exact ⟨rfl, rfl⟩
theorem space_fault {sb hb : Nat} {pg : List Int} {fl : Int} {w : World} (h : SpcS sb hb pg fl w) (hl : pg.length = 16) : Calls Try.prog 14 #[.pointer (some ⟨sb, 0, none⟩)] w fun e w' => e = .returned (.int .i64 (if fl = 0 then 2 else fl)) ∧ w' = w := by
  have c17 := spc_fault h hl
  have lsb := spc_lt h
  clear h hl
  by_cases h0 : fl = 0
  · subst h0
    go_enter Try.func14, Try.ntmps14
    go_wp2
    go_ret
    exact ⟨rfl, rfl⟩
  · have hne : (fl != 0) = true := bne_iff_ne.2 h0
    rw [if_neg h0]
    go_enter Try.func14, Try.ntmps14
    go_wp2
    all_goals first | (exfalso; omega; done) | skip
    go_ret
    exact ⟨rfl, rfl⟩
theorem SpS.on {sb hb N : Nat} {oth om : List (List Int)} {w w' : World} {F : Nat → Prop} {mem : List Int} {x : Bool} {rs : List (List Int)} {zs : List Int} {ad ar : Option Addr} {cd cr : Nat} {vs : List Value} {pg : List Int} (h : SpS sb hb N oth om w F mem x rs zs ad ar cd cr vs pg) (hb' : Below w.heap.size w w') : SpS sb hb N oth om w' F mem x rs zs ad ar cd cr vs pg := h.stay (fun g hg => hb'.block g (h.lt g hg))
theorem play1_out {N : Nat} {x v : Int} {l : List (Int × Int)} {a : List Int} {h : List Bool} {k : Nat} (hx : x < 0 ∨ 255 < x) : play1 N ((x, v) :: l) a h k = .inl 2 := by rw [play1, if_pos hx]
theorem play1_old {N : Nat} {p j : Nat} {v : Int} {l : List (Int × Int)} {a : List Int} {h : List Bool} {k : Nat} (hp : p < 16) (hj : j < 16) (hh : h.getD p false = true) : play1 N ((((16 * p + j : Nat) : Int), v) :: l) a h k = play1 N l (a.set (16 * p + j) v) h k := by
  rw [play1, if_neg (by omega), Int.toNat_natCast, put_page hj, if_pos hh]
theorem play1_new {N : Nat} {p j : Nat} {v : Int} {l : List (Int × Int)} {a : List Int} {h : List Bool} {k : Nat} (hp : p < 16) (hj : j < 16) (hh : h.getD p false = false) (hk : k ≠ N) : play1 N ((((16 * p + j : Nat) : Int), v) :: l) a h k = play1 N l (a.set (16 * p + j) v) (h.set p true) (k + 1) := by
  rw [play1, if_neg (by omega), Int.toNat_natCast, put_page hj, if_neg (by rw [hh]; decide), if_neg hk]
theorem play1_full {N : Nat} {p j : Nat} {v : Int} {l : List (Int × Int)} {a : List Int} {h : List Bool} {k : Nat} (hp : p < 16) (hj : j < 16) (hh : h.getD p false = false) (hk : k = N) : play1 N ((((16 * p + j : Nat) : Int), v) :: l) a h k = .inl 7 := by
  rw [play1, if_neg (by omega), Int.toNat_natCast, put_page hj, if_neg (by rw [hh]; decide), if_pos hk]
theorem sp_nhofp {w : World} {rs : List (List Int)} {zs : List Int} {ad ar : Option Addr} {cd cr : Nat} {vs : List Value} {N : Nat} {hb : Nat} {pg : List Int} {fl : Int} {sb : Nat} {sl : List (List Int)} (h : HoS hb N sl w rs zs ad ar cd cr vs) (hs : SpcS sb hb pg fl w) : ¬ HoF hb rs zs ad ar cd cr vs sb := by
  have hne : ∀ {cs : Array Value} {t : TypeId} {fr : Nat × Nat}, w.heap[sb]? = some (.cells cs t fr) → 58 ≠ t → False := fun hx ht => by
    have h1 : w.heap[sb]? = _ := hs
    rw [h1] at hx
    injection hx with hx; injection hx with hx1 hx2 hx3
    exact ht hx2
  have hrow : ∀ {e : TypeId} {v : Value} {n : Nat} {xs : List Value} {b : Nat}, w.ownsRow b e 1 v n xs → 58 ≠ e → v.ownBlock = some sb → False := fun ho he hv => by
    rcases ho.2 with ⟨h1, h2⟩ | ⟨g2, cap, cur, h1, h2, h3, r⟩
    · rw [h1] at hv; cases hv
    · rw [h1] at hv; injection hv with hv; subst hv
      exact hne h3 he
  rintro (rfl | hv | hv | ⟨v, hv, hg2⟩)
  · exact hne h.host.box (by decide)
  · exact hrow h.host.own.d (by decide) hv
  · exact hrow h.host.own.r (by decide) hv
  · obtain ⟨j, hj, rfl⟩ := List.getElem_of_mem hv
    have := (h.host.own.rows j (by rw [← h.host.own.len]; exact hj)).1
    rw [getD_of hj] at this
    exact hrow this (by decide) hg2
/-- A store into one of two spaces: the other one stays. -/
theorem store_two {sb nb hb N lo p j : Nat} {W : World} {rs : List (List Int)} {zs : List Int} {ad ar : Option Addr} {cd cr : Nat} {vs : List Value} {pa pb : List Int} {v : Int} (hh : HoS hb N [pa, pb] W rs zs ad ar cd cr vs) (ha : SpcS sb hb pa 0 W) (hb' : SpcS nb hb pb 0 W) (hne : sb ≠ nb) (hlo : lo ≤ W.heap.size) (hF : ∀ g, HoF hb rs zs ad ar cd cr vs g → lo ≤ g) (hsb : lo ≤ sb) (hp : p < 16) (hj : j < 16) (hv : I64 v) : Calls Try.prog 13 #[.pointer (some ⟨sb, 0, none⟩), .int .i64 ((16 * p + j : Nat) : Int), .int .i64 v] W fun e w' => Below lo W w' ∧ ((e = .returned (.bool true) ∧ ∃ rs' zs' ad' ar' cd' cr' vs' pa', StR rs zs pa p j v rs' zs' pa' ∧ HoS hb N [pa', pb] w' rs' zs' ad' ar' cd' cr' vs' ∧ SpcS sb hb pa' 0 w' ∧ SpcS nb hb pb 0 w' ∧ ∀ g, HoF hb rs' zs' ad' ar' cd' cr' vs' g → lo ≤ g) ∨ (e = .returned (.bool false) ∧ NoR zs pa p ∧ SpcS sb hb pa 7 w')) := by
  have hF' : ∀ g, (g = sb ∨ HoF hb rs zs ad ar cd cr vs g) → lo ≤ g := fun g hg => hg.elim (fun e => e ▸ hsb) (hF g)
  have hnF : ¬ (nb = sb ∨ HoF hb rs zs ad ar cd cr vs nb) := fun q => q.elim (fun e => hne e.symm) (sp_nhofp hh hb')
  refine (space_store_any (hh.sp ha) hp hj hv).mono ?_
  rintro e w' ⟨hof, F', hF2, ⟨rfl, rs', zs', ad', ar', cd', cr', vs', pa', hst, hss⟩ | ⟨rfl, hno, ad', ar', cd', cr', vs', hss⟩⟩
  · refine ⟨hof.below hF' hlo, Or.inl ⟨rfl, rs', zs', ad', ar', cd', cr', vs', pa', hst, hss.hos, by have := hss.sp; rwa [if_neg (by decide)] at this, hof.at hb' hnF, fun g hg => ?_⟩⟩
    refine (hF2 g (by rw [hss.blk]; exact Or.inr (by rcases hg with q | q; exact Or.inl q; exact Or.inr q))).elim (hF' g) (fun q => Nat.le_trans hlo q)
  · exact ⟨hof.below hF' hlo, Or.inr ⟨rfl, hno, by have := hss.sp; rwa [if_pos rfl] at this⟩⟩
theorem HoS.turn {hb N : Nat} {W : World} {rs : List (List Int)} {zs : List Int} {ad ar : Option Addr} {cd cr : Nat} {vs : List Value} {pa pb : List Int} (h : HoS hb N [pa, pb] W rs zs ad ar cd cr vs) : HoS hb N [pb, pa] W rs zs ad ar cd cr vs := ⟨h.host, h.ok.perm (List.Perm.swap _ _ _), h.n⟩
theorem play2_out {N : Nat} {x v z : Int} {l : List (Int × Int × Int)} {s : P2S} (hx : x < 0 ∨ 255 < x) : play2 N ((x, v, z) :: l) s = .inl 2 := by rw [play2, if_pos hx]
theorem play2_old {N p j : Nat} {v z : Int} {l : List (Int × Int × Int)} {s : P2S} (hp : p < 16) (hj : j < 16) (hw : s.wants (decide (z ≠ 0)) p = false) : play2 N ((((16 * p + j : Nat) : Int), v, z) :: l) s = play2 N l (s.put (decide (z ≠ 0)) (16 * p + j) v false) := by
  rw [play2, if_neg (by omega), Int.toNat_natCast, put_page hj, if_neg (by rw [hw]; decide)]
theorem play2_new {N p j : Nat} {v z : Int} {l : List (Int × Int × Int)} {s : P2S} (hp : p < 16) (hj : j < 16) (hw : s.wants (decide (z ≠ 0)) p = true) (hk : s.k ≠ N) : play2 N ((((16 * p + j : Nat) : Int), v, z) :: l) s = play2 N l (s.put (decide (z ≠ 0)) (16 * p + j) v true) := by
  rw [play2, if_neg (by omega), Int.toNat_natCast, put_page hj, if_pos hw, if_neg hk]
theorem play2_full {N p j : Nat} {v z : Int} {l : List (Int × Int × Int)} {s : P2S} (hp : p < 16) (hj : j < 16) (hw : s.wants (decide (z ≠ 0)) p = true) (hk : s.k = N) : play2 N ((((16 * p + j : Nat) : Int), v, z) :: l) s = .inl 7 := by
  rw [play2, if_neg (by omega), Int.toNat_natCast, put_page hj, if_pos hw, if_pos hk]
theorem k0_take {zs : List Int} {i : Nat} (h : i < zs.length) : K0 (zs.take (i + 1)) = K0 (zs.take i) + if 0 < zs[i] then 1 else 0 := by
  unfold K0
  rw [List.take_succ_eq_append_getElem h, List.countP_append]
  congr 1
  by_cases q : 0 < zs[i] <;> simp [q]
theorem memP_i64 {rs : List (List Int)} {pg : List Int} (h : ∀ row ∈ rs, ∀ z ∈ row, I64 z) : ∀ z ∈ memP rs pg, I64 z := by
  intro z hz
  unfold memP at hz
  obtain ⟨k, _, rfl⟩ := List.mem_map.1 hz
  have h0 : I64 0 := by unfold I64; omega
  unfold pgW
  split
  · exact h0
  · generalize (pg.getD (k / 16) (-1)).toNat = q
    rw [List.getD_eq_getElem?_getD]
    cases e : (rs.getD q [])[k % 16]? with
    | none => exact h0
    | some y =>
      refine h (rs.getD q []) ?_ y (List.mem_of_getElem? e)
      by_cases hq : q < rs.length
      · rw [getD_of hq]; exact List.getElem_mem _
      · have e2 : rs.getD q [] = [] := by rw [List.getD_eq_getElem?_getD, List.getElem?_eq_none (by omega)]; rfl
        rw [e2] at e
        cases e
/-- What a play answers. -/
def PlayO (n : Int) (first : List (Int × Int)) (writes : List (Int × Int × Int)) : List Int × List Int × Int × Int :=
  if n < 0 ∨ 200 < n then ([], [], 0, 2)
  else match play1 n.toNat first (List.replicate 256 0) (List.replicate 16 false) 0 with
    | .inl e => ([], [], 0, e)
    | .inr (a, h, k) => match play2 n.toNat writes { a := a, b := a, sh := h, oa := List.replicate 16 false, ob := List.replicate 16 false, k := k } with
      | .inl e => ([], [], 0, e)
      | .inr s => (s.a, s.b, s.k, 0)
def PlayPost (o : List Int × List Int × Int × Int) (w : World) (e : Ending) (w' : World) : Prop := ∃ vx vy, e = .returned (.tuple #[vx, vy, .int .i64 o.2.2.1, .int .i64 o.2.2.2]) ∧ Ints w'.heap.size w' vx o.1 ∧ Ints w'.heap.size w' vy o.2.1 ∧ Below w.heap.size w w'
theorem PlayPost.no {w w' : World} {c : Int} (hb : Below w.heap.size w w') : PlayPost ([], [], 0, c) w (.returned (.tuple #[.slice none 0 0, .slice none 0 0, .int .i64 0, .int .i64 c])) w' := ⟨_, _, rfl, Ints.nil _ _, Ints.nil _ _, hb⟩
set_option maxHeartbeats 8000000 in
set_option maxRecDepth 100000 in
theorem play_any (n : Int) (v1 v2 : Value) (first : List (Int × Int)) (writes : List (Int × Int × Int)) (w : World) (hn : I64 n) (h1 : P2R w.heap.size w v1 first) (h2 : P3R w.heap.size w v2 writes) : Calls Try.prog 5 #[.int .i64 n, v1, v2] w (PlayPost (PlayO n first writes) w) := by
  have H1 := Lib.hid h1
  have H2 := Lib.hid h2
  obtain ⟨af, cf, rfl, lf1, lf2, hcf⟩ := id h1
  obtain ⟨aw, cw, rfl, lw1, lw2, hcw⟩ := id h2
  have HCF := Lib.hid hcf
  have HCW := Lib.hid hcw
  clear hcf hcw h1 h2
  by_cases hr : n < 0 ∨ 200 < n
  · have e0 : PlayO n first writes = ([], [], 0, 2) := by unfold PlayO; rw [if_pos hr]
    rw [e0]
    have HN := Lib.hid (new_out n w hr)
    clear e0 hr
    go_enter Try.func5, Try.ntmps5
    go_wp2_with fail
    refine HN.out.mono ?_
    rintro e w1 ⟨v, rfl, ⟨vd, vr, rfl, hd, hr2⟩, hb1⟩
    obtain ⟨ad, cd, rfl, _⟩ := hd
    obtain ⟨ar, cr, rfl, _⟩ := hr2
    have HB1 := Lib.hid hb1
    have HBA := Lib.hid (fun O => hb1.alloc hb1.size O)
    clear hb1
    go_wp2_with fail
    refine bodyPost_ret (v := .tuple #[.slice none 0 0, .slice none 0 0, .int .i64 0, .int .i64 2]) (by simp [results, Try.results5, go_sem]) rfl (PlayPost.no (HBA.out _))
  · have HN := Lib.hid (fnew_own n w (by omega))
    go_enter Try.func5, Try.ntmps5
    go_wp2_with fail
    refine HN.out.mono ?_
    rintro e w1 ⟨ad, cd, ar, cr, rfl, hfo, hb1⟩
    have HFO := Lib.hid hfo
    have HB1 := Lib.hid hb1
    clear hfo hb1
    go_upto_region 5 with fail
    obtain ⟨N, rfl⟩ : ∃ N : Nat, n = N := ⟨n.toNat, by omega⟩
    simp only [Int.toNat_natCast] at HFO ⊢
    have hN : N ≤ 200 := by omega
    have e0 : PlayO N first writes = (match play1 N first (List.replicate 256 0) (List.replicate 16 false) 0 with
      | .inl e => ([], [], 0, e)
      | .inr (a, h, k) => match play2 N writes { a := a, b := a, sh := h, oa := List.replicate 16 false, ob := List.replicate 16 false, k := k } with
        | .inl e => ([], [], 0, e)
        | .inr s => (s.a, s.b, s.k, 0)) := by unfold PlayO; rw [if_neg hr]; rfl
    generalize PlayO N first writes = o at *
    have HO := Lib.hid e0
    have HBX := Lib.hid (below_alloc2 w1 (.cells #[.slice ad N cd, .slice ar N cr] 40 (0, 0)) (.cells #[.slice ad N cd, .slice ar N cr] 45 (0, 0)))
    have HXH := Lib.hid (show ((w1.alloc (.cells #[.slice ad N cd, .slice ar N cr] 40 (0, 0))).alloc (.cells #[.slice ad N cd, .slice ar N cr] 45 (0, 0))).heap[w1.heap.size + 1]? = some (.cells #[.slice ad N cd, .slice ar N cr] 45 (0, 0)) from alloc_at (by simp))
    generalize (w1.alloc (.cells #[.slice ad N cd, .slice ar N cr] 40 (0, 0))).alloc (.cells #[.slice ad N cd, .slice ar N cr] 45 (0, 0)) = w2 at *
    have hwle : w.heap.size ≤ w1.heap.size := HB1.out.size
    obtain ⟨hb, hhb⟩ : ∃ g, g = w1.heap.size + 1 := ⟨_, rfl⟩
    rw [← hhb] at HXH ⊢
    have hbw : w.heap.size ≤ hb := by omega
    clear hhb e0 hr HN
    have HB2 := Lib.hid (HB1.out.trans (HBX.out.mono HB1.out.size))
    have HFO2 := Lib.hid (frown_below HFO.out HBX.out)
    have HSN := Lib.hid (space_new hb w2)
    go_wp2_with fail
    refine HSN.out.mono ?_
    rintro e w3 ⟨sb, rfl, hb3, hsp, hsb⟩
    have HB3 := Lib.hid (HB2.out.trans (hb3.mono HB2.out.size))
    have HFO3 := Lib.hid (frown_below HFO2.out hb3)
    have HXH3 := Lib.hid (block_below hb3 HXH.out (Array.getElem?_eq_some_iff.1 HXH.out).1)
    have HSP := Lib.hid hsp
    have hwle2 : w.heap.size ≤ sb := Nat.le_trans HB2.out.size hsb
    have HHO : Hid (HoS hb N [List.replicate 16 (-1)] w3 (List.replicate N []) (List.replicate N 0) ad ar cd cr (List.replicate N (.slice none 0 0))) := Lib.hid ⟨⟨by simpa using HXH3.out, by simpa using (HFO3.out.base (Nat.zero_le _))⟩, (hok0 N hN).fresh, by simp⟩
    have HSS := Lib.hid (HHO.out.sp HSP.out)
    have HI1 := Lib.hid (In1.start HHO.out.ok HHO.out.n)
    rw [← HI1.out.mem] at HSS
    have HFG : Hid (∀ g, (g = sb ∨ HoF hb (List.replicate N []) (List.replicate N 0) ad ar cd cr (List.replicate N (.slice none 0 0)) g) → w.heap.size ≤ g) := Lib.hid (by
      rintro g (rfl | rfl | hg)
      · exact hwle2
      · exact hbw
      · exact (HFO3.out.frlt g (by simpa using hg)).1)
    clear hsp hb3 HSP HHO HXH HXH3 HFO HFO2 HFO3 HB2 HBX HB1 HSN
    go_wp2_with fail
    go_loopg [15, 40] first.length (fun gh _ s40 wr => ∃ (i : Nat) (rs : List (List Int)) (zs : List Int) (ad ar : Option Addr) (cd cr : Nat) (vs : List Value) (pg : List Int) (F : Nat → Prop) (a : List Int) (h : List Bool) (k : Nat), i ≤ first.length ∧ first.length - i ≤ gh ∧ s40 = .int .i64 i ∧ Hid (SpS sb hb N [] [] wr F a false rs zs ad ar cd cr vs pg) ∧ Hid (In1 N rs zs pg a h k) ∧ Hid (∀ g, F g → w.heap.size ≤ g) ∧ Hid (Below w.heap.size w wr) ∧ Hid (play1 N first (List.replicate 256 0) (List.replicate 16 false) 0 = play1 N (first.drop i) a h k))
    case atStart => exact ⟨0, _, _, _, _, _, _, _, _, _, _, _, _, Nat.zero_le _, by omega, rfl, HSS, HI1, HFG, HB3, Lib.hid rfl⟩
    case round =>
      clear HSS HI1 HFG HB3
      obtain ⟨i, rs, zs, ad, ar, cd, cr, vs, pg, F, a, h, k, hi, hgh, rfl, HS, HI, HF, HB, HP⟩ := hrel
      by_cases hlt : i < first.length
      · obtain ⟨b, off, cs, rfl, hbb, hcs, hcell, rfl, x1, x2⟩ := HCF.out i hlt
        have r0 : wr.cell? ⟨b, off + i * 2, none⟩ = some (.int .i64 first[i].1) := (same_below HB.out b _ hbb).trans (hcell 0 (by simp))
        have r1 : wr.cell? ⟨b, off + i * 2 + 1, none⟩ = some (.int .i64 first[i].2) := (same_below HB.out b _ hbb).trans (hcell 1 (by simp))
        have HDR := Lib.hid (List.drop_eq_getElem_cons hlt)
        have hk1 : (i : Int) < (first.length : Int) := by omega
        clear hcell hcs
        generalize first[i] = x at *
        obtain ⟨at_, v⟩ := x
        simp only at r0 r1 x1 x2 HDR
        have HBA := Lib.hid (below_alloc wr (.cells #[.int .i64 at_, .int .i64 v] 34 (0, 0)))
        have HSA := Lib.hid (HS.out.on HBA.out)
        have HBW := Lib.hid (HB.out.trans (HBA.out.mono HB.out.size))
        by_cases hout : at_ < 0 ∨ 255 < at_
        · have HST := Lib.hid (fun w => space_store_out sb at_ v w hout)
          have HFT := Lib.hid (space_fault HSA.out.sp HSA.out.len)
          have HE := Lib.hid (show o = ([], [], 0, 2) from by rw [HO.out, HP.out, HDR.out, play1_out hout])
          clear hout
          go_wp2_with fail
          refine (HST.out _).mono ?_
          rintro e w5 ⟨rfl, rfl⟩
          go_wp2_with fail
          refine HFT.out.mono ?_
          rintro e w6 ⟨rfl, rfl⟩
          go_wp2_with fail
          refine bodyPost_ret (v := .tuple #[.slice none 0 0, .slice none 0 0, .int .i64 0, .int .i64 2]) (by simp [results, Try.results5, go_sem]) rfl (by rw [HE.out]; exact PlayPost.no HBW.out)
        · obtain ⟨p, j, hp, hj, rfl⟩ : ∃ p j : Nat, p < 16 ∧ j < 16 ∧ at_ = ((16 * p + j : Nat) : Int) := ⟨at_.toNat / 16, at_.toNat % 16, by omega, by omega, by omega⟩
          have HST := Lib.hid (space_store_any HSA.out hp hj x2)
          go_wp2_with fail
          refine HST.out.mono ?_
          rintro e w5 ⟨hof, F5, hF5, ⟨rfl, rs5, zs5, ad5, ar5, cd5, cr5, vs5, pg5, hst, hss⟩ | ⟨rfl, hno, ad5, ar5, cd5, cr5, vs5, hss⟩⟩
          · have HB5 := Lib.hid (HBW.out.trans (hof.below (B := w.heap.size) HF.out HBW.out.size))
            have HF5 := Lib.hid (show ∀ g, F5 g → w.heap.size ≤ g from fun g hg => (hF5 g hg).elim (HF.out g) (fun q => Nat.le_trans HBW.out.size q))
            have HSS5 := Lib.hid hss
            have HR5 := Lib.hid hst
            clear hof hF5 hst hss
            cases hh : h.getD p false with
            | true =>
              have HI5 := Lib.hid (HI.out.yes hp hj x2 HR5.out hh)
              have HP5 := Lib.hid (HP.out.trans (by rw [HDR.out, play1_old hp hj hh]))
              clear hh
              go_wp2_with fail
              go_roundg (first.length - (i + 1))
              case measure => omega
              case rel => exact ⟨i + 1, _, _, _, _, _, _, _, _, _, _, _, _, by omega, by omega, by go_num, HSS5, HI5, HF5, HB5, HP5⟩
            | false =>
              have HI5 := Lib.hid (HI.out.new hp hj x2 HR5.out hh)
              have HP5 := Lib.hid (HP.out.trans (by rw [HDR.out, play1_new hp hj hh HI5.out.2]))
              clear hh
              go_wp2_with fail
              go_roundg (first.length - (i + 1))
              case measure => omega
              case rel => exact ⟨i + 1, _, _, _, _, _, _, _, _, _, _, _, _, by omega, by omega, by go_num, HSS5, Lib.hid HI5.out.1, HF5, HB5, HP5⟩
          · have HB5 := Lib.hid (HBW.out.trans (hof.below (B := w.heap.size) HF.out HBW.out.size))
            have HSS5 := Lib.hid hss
            obtain ⟨n1, n2⟩ := HI.out.no hp hno
            have HE := Lib.hid (show o = ([], [], 0, 7) from by rw [HO.out, HP.out, HDR.out, play1_full hp hj n1 n2])
            have HFT := Lib.hid (space_fault HSS5.out.sp HSS5.out.len)
            rw [if_pos rfl] at HFT
            clear hof hF5 hno hss n1 n2
            go_wp2_with fail
            refine HFT.out.mono ?_
            rintro e w6 ⟨rfl, rfl⟩
            go_wp2_with fail
            refine bodyPost_ret (v := .tuple #[.slice none 0 0, .slice none 0 0, .int .i64 0, .int .i64 7]) (by simp [results, Try.results5, go_sem]) rfl (by rw [HE.out]; exact PlayPost.no HB5.out)
      · have HPE := Lib.hid (show play1 N first (List.replicate 256 0) (List.replicate 16 false) 0 = .inr (a, h, k) from by rw [HP.out, List.drop_eq_nil_of_le (by omega)]; rfl)
        have HHO := Lib.hid HS.out.hos
        have HSC := Lib.hid (show SpcS sb hb pg 0 wr from by have := HS.out.sp; rwa [if_neg (by decide)] at this)
        have HFK := Lib.hid (space_fork HHO.out (List.mem_singleton.2 rfl) (by simp) HSC.out)
        have HFB := Lib.hid (show ∀ g, HoF hb rs zs ad ar cd cr vs g → w.heap.size ≤ g from fun g hg => HF.out g (by rw [HS.out.blk]; exact Or.inr (by rcases hg with q | q; exact Or.inl q; exact Or.inr q)))
        clear HP HCF
        go_wp2_with fail
        refine HFK.out.mono ?_
        rintro e w5 ⟨nb, rfl, zs5, ad5, ar5, cd5, cr5, vs5, hho5, hof5, hsi5, hsp5, hnb⟩
        have HIN := Lib.hid (HI.out.fork hho5.ok hho5.n)
        have HSA5 := Lib.hid (show SpcS sb hb pg 0 w5 from hof5.at HSC.out (sp_nhofp HHO.out HSC.out))
        have HSB5 := Lib.hid hsp5
        have HHO5 := Lib.hid hho5
        have HB5 := Lib.hid (HB.out.trans (hof5.below (B := w.heap.size) HFB.out HB.out.size))
        have HFB5 := Lib.hid (show ∀ g, HoF hb rs zs5 ad5 ar5 cd5 cr5 vs5 g → w.heap.size ≤ g from fun g hg => hg.elim (fun e => e ▸ hbw) (fun q => (hsi5 g q).elim (HFB.out g) (fun q => Nat.le_trans HB.out.size q)))
        have hne : sb ≠ nb := by have := spc_lt HSC.out; omega
        have HNB := Lib.hid (Nat.le_trans HB.out.size hnb)
        obtain ⟨s0, hs0⟩ : ∃ s0 : P2S, s0 = { a := a, b := a, sh := h, oa := List.replicate 16 false, ob := List.replicate 16 false, k := k } := ⟨_, rfl⟩
        rw [← hs0] at HIN
        have HO2 := Lib.hid (show o = (match play2 N writes s0 with
          | .inl e => ([], [], 0, e)
          | .inr s => (s.a, s.b, s.k, 0)) from by rw [HO.out, HPE.out, hs0])
        clear hho5 hof5 hsi5 hsp5 HHO HSC HFK HFB HS HI HF HB HPE hs0 hnb HO
        go_wp2_with fail
        go_loopg [18, 19, 64] writes.length (fun gh _ _ s64 wr => ∃ (i : Nat) (rs : List (List Int)) (zs : List Int) (ad ar : Option Addr) (cd cr : Nat) (vs : List Value) (pa pb : List Int) (s : P2S), i ≤ writes.length ∧ writes.length - i ≤ gh ∧ s64 = .int .i64 i ∧ Hid (HoS hb N [pa, pb] wr rs zs ad ar cd cr vs) ∧ Hid (SpcS sb hb pa 0 wr) ∧ Hid (SpcS nb hb pb 0 wr) ∧ Hid (In2 N rs zs pa pb s) ∧ Hid (∀ g, HoF hb rs zs ad ar cd cr vs g → w.heap.size ≤ g) ∧ Hid (Below w.heap.size w wr) ∧ Hid (play2 N writes s0 = play2 N (writes.drop i) s))
        case atStart => exact ⟨0, _, _, _, _, _, _, _, _, _, _, Nat.zero_le _, by omega, rfl, HHO5, HSA5, HSB5, HIN, HFB5, HB5, Lib.hid rfl⟩
        case round =>
          clear HHO5 HSA5 HSB5 HIN HFB5 HB5
          obtain ⟨i, rs, zs, ad, ar, cd, cr, vs, pa, pb, s, hi, hgh, rfl, HHO, HSA, HSB, HI, HF, HB, HP⟩ := hrel
          by_cases hlt : i < writes.length
          · obtain ⟨b, off, cs, rfl, hbb, hcs, hcell, rfl, x1, x2, x3⟩ := HCW.out i hlt
            have r0 : wr.cell? ⟨b, off + i * 3, none⟩ = some (.int .i64 writes[i].1) := (same_below HB.out b _ hbb).trans (hcell 0 (by simp))
            have r1 : wr.cell? ⟨b, off + i * 3 + 1, none⟩ = some (.int .i64 writes[i].2.1) := (same_below HB.out b _ hbb).trans (hcell 1 (by simp))
            have r2 : wr.cell? ⟨b, off + i * 3 + 2, none⟩ = some (.int .i64 writes[i].2.2) := (same_below HB.out b _ hbb).trans (hcell 2 (by simp))
            have HDR := Lib.hid (List.drop_eq_getElem_cons hlt)
            have hk1 : (i : Int) < (writes.length : Int) := by omega
            clear hcell hcs
            generalize writes[i] = x at *
            obtain ⟨at_, v, z⟩ := x
            simp only at r0 r1 r2 x1 x2 x3 HDR
            have HBA := Lib.hid (below_alloc wr (.cells #[.int .i64 at_, .int .i64 v, .int .i64 z] 36 (0, 0)))
            have HHA := Lib.hid (HHO.out.stay (fun g hg => HBA.out.block g (HHO.out.lt g hg)))
            have HAA := Lib.hid (show SpcS sb hb pa 0 _ from block_below HBA.out HSA.out (spc_lt HSA.out))
            have HAB := Lib.hid (show SpcS nb hb pb 0 _ from block_below HBA.out HSB.out (spc_lt HSB.out))
            have HBW := Lib.hid (HB.out.trans (HBA.out.mono HB.out.size))
            have HLA := Lib.hid (HHO.out.ok.len pa (List.mem_cons_self ..))
            have HLB := Lib.hid (HHO.out.ok.len pb (by simp))
            by_cases hz : z = 0
            · subst hz
              have dz : decide ((0 : Int) ≠ 0) = false := by decide
              by_cases hout : at_ < 0 ∨ 255 < at_
              · have HST := Lib.hid (fun w => space_store_out sb at_ v w hout)
                have HFT := Lib.hid (space_fault HAA.out HLA.out)
                have HE := Lib.hid (show o = ([], [], 0, 2) from by rw [HO2.out, HP.out, HDR.out, play2_out hout])
                clear hout
                go_wp2_with fail
                refine (HST.out _).mono ?_
                rintro e w5 ⟨rfl, rfl⟩
                go_wp2_with fail
                refine HFT.out.mono ?_
                rintro e w6 ⟨rfl, rfl⟩
                go_wp2_with fail
                refine bodyPost_ret (v := .tuple #[.slice none 0 0, .slice none 0 0, .int .i64 0, .int .i64 2]) (by simp [results, Try.results5, go_sem]) rfl (by rw [HE.out]; exact PlayPost.no HBW.out)
              · obtain ⟨p, j, hp, hj, rfl⟩ : ∃ p j : Nat, p < 16 ∧ j < 16 ∧ at_ = ((16 * p + j : Nat) : Int) := ⟨at_.toNat / 16, at_.toNat % 16, by omega, by omega, by omega⟩
                have HST := Lib.hid (store_two HHA.out HAA.out HAB.out hne HBW.out.size HF.out hwle2 hp hj x2)
                clear hout
                go_wp2_with fail
                refine HST.out.mono ?_
                rintro e w5 ⟨hbl, ⟨rfl, rs5, zs5, ad5, ar5, cd5, cr5, vs5, pg5, hst, hh5, ha5, hb5, hf5⟩ | ⟨rfl, hno, ha5⟩⟩
                · have HB5 := Lib.hid (HBW.out.trans hbl)
                  have HH5 := Lib.hid hh5
                  have HA5 := Lib.hid ha5
                  have HB6 := Lib.hid hb5
                  have HF5 := Lib.hid hf5
                  have HR5 := Lib.hid hst
                  clear hbl hst hh5 ha5 hb5 hf5
                  cases hw : s.wants false p with
                  | false =>
                    have HI5 := Lib.hid (HI.out.yes hp hj x2 HR5.out hw)
                    have HP5 := Lib.hid (HP.out.trans (by rw [HDR.out, play2_old hp hj (by rw [dz]; exact hw), dz]))
                    clear hw
                    go_wp2_with fail
                    go_roundg (writes.length - (i + 1))
                    case measure => omega
                    case rel => exact ⟨i + 1, _, _, _, _, _, _, _, _, _, _, by omega, by omega, by go_num, HH5, HA5, HB6, HI5, HF5, HB5, HP5⟩
                  | true =>
                    have HI5 := Lib.hid (HI.out.new hp hj x2 HR5.out hw)
                    have HP5 := Lib.hid (HP.out.trans (by rw [HDR.out, play2_new hp hj (by rw [dz]; exact hw) HI5.out.2, dz]))
                    clear hw
                    go_wp2_with fail
                    go_roundg (writes.length - (i + 1))
                    case measure => omega
                    case rel => exact ⟨i + 1, _, _, _, _, _, _, _, _, _, _, by omega, by omega, by go_num, HH5, HA5, HB6, Lib.hid HI5.out.1, HF5, HB5, HP5⟩
                · have HB5 := Lib.hid (HBW.out.trans hbl)
                  obtain ⟨n1, n2⟩ := HI.out.no hp hno
                  have HE := Lib.hid (show o = ([], [], 0, 7) from by rw [HO2.out, HP.out, HDR.out, play2_full hp hj (by rw [dz]; exact n1) n2])
                  have HFT := Lib.hid (space_fault ha5 HLA.out)
                  rw [if_neg (by decide)] at HFT
                  clear hbl hno ha5 n1 n2
                  go_wp2_with fail
                  refine HFT.out.mono ?_
                  rintro e w6 ⟨rfl, rfl⟩
                  go_wp2_with fail
                  refine bodyPost_ret (v := .tuple #[.slice none 0 0, .slice none 0 0, .int .i64 0, .int .i64 7]) (by simp [results, Try.results5, go_sem]) rfl (by rw [HE.out]; exact PlayPost.no HB5.out)
            · have dz : decide (z ≠ 0) = true := decide_eq_true hz
              have ez : (z != 0) = true := bne_iff_ne.2 hz
              by_cases hout : at_ < 0 ∨ 255 < at_
              · have HST := Lib.hid (fun w => space_store_out nb at_ v w hout)
                have HFT := Lib.hid (space_fault HAB.out HLB.out)
                have HE := Lib.hid (show o = ([], [], 0, 2) from by rw [HO2.out, HP.out, HDR.out, play2_out hout])
                clear hout
                go_wp2_with fail
                refine (HST.out _).mono ?_
                rintro e w5 ⟨rfl, rfl⟩
                go_wp2_with fail
                refine HFT.out.mono ?_
                rintro e w6 ⟨rfl, rfl⟩
                go_wp2_with fail
                refine bodyPost_ret (v := .tuple #[.slice none 0 0, .slice none 0 0, .int .i64 0, .int .i64 2]) (by simp [results, Try.results5, go_sem]) rfl (by rw [HE.out]; exact PlayPost.no HBW.out)
              · obtain ⟨p, j, hp, hj, rfl⟩ : ∃ p j : Nat, p < 16 ∧ j < 16 ∧ at_ = ((16 * p + j : Nat) : Int) := ⟨at_.toNat / 16, at_.toNat % 16, by omega, by omega, by omega⟩
                have HST := Lib.hid (store_two HHA.out.turn HAB.out HAA.out hne.symm HBW.out.size HF.out HNB.out hp hj x2)
                clear hout
                go_wp2_with fail
                refine HST.out.mono ?_
                rintro e w5 ⟨hbl, ⟨rfl, rs5, zs5, ad5, ar5, cd5, cr5, vs5, pg5, hst, hh5, ha5, hb5, hf5⟩ | ⟨rfl, hno, ha5⟩⟩
                · have HB5 := Lib.hid (HBW.out.trans hbl)
                  have HH5 := Lib.hid hh5.turn
                  have HA5 := Lib.hid hb5
                  have HB6 := Lib.hid ha5
                  have HF5 := Lib.hid hf5
                  have HR5 := Lib.hid hst
                  clear hbl hst hh5 ha5 hb5 hf5
                  cases hw : s.wants true p with
                  | false =>
                    have HI5 := Lib.hid (HI.out.yes2 hp hj x2 HR5.out hw)
                    have HP5 := Lib.hid (HP.out.trans (by rw [HDR.out, play2_old hp hj (by rw [dz]; exact hw), dz]))
                    clear hw
                    go_wp2_with fail
                    go_roundg (writes.length - (i + 1))
                    case measure => omega
                    case rel => exact ⟨i + 1, _, _, _, _, _, _, _, _, _, _, by omega, by omega, by go_num, HH5, HA5, HB6, HI5, HF5, HB5, HP5⟩
                  | true =>
                    have HI5 := Lib.hid (HI.out.new2 hp hj x2 HR5.out hw)
                    have HP5 := Lib.hid (HP.out.trans (by rw [HDR.out, play2_new hp hj (by rw [dz]; exact hw) HI5.out.2, dz]))
                    clear hw
                    go_wp2_with fail
                    go_roundg (writes.length - (i + 1))
                    case measure => omega
                    case rel => exact ⟨i + 1, _, _, _, _, _, _, _, _, _, _, by omega, by omega, by go_num, HH5, HA5, HB6, Lib.hid HI5.out.1, HF5, HB5, HP5⟩
                · have HB5 := Lib.hid (HBW.out.trans hbl)
                  obtain ⟨n1, n2⟩ := HI.out.no2 hp hno
                  have HE := Lib.hid (show o = ([], [], 0, 7) from by rw [HO2.out, HP.out, HDR.out, play2_full hp hj (by rw [dz]; exact n1) n2])
                  have HFT := Lib.hid (space_fault ha5 HLB.out)
                  rw [if_neg (by decide)] at HFT
                  clear hbl hno ha5 n1 n2
                  go_wp2_with fail
                  refine HFT.out.mono ?_
                  rintro e w6 ⟨rfl, rfl⟩
                  go_wp2_with fail
                  refine bodyPost_ret (v := .tuple #[.slice none 0 0, .slice none 0 0, .int .i64 0, .int .i64 7]) (by simp [results, Try.results5, go_sem]) rfl (by rw [HE.out]; exact PlayPost.no HB5.out)
          · have HPE := Lib.hid (show play2 N writes s0 = .inr s from by rw [HP.out, List.drop_eq_nil_of_le (by omega)]; rfl)
            have HE := Lib.hid (show o = (s.a, s.b, (s.k : Int), 0) from by rw [HO2.out, HPE.out])
            have HW1 := Lib.hid (space_words ⟨_, _, _, _, _, _, _, _, HHO.out.sp HSA.out⟩)
            have HMA := Lib.hid HI.out.ma
            have HMB := Lib.hid HI.out.mb
            have HKN := Lib.hid HI.out.known
            go_wp2_with fail
            refine HW1.out.mono ?_
            rintro e w5 ⟨xa, xc, rfl, ho5, hb5⟩
            have HO5 := Lib.hid ho5
            have HHO5 := Lib.hid (HHO.out.stay (fun g hg => hb5.block g (HHO.out.lt g hg)))
            have HSB5 := Lib.hid (show SpcS nb hb pb 0 w5 from block_below hb5 HSB.out (spc_lt HSB.out))
            have HB5 := Lib.hid (HB.out.trans (hb5.mono HB.out.size))
            have HW2 := Lib.hid (space_words ⟨_, _, _, _, _, _, _, _, HHO5.out.turn.sp HSB5.out⟩)
            clear ho5 hb5 HW1
            go_wp2_with fail
            refine HW2.out.mono ?_
            rintro e w6 ⟨ya, yc, rfl, ho6, hb6⟩
            have HO6 := Lib.hid ho6
            have HX6 := Lib.hid (own_below HO5.out hb6 (Nat.le_refl _))
            have HHO6 := Lib.hid (HHO5.out.stay (fun g hg => hb6.block g (HHO5.out.lt g hg)))
            have HB6 := Lib.hid (HB5.out.trans (hb6.mono HB5.out.size))
            clear ho6 hb6 HW2
            have hbx : w6.cell? ⟨hb, 1, none⟩ = some (.slice ar zs.length cr) := cell_block HHO6.out.host.box 1
            have lhb : hb < w6.heap.size := (Array.getElem?_eq_some_iff.1 HHO6.out.host.box).1
            have HZ := Lib.hid (show Ints w6.heap.size w6 (.slice ar zs.length cr) zs from ints_of_owns HHO6.out.host.own.r (by have := HHO6.out.ok.ok.2.1; omega) HHO6.out.ok.bd.ref)
            obtain ⟨az, czz, hzv, hz1, hz2, hzc⟩ := HZ.out
            injection hzv with q1 q2 q3
            have HZC := Lib.hid hzc
            have HIA := Lib.hid (show Ints w6.heap.size w6 (.slice xa 256 xc) s.a from by
              have hm : (memP rs pa).length = 256 := memP_len _ _
              have := ints_of_owns (zs := memP rs pa) (by rw [hm]; exact HX6.out) (by omega) (memP_i64 (fun row hr => (HHO6.out.ok.bd.row row hr).1))
              rw [HMA.out]; exact this)
            have HIB := Lib.hid (show Ints w6.heap.size w6 (.slice ya 256 yc) s.b from by
              have hm : (memP rs pb).length = 256 := memP_len _ _
              have := ints_of_owns (zs := memP rs pb) (by rw [hm]; exact HO6.out) (by omega) (memP_i64 (fun row hr => (HHO6.out.ok.bd.row row hr).1))
              rw [HMB.out]; exact this)
            have hzl : zs.length ≤ 200 := HHO6.out.ok.ok.2.1
            subst q1 q3
            clear hzc q2 hz1 hz2 HHO HSA HSB HI HHO5 HSB5 HO5 HO6 HX6 HHO6 HF HB HB5 HPE HP HO2 HCW HMA HMB HZ
            go_wp2_with fail
            go_loopg [22, 24, 93] zs.length (fun gh s22 _ s93 wr => ∃ i q : Nat, i ≤ zs.length ∧ zs.length - i ≤ gh ∧ s93 = .int .i64 i ∧ s22 = .int .i64 (K0 (zs.take i)) ∧ wr = w6.drewN q)
            case atStart => exact ⟨0, 0, Nat.zero_le _, by omega, rfl, rfl, rfl⟩
            case round =>
              obtain ⟨i, q, hi, hgh, rfl, rfl, rfl⟩ := hrel
              by_cases hlt : i < zs.length
              · obtain ⟨b, off, vi, hae, hbb, hcell, rfl, hz64⟩ := HZC.out i hlt
                have r0 : (w6.drewN q).cell? ⟨b, off + i, none⟩ = some (.int .i64 zs[i]) := hcell
                have HKT := Lib.hid (k0_take hlt)
                have HLE := Lib.hid (Nat.le_trans (k0_le (zs.take i)) (List.length_take_le _ _))
                have hk1 : (i : Int) < (zs.length : Int) := by omega
                clear hcell
                generalize zs[i] = x at *
                generalize hkn : K0 (zs.take i) = kn at *
                have hkn2 : kn ≤ zs.length := by have := HLE.out; omega
                clear hkn
                subst hae
                by_cases hx : 0 < x
                · go_wp2_with fail
                  all_goals first | (exfalso; omega; done) | skip
                  go_roundg (zs.length - (i + 1))
                  case measure => omega
                  case rel => exact ⟨i + 1, q, by omega, by omega, by go_num, by rw [HKT.out, if_pos (by omega)]; go_num, rfl⟩
                · go_wp2_with fail
                  all_goals first | (exfalso; omega; done) | skip
                  go_roundg (zs.length - (i + 1))
                  case measure => omega
                  case rel => exact ⟨i + 1, q, by omega, by omega, by go_num, by rw [HKT.out, if_neg (by omega)]; rfl, rfl⟩
              · have hka : zs.take i = zs := List.take_of_length_le (by omega)
                rw [hka]
                have HFIN := Lib.hid (show PlayPost o w (.returned (.tuple #[.slice xa 256 xc, .slice ya 256 yc, .int .i64 (K0 zs : Int), .int .i64 0])) (w6.drewN q) from by
                  rw [HE.out, HKN.out]
                  exact ⟨_, _, rfl, HIA.out.to (by simp) (fun _ _ _ => rfl), HIB.out.to (by simp) (fun _ _ _ => rfl), below_drewN HB6.out _⟩)
                generalize (K0 zs : Int) = kz at *
                clear hka HE
                go_wp2_with fail
                refine bodyPost_ret (v := .tuple #[.slice xa 256 xc, .slice ya 256 yc, .int .i64 kz, .int .i64 0]) (by simp [results, Try.results5, go_sem]) rfl HFIN.out
end Go.Proofs.Ytpmdlmgmfggioaa
