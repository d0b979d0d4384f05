/- The contract of the reference's EventsOf. No condition beyond the readings. -/
import Derived.Test.YtiekilpddmdhnaaDoorTec
import Derived.Deep.CutBlock
import Derived.Laws.IdiomStrings
import Derived.Deep.RegionLaw
namespace Go.Proofs.YtiekilpddmdhnaaDoor
open Go Go.RowKit Go.ChangeShapes Go.WideShapes Go.Deep
set_option linter.unusedVariables false

set_option maxRecDepth 100000 in
theorem events_big (v : Value) (b : List UInt8) (w : World) (hf : BytesR w.heap.size w v b) (h : 60000 < b.length) : Calls Tryd.prog 8 #[v] w (DecPost b w) := by
  have HR := Lib.hid (show DecR b 1 [] from Or.inl ⟨h, rfl, rfl⟩)
  obtain ⟨a, cap, rfl, hl, hl2, hc⟩ := hf
  clear hc
  have hi : (60000 : Int) < (b.length : Int) := by omega
  go_enter Tryd.func8, Tryd.ntmps8
  go_wp2
  go_ret2
  exact DecPost.no HR.out (Below.refl _ _)
set_option maxRecDepth 100000 in
theorem events_short (v : Value) (b : List UInt8) (w : World) (hf : BytesR w.heap.size w v b) (h : b.length < 5) : Calls Tryd.prog 8 #[v] w (DecPost b w) := by
  have HR := Lib.hid (show DecR b 5 [] from Or.inr (Or.inl ⟨h, rfl, rfl⟩))
  obtain ⟨a, cap, rfl, hl, hl2, hc⟩ := hf
  clear hc
  have hi : (b.length : Int) < 5 := by omega
  go_enter Tryd.func8, Tryd.ntmps8
  go_wp2
  go_ret2
  exact DecPost.no HR.out (Below.refl _ _)
theorem Tp.below {w0 w w' : World} {g : Nat} {B bs : List UInt8} {e : Int} (h : Tp w0 g B bs e w) (hb : Below w.heap.size w w') : Tp w0 g B bs e w' := by
  obtain ⟨a, c, i, hx, hr⟩ := h.box
  exact ⟨⟨a, c, i, block_below hb hx h.lt, hr⟩, h.ge, h.b.trans (hb.mono h.b.size)⟩
theorem OutSt.below {B : Nat} {ps : List (Ev × Value)} {a : Option Addr} {c : Nat} {w w' : World} (h : OutSt B ps a c w) (hb : Below w.heap.size w w') : OutSt B ps a c w' :=
  ⟨own_below h.row hb (Nat.le_refl _), fun p hp => ⟨own_below (h.data p hp).1 hb (Nat.le_refl _), (h.data p hp).2⟩⟩
theorem bytes_tail4 {B : Nat} {w : World} {bb off n cap : Nat} {p : List UInt8} {d0 d1 d2 d3 : UInt8} (hf : BytesR B w (.slice (some ⟨bb, off, none⟩) (n + 4) cap) (p ++ [d0, d1, d2, d3])) (hp : p.length = n) : BytesR B w (.slice (some ⟨bb, off + n, none⟩) 4 (cap - n)) [d0, d1, d2, d3] := by
  subst hp
  obtain ⟨a', c', hv, hl, hl2, hc⟩ := hf
  injection hv with h1 h2 h3
  subst h1 h3
  rw [List.length_append] at hl2
  simp only [List.length_cons, List.length_nil] at hl2
  refine ⟨_, _, rfl, by simp, by simp; omega, fun j hj => ?_⟩
  have hj4 : j < 4 := by simpa using hj
  obtain ⟨b1, o1, vi, ha, hbb, q, hvi⟩ := hc (p.length + j) (by rw [List.length_append]; simp; omega)
  injection ha with ha
  injection ha with x1 x2
  subst x1 x2
  refine ⟨_, _, vi, rfl, hbb, by rw [Nat.add_assoc]; exact q, ?_⟩
  rw [List.getElem_append_right (by omega)] at hvi
  simpa using hvi
theorem bytes_inj {a b : List UInt8} (h : (⟨a.toArray⟩ : ByteArray) = ⟨b.toArray⟩) : a = b := by
  injection h with h
  have := congrArg Array.toList h
  simpa using this

set_option maxHeartbeats 16000000 in
set_option maxRecDepth 100000 in
theorem events_body (ad : Option Addr) (N n cap : Nat) (p : List UInt8) (d0 d1 d2 d3 : UInt8) (w : World) (hf : BytesR w.heap.size w (.slice ad N cap) (p ++ [d0, d1, d2, d3])) (hp : p.length = n) (hN : N = n + 4) (hn : 1 ≤ n) (hn2 : n ≤ 59996) : Calls Tryd.prog 8 #[.slice ad N cap] w (DecPost (p ++ [d0, d1, d2, d3]) w) := by
  have hb := bytes_take hf (k := n) (by rw [List.length_append]; omega)
  rw [show (p ++ [d0, d1, d2, d3]).take n = p by rw [← hp]; simp] at hb
  have HBP := Lib.hid hb
  rw [← hp] at hb
  have HSM := Lib.hid (fun (W : World) (hbl : Below w.heap.size w W) => sumOf_any _ p W (hb.to hbl.size (same_below hbl)))
  rw [hp] at HSM
  clear hb
  rw [hN] at hf
  obtain ⟨bb, off, rfl, hbb, hcap, _, _, _, _⟩ := bytes_last4 hf hp
  have HT4 := Lib.hid (bytes_tail4 hf hp)
  obtain ⟨sA, hsA⟩ : ∃ s : ByteArray, s = ⟨(sumB p).toArray⟩ := ⟨_, rfl⟩
  obtain ⟨sB, hsB⟩ : ∃ s : ByteArray, s = ⟨[d0, d1, d2, d3].toArray⟩ := ⟨_, rfl⟩
  have HSA := Lib.hid hsA
  have HSB := Lib.hid hsB
  have HDB := Lib.hid (fun (c : Int) (l : List Ev) (hs : sumB p = [d0, d1, d2, d3]) (h : BodyR p c l) => DecR.body hp hn hn2 hs h)
  have HDS := Lib.hid (fun (hs : sumB p ≠ [d0, d1, d2, d3]) => DecR.sum hp hn hn2 hs)
  have hs4 : (sumB p).length = 4 := rfl
  generalize hsum : sumB p = sP at *
  have HS4 := Lib.hid hs4
  have HSUM := Lib.hid hsum
  have HP := Lib.hid hp
  clear hp hf hsA hsB hs4 hsum
  have hN1 : (N : Int) - 4 = (n : Int) := by omega
  have hN2 : (N : Int) ≤ 60000 := by omega
  have hN3 : (5 : Int) ≤ (N : Int) := by omega
  have hN4 : n ≤ N := by omega
  have hN5 : N ≤ cap := by omega
  have hN6 : n ≤ cap := by omega
  have hN7 : N - n = 4 := by omega
  have hN8 : (n : Int) ≤ (N : Int) := by omega
  have hN9 : ¬ cap = n := by omega
  have hN10 : IntKind.i64.wrap ((N : Int) - 4) = (n : Int) := by rw [hN1]; exact IntWalk.i64_in _ (by omega)
  have hN11 : IntKind.i64.wrap (n : Int) = (n : Int) := IntWalk.i64_in _ (by omega)
  have hN12 : (0 : Int) ≤ (n : Int) := by omega
  have hN13 : (n : Int) ≤ (cap : Int) := by omega
  have hN14 : (N : Int) ≤ (cap : Int) := by omega
  clear hN hcap
  go_enter Tryd.func8, Tryd.ntmps8
  go_upto_region 5 with fail
  go_cut [33] (fun s33 wx => ∃ t : Bool, s33 = .bool t ∧ Hid ((t = true ∧ sA.toList ≠ sB.toList) ∨ (t = false ∧ sA.toList = sB.toList)) ∧ Hid (Below w.heap.size w wx))
  case first =>
    have hbd : Below w.heap.size w w.drew := below_drewN (Below.refl _ _) 1
    have HBD := Lib.hid hbd
    have HV0 := Lib.hid (conv_bytes (HT4.out.to hbd.size (same_below hbd)))
    rw [← HSB.out] at HV0
    have kB0 := HV0.out
    clear hbd HV0
    go_region_with (first
      | (go_at_call 23; refine (HSM.out _ HBD.out).mono ?_; rintro en w3 ⟨a3, c3, rfl, hown3, hb3⟩; rw [HS4.out] at hown3; rw [HS4.out]; have HB3 := Lib.hid (HBD.out.trans (hb3.mono HBD.out.size)); have hv3 := conv_bytes (HT4.out.to HB3.out.size (same_below HB3.out)); rw [← HSB.out] at hv3; have hw3 := conv_bytes (n := 4) (by have := bytes_of_own (a := a3) (c := c3) (bs := sP) (by rw [HS4.out]; exact hown3) (by rw [HS4.out]; omega); rw [HS4.out] at this; exact this); rw [← HSA.out] at hw3; clear hown3 hb3))
    all_goals (go_wp2_with fail; go_meet)
    all_goals (
      refine ⟨_, rfl, ?_, HB3⟩
      refine Lib.hid ?_
      by_cases hss : sA.toList = sB.toList
      · exact Or.inr ⟨by rw [hss]; simp, hss⟩
      · exact Or.inl ⟨by simpa using hss, hss⟩)
  case rest =>
    obtain ⟨t, rfl, HTT, HBC⟩ := hcut
    rcases HTT.out with ⟨rfl, hne⟩ | ⟨rfl, heq⟩
    · have HPO := Lib.hid (HDS.out (fun e => hne (by rw [HSA.out, HSB.out, e])))
      clear hne
      go_wp2
      go_ret2
      exact DecPost.no HPO.out HBC.out
    · have hs0 : sP = [d0, d1, d2, d3] := by rw [HSA.out, HSB.out, ByteArray.toList_mk, ByteArray.toList_mk] at heq; exact heq
      have HDB2 := Lib.hid (fun (c : Int) (l : List Ev) (h : BodyR p c l) => HDB.out c l hs0 h)
      clear heq
      have hcs := HBC.out.size
      have HB2 := Lib.hid (show Tp w wc.heap.size p p 0 (wc.alloc (.cells #[.slice (some ⟨bb, off, none⟩) n cap, .int .i64 0, .int .i64 0] 61 (0, 0))) from ⟨⟨_, cap, 0, by rw [HP.out]; exact alloc_at rfl, by rw [HP.out]; exact HBP.out, rfl, Nat.zero_le _⟩, hcs, HBC.out.alloc hcs _⟩)
      obtain ⟨e1, m, r1, hnum⟩ : ∃ e1 m r1, numP 0 0 p = (e1, m, r1) := ⟨_, _, _, rfl⟩
      have HNUM := Lib.hid hnum
      have HNN := Lib.hid (next_gen w wc.heap.size p p _ HB2.out (e0 := 0) hnum)
      have hml := numE_lt (e := 0) hnum
      clear hnum hs0 HDB HSM HT4 HSA HSB
      go_wp2_with fail
      refine HNN.out.mono ?_
      rintro en w2 ⟨rfl, hr2, hg2⟩
      have HR2 := Lib.hid hr2
      have hs2 := hr2.lt
      generalize hg : wc.heap.size = g at *
      clear hr2 hg2 HNN HB2
      by_cases hm : 1000 < m
      · have hm2 : (1000 : Int) < (m : Int) := by omega
        have HPO := Lib.hid (HDB2.out 1 [] ⟨e1, m, r1, HNUM.out, Or.inl ⟨hm, rfl, rfl⟩⟩)
        clear hm
        go_wp2
        go_ret2
        exact DecPost.no HPO.out HR2.out.b
      · have hm2 : (m : Int) ≤ 1000 := by omega
        have HE0 := Lib.hid (show e1 ≠ 0 → m = 0 from numP_err0 HNUM.out)
        clear hN1 hN2 hN3 hN4 hN5 hN6 hN7 hN8 hN9 hN10 hN11 hN12 hN13 hN14
        go_upto_block 0 with fail
        refine ev_loop HR2 HE0 (by omega) ?_
        intros
        rename_i s6 s7 s8 wc hcut
        obtain ⟨ps, a, c, e, cs, rfl, hpl2, HR, HO, HF⟩ := hcut
        obtain ⟨ab, cb, j, hxb, hbb2, hcs, hj⟩ := HR.out.box
        have q0 : wc.cell? ⟨g, 0, none⟩ = some (.slice ab p.length cb) := cell_block hxb 0
        have q1 : wc.cell? ⟨g, 1, none⟩ = some (.int .i64 j) := cell_block hxb 1
        have q2 : wc.cell? ⟨g, 2, none⟩ = some (.int .i64 e) := cell_block hxb 2
        have f2 := free_block hxb 2
        have lg := HR.out.lt
        clear hxb hbb2 HR2 hs2
        rcases HF.out with ⟨he, hcase⟩ | ⟨rfl, rfl, hfin⟩
        · have heb : (e == 0) = false := by rw [beq_eq_false_iff_ne]; exact he
          have hen : (e != 0) = true := by rw [bne_iff_ne]; exact he
          have HPO := Lib.hid (HDB2.out e [] ⟨e1, m, r1, HNUM.out, by
            rcases hcase with ⟨h1, h2⟩ | ⟨h1, ev, r, h2⟩
            · exact Or.inr (Or.inl ⟨by omega, h1, h2, rfl⟩)
            · exact Or.inr (Or.inr ⟨by omega, h1, e, ev, r, h2, Or.inl ⟨he, rfl, rfl⟩⟩)⟩)
          clear he hcase HF hcs
          go_wp2_with fail
          go_quiet (fail)
          go_wp2_with fail
          go_quiet (fail)
          go_wp2
          go_ret2
          exact DecPost.no HPO.out (below_drewN (below_drewN HR.out.b _) _)
        · by_cases hce : cs = []
          · subst hce
            have hjl : ¬ j < p.length := by
              intro h
              have := congrArg List.length hcs
              rw [List.length_drop] at this
              simp at this
              omega
            have hjd : decide ((j : Int) < (p.length : Int)) = false := by rw [decide_eq_false_iff_not]; omega
            have hjd' : decide (j < p.length) = false := by rw [decide_eq_false_iff_not]; exact hjl
            have HFIN := Lib.hid hfin
            have HFA := Lib.hid (fun (n : Nat) => evfault_any _ (ps.map (·.1)) (wc.drewN n) ((HO.out.drewN n).evs (by omega)))
            clear hfin HF hcs
            go_wp2_with fail
            go_quiet (fail)
            go_wp2_with fail
            refine (HFA.out _).mono ?_
            rintro en w5 ⟨d, hd, rfl, hb5⟩
            have HT5 := Lib.hid ((HR.out.drewN _).below hb5)
            have HO5 := Lib.hid ((HO.out.drewN _).below hb5)
            obtain ⟨t2, tf2⟩ := HT5.out.c2
            have lg5 := HT5.out.lt
            have HT6 := Lib.hid (HT5.out.err d)
            clear hb5 q0 q1 q2 f2 hjd hjd' hjl
            by_cases hd0 : d = 0
            · subst hd0
              have HPO := Lib.hid (HDB2.out 0 (ps.map (·.1)) ⟨0, m, r1, HNUM.out, Or.inr (Or.inr ⟨by omega, rfl, 0, _, [], HFIN.out, Or.inr (Or.inr ⟨rfl, rfl, hd, rfl⟩)⟩)⟩)
              have HO6 := Lib.hid (HO5.out.kept_lt (grown_set w5 g 2 (.int .i64 0)) (by omega))
              clear hd
              go_wp2
              go_ret2
              exact ⟨0, _, _, HPO.out, rfl, HO6.out.evs (by omega), HT6.out.b⟩
            · have hdn : (d != 0) = true := by rw [bne_iff_ne]; exact hd0
              have HPO := Lib.hid (HDB2.out d [] ⟨0, m, r1, HNUM.out, Or.inr (Or.inr ⟨by omega, rfl, 0, _, [], HFIN.out, Or.inr (Or.inr ⟨rfl, rfl, hd, by rw [if_neg hd0]⟩)⟩)⟩)
              have hcell := HT6.out.c2.1
              clear hd hd0
              go_wp2_with fail
              go_quiet (fail)
              go_wp2
              go_ret2
              exact DecPost.no HPO.out (below_drewN HT6.out.b _)
          · have hjl : j < p.length := by
              rcases Nat.lt_or_ge j p.length with h | h
              · exact h
              · exact absurd (by rw [hcs, List.drop_eq_nil_of_le h]) hce
            have hjd : decide ((j : Int) < (p.length : Int)) = true := by rw [decide_eq_true_iff]; omega
            have hjd' : decide (j < p.length) = true := by rw [decide_eq_true_iff]; exact hjl
            have HPO := Lib.hid (HDB2.out 4 [] ⟨0, m, r1, HNUM.out, Or.inr (Or.inr ⟨by omega, rfl, 0, _, cs, hfin, Or.inr (Or.inl ⟨rfl, hce, rfl, rfl⟩)⟩)⟩)
            clear hfin HF hcs hce
            go_wp2_with fail
            go_quiet (fail)
            go_wp2_with fail
            go_quiet (fail)
            go_wp2
            go_ret2
            exact DecPost.no HPO.out (below_drewN ((HR.out.drewN _).err 4).b _)

theorem eventsOf_any (v : Value) (b : List UInt8) (w : World) (hf : BytesR w.heap.size w v b) : Calls Tryd.prog 8 #[v] w (DecPost b w) := by
  by_cases h1 : 60000 < b.length
  · exact events_big v b w hf h1
  · by_cases h2 : b.length < 5
    · exact events_short v b w hf h2
    · obtain ⟨ad, cap, hv, hrest⟩ := id hf
      clear hrest
      subst hv
      obtain ⟨n, hn⟩ : ∃ n, b.length = n + 4 := ⟨b.length - 4, by omega⟩
      obtain ⟨d0, d1, d2, d3, hd⟩ := len4 (show (b.drop n).length = 4 by rw [List.length_drop]; omega)
      have hb : b = b.take n ++ [d0, d1, d2, d3] := by rw [← hd, List.take_append_drop]
      have hp : (b.take n).length = n := by rw [List.length_take]; omega
      generalize hN : b.length = N at *
      rw [hb] at hf ⊢
      exact events_body ad N n cap _ d0 d1 d2 d3 w hf hp hn (by omega) (by omega)
end Go.Proofs.YtiekilpddmdhnaaDoor
