/- The contract of evlog.Decode. No condition beyond the readings and the table's cells. -/
import Derived.Test.YtiekilpddmdhnaaDoorDd
namespace Go.Proofs.YtiekilpddmdhnaaDoor
open Go Go.RowKit Go.ChangeShapes Go.WideShapes Go.Deep
set_option linter.unusedVariables false

theorem numP_err0 {bs r : List UInt8} {e : Int} {m : Nat} (h : numP 0 0 bs = (e, m, r)) (he : e ≠ 0) : m = 0 := by
  rcases numP_err bs 0 0 with k | ⟨_, k⟩
  · rw [h] at k; exact absurd k he
  · rw [h] at k; exact k
theorem evP_wide {a : Int} {bs : List UInt8} (ha : 0 ≤ a ∧ a ≤ 1000000000000000000) (x : Ev) (hx : a ≤ x.at_ ∧ x.at_ ≤ a + 140737488355328) : I64 x.at_ := by unfold I64; omega
theorem evP_kind (a : Int) (bs : List UInt8) : 0 ≤ (evP a bs).2.1.kind ∧ (evP a bs).2.1.kind ≤ 3 := by
  unfold evP
  simp only
  split
  · simp
  · split
    · simp
    · split
      · simp
      · split <;> simp
/-- The events that are read so far. -/
def EvsGo (m : Nat) (r1 : List UInt8) (i : Nat) (at_ : Int) (cs : List UInt8) (l : List Ev) : Prop := evsP m 0 r1 = ((evsP (m - i) at_ cs).1, l ++ (evsP (m - i) at_ cs).2.1, (evsP (m - i) at_ cs).2.2)
theorem EvsGo.start (m : Nat) (r1 : List UInt8) : EvsGo m r1 0 0 r1 [] := rfl
theorem EvsGo.step {m i : Nat} {r1 cs r : List UInt8} {at_ : Int} {l : List Ev} {x : Ev} (h : EvsGo m r1 i at_ cs l) (hi : i < m) (he : evP at_ cs = (0, x, r)) : EvsGo m r1 (i + 1) x.at_ r (l ++ [x]) := by
  unfold EvsGo at h ⊢
  rw [h, show m - i = m - (i + 1) + 1 by omega, evsP_go he]
  simp
theorem EvsGo.err {m i : Nat} {r1 cs r : List UInt8} {at_ e : Int} {l : List Ev} {x : Ev} (h : EvsGo m r1 i at_ cs l) (hi : i < m) (he : evP at_ cs = (e, x, r)) (h0 : e ≠ 0) : ∃ ev, evsP m 0 r1 = (e, ev, r) := by
  unfold EvsGo at h
  rw [h, show m - i = m - (i + 1) + 1 by omega, evsP_e he h0]
  exact ⟨_, rfl⟩
theorem EvsGo.fin {m : Nat} {r1 cs : List UInt8} {at_ : Int} {l : List Ev} (h : EvsGo m r1 m at_ cs l) : evsP m 0 r1 = (0, l, cs) := by
  unfold EvsGo at h
  rw [h, Nat.sub_self]
  simp [evsP]

set_option maxHeartbeats 1500000 in
set_option maxRecDepth 100000 in
theorem decode_body (ad : Option Addr) (N n cap : Nat) (p : List UInt8) (d0 d1 d2 d3 : UInt8) (w : World) (ht : Tab w) (hf : BytesR w.heap.size w (.slice ad N cap) (p ++ [d0, d1, d2, d3])) (hp : p.length = n) (hN : N = n + 4) (hn : 1 ≤ n) (hn2 : n ≤ 59996) (hs : sumB p = [d0, d1, d2, d3]) : Calls Tryd.prog 7 #[.slice ad N cap] w (DecPost (p ++ [d0, d1, d2, d3]) w) := by
  have HT := Lib.hid ht
  clear ht
  have hb := bytes_take hf (k := n) (by rw [List.length_append]; omega)
  rw [show (p ++ [d0, d1, d2, d3]).take n = p by rw [← hp]; simp] at hb
  rw [← hp] at hb
  have HSM := Lib.hid (sum_any _ p w hb)
  have HBP := Lib.hid hb
  rw [hp] at HSM
  clear hb
  rw [hN] at hf
  obtain ⟨bb, off, rfl, hbb, hcap, q0, q1, q2, q3⟩ := bytes_last4 hf hp
  have hiff := sum_iff p d0 d1 d2 d3
  obtain ⟨S, hS⟩ : ∃ S : Int, S = (d0.toNat : Int) * 16777216 + (d1.toNat : Int) * 65536 + (d2.toNat : Int) * 256 + (d3.toNat : Int) := ⟨_, rfl⟩
  rw [← hS] at hiff
  obtain ⟨hx, hy⟩ := sumS_lt p 1 0 (by decide) (by decide)
  change sum1 p < 65521 at hx
  change sum2 p < 65521 at hy
  have u0 := u8_lt d0
  have u1 := u8_lt d1
  have u2 := u8_lt d2
  have u3 := u8_lt d3
  generalize sum1 p = x at *
  generalize sum2 p = y at *
  have HS := Lib.hid hs
  have hbool : (((y : Int) * 65536 + (x : Int)) != S) = false := by rw [bne_eq_false_iff_eq]; exact hiff.1 hs
  clear hs hiff
  generalize d0.toNat = c0 at *
  generalize d1.toNat = c1 at *
  generalize d2.toNat = c2 at *
  generalize d3.toNat = c3 at *
  have o1 : bits .or .i64 ((c0 : Int) * 16777216) ((c1 : Int) * 65536) = (c0 : Int) * 16777216 + (c1 : Int) * 65536 := i64_or_join 24 (by decide) _ _ (by omega) (by unfold I64; omega) (by omega) (by omega)
  have o2 : bits .or .i64 ((c0 : Int) * 16777216 + (c1 : Int) * 65536) ((c2 : Int) * 256) = (c0 : Int) * 16777216 + (c1 : Int) * 65536 + (c2 : Int) * 256 := i64_or_join 16 (by decide) _ _ (by omega) (by unfold I64; omega) (by omega) (by omega)
  have o3 : bits .or .i64 ((c0 : Int) * 16777216 + (c1 : Int) * 65536 + (c2 : Int) * 256) (c3 : Int) = S := by rw [hS]; exact i64_or_join 8 (by decide) _ _ (by omega) (by unfold I64; omega) (by omega) (by omega)
  clear hf hS
  have HP := Lib.hid hp
  clear hp
  have hN1 : (N : Int) - 4 = (n : Int) := by omega
  have hN2 : (N : Int) ≤ 60000 := by omega
  have hN3 : (5 : Int) ≤ (N : Int) := by omega
  have hN4 : n ≤ N := by omega
  have hN5 : N ≤ cap := by omega
  have hN6 : n ≤ cap := by omega
  clear hN hcap
  go_enter Tryd.func7, Tryd.ntmps7
  go_wp2_with fail
  refine HSM.out.mono ?_
  rintro en w1 ⟨rfl, rfl⟩
  go_wp2_with fail
  go_quiet (fail)
  have HB2 := Lib.hid (show Rd w w.heap.size p 0 ((w.drewN nq).alloc (.cells #[.slice (some ⟨bb, off, none⟩) n cap, .int .i64 0] 51 (0, 0))) from ⟨⟨_, cap, by rw [HP.out]; exact alloc_at rfl, HBP.out⟩, Nat.le_refl _, (below_drewN (Below.refl _ _) _).alloc (Nat.le_refl _) _⟩)
  obtain ⟨e1, m, r1, hnum⟩ : ∃ e1 m r1, numP 0 0 p = (e1, m, r1) := ⟨_, _, _, rfl⟩
  have HNUM := Lib.hid hnum
  have HNN := Lib.hid (number_gen w w.heap.size p _ HB2.out (e0 := 0) hnum)
  have hml := numE_lt (e := 0) hnum
  have HDB := Lib.hid (fun (c : Int) (l : List Ev) (h : BodyR p c l) => DecR.body HP.out hn hn2 HS.out h)
  clear hnum o1 o2 o3 hbool u0 u1 u2 u3 hx hy q0 q1 q2 q3 HSM
  go_wp2_with fail
  refine HNN.out.mono ?_
  rintro en w2 ⟨rfl, hr2, hg2⟩
  have HR2 := Lib.hid hr2
  clear hr2 hg2 HNN HB2
  by_cases hm : 1000 < m
  · have hm2 : (1000 : Int) < (m : Int) := by omega
    have HPO := Lib.hid (HDB.out 1 [] ⟨e1, m, r1, HNUM.out, Or.inl ⟨hm, rfl, rfl⟩⟩)
    clear hm
    go_wp2
    go_ret2
    exact DecPost.no HPO.out HR2.out.b
  · have hm2 : (m : Int) ≤ 1000 := by omega
    have HE0 := Lib.hid (show e1 ≠ 0 → m = 0 from numP_err0 HNUM.out)
    go_wp2_with fail
    go_loopg [8, 9, 66] m (fun gh s8 s9 s66 wr => ∃ (i : Nat) (ps : List (Ev × Value)) (a : Option Addr) (c : Nat) (at_ : Int) (cs : List UInt8), i ≤ m ∧ gh = m - i ∧ s66 = .int .i64 i ∧ s9 = .int .i64 at_ ∧ 0 ≤ at_ ∧ at_ ≤ i * 140737488355328 ∧ ps.length = i ∧ s8 = .slice a ps.length c ∧ Hid (Rd w w.heap.size cs e1 wr) ∧ Hid (OutSt (w.heap.size + 1) ps a c wr) ∧ Hid (EvsGo m r1 i at_ cs (ps.map (·.1))))
    case atStart => exact ⟨0, [], none, 0, 0, r1, Nat.zero_le _, by omega, rfl, rfl, by omega, by omega, rfl, rfl, HR2, Lib.hid (OutSt.nil _ _), Lib.hid (EvsGo.start _ _)⟩
    case round =>
      obtain ⟨i, ps, a, c, at_, cs, hi, rfl, rfl, rfl, hat0, hat1, hpl, rfl, HR, HO, HG⟩ := hrel
      clear HR2
      by_cases hil : i < m
      · obtain rfl : e1 = 0 := by
          by_cases h : e1 = 0
          · exact h
          · have := HE0.out h; omega
        have hb48 : at_ ≤ 1000 * 140737488355328 := by omega
        have hlg := HR.out.lt
        have hwr := HR.out.b.size
        have HEV := Lib.hid (event_any w w.heap.size at_ cs wr HR.out HT.out ⟨by omega, by omega⟩)
        obtain ⟨e, x, r, hev⟩ : ∃ e x r, evP at_ cs = (e, x, r) := ⟨_, _, _, rfl⟩
        obtain ⟨xat, xkd, xda⟩ := x
        have HEQ := Lib.hid hev
        clear hev
        go_wp2_with fail
        refine HEV.out.mono ?_
        rintro en w4 hpost
        unfold EvPostR at hpost
        rw [HEQ.out] at hpost
        obtain ⟨x0, x1, da, dn, dc, rfl, hr4, hg4, hok⟩ := hpost
        simp only at hr4 hok
        have HR4 := Lib.hid (hr4.other (World.grownBy_alloc w4 (.cells #[.int .i64 x0, .int .i64 x1, .slice da dn dc] 54) none) (by simp) (by simp))
        have q1 := hr4.c1
        have q2 := HR4.out.c1
        have hs4 := hr4.lt
        have HO4 := Lib.hid (HO.out.kept_lt hg4 (by omega))
        have hsz4 := hg4.size
        by_cases he : e = 0
        · subst he
          obtain ⟨rfl, rfl, hdo, hd64, hd16, hge, hle⟩ := hok rfl
          have HDO := Lib.hid (show DOwn (w.heap.size + 1) w4 (⟨x0, x1, xda⟩, .slice da dn dc) from ⟨own_base hdo (by omega), hd64, hd16, by show I64 x0; unfold I64; omega, by have := evP_kind at_ cs; rw [HEQ.out] at this; simp only at this; show I64 x1; unfold I64; omega⟩)
          have z0 : (w4.alloc (.cells #[.int .i64 x0, .int .i64 x1, .slice da dn dc] 54)).cell? ⟨w4.heap.size, 0, none⟩ = some (.int .i64 x0) := cell_block (alloc_at rfl) 0
          have z1 : (w4.alloc (.cells #[.int .i64 x0, .int .i64 x1, .slice da dn dc] 54)).cell? ⟨w4.heap.size, 1, none⟩ = some (.int .i64 x1) := cell_block (alloc_at rfl) 1
          have z2 : (w4.alloc (.cells #[.int .i64 x0, .int .i64 x1, .slice da dn dc] 54)).cell? ⟨w4.heap.size, 2, none⟩ = some (.slice da dn dc) := cell_block (alloc_at rfl) 2
          have HO5 := Lib.hid (HO4.out.alloc (.cells #[.int .i64 x0, .int .i64 x1, .slice da dn dc] 54))
          have HGN := Lib.hid (HG.out.step hil HEQ.out)
          have hlt3 : x0 ≤ ((i : Int) + 1) * 140737488355328 := by omega
          have hge0 : 0 ≤ x0 := by omega
          have hpl2 : ps.length ≤ 1000 := by omega
          have hplz := Lib.hid hpl
          clear hdo hd64 hd16 hok hr4 hg4 HEV HR hat0 hat1 hge hle hb48 HO4 HG HO HEQ hpl
          go_wp2_with (at_builtin; go_loud (refine wpList_push (w4.alloc (.cells #[.int .i64 x0, .int .i64 x1, .slice da dn dc] 54)) rfl (.tmp 82) (.tmp 84) 23 rfl (w.heap.size + 1) 54 (.agg #[.int .i64 0, .int .i64 0, .slice none 0 0]) 3 40 Tryd.underlying23 info_ev rfl (by decide) [.int .i64 x0, .int .i64 x1, .slice da dn dc] rfl (by simp [Value.oneCell']) _ _ _ (by rfl) HO5.out.row (by rfl) (by simp) (by omega) (by omega) (by simp; omega) ?_); intro g5 cp5 w5 hown5 hgrow5; have HW5 := Lib.hid hown5; have HGR5 := Lib.hid hgrow5; clear hown5 hgrow5)
          have HO6 := Lib.hid (HO5.out.push (p := (⟨x0, x1, xda⟩, .slice da dn dc)) ⟨HDO.out.1.alloc _, HDO.out.2⟩ HW5.out HGR5.out)
          have HR6 := Lib.hid (HR4.out.other HGR5.out (fun e => by have := HO5.out.row.lt _ e.symm; omega) (fun k hk => by have := HO5.out.row.lt _ hk; omega))
          go_roundg (m - (i + 1))
          case measure => omega
          case rel => exact ⟨i + 1, ps ++ [(⟨x0, x1, xda⟩, .slice da dn dc)], _, _, x0, r, by omega, rfl, by go_num, rfl, hge0, by omega, by rw [List.length_append, hplz.out]; rfl, by rw [List.length_append]; rfl, HR6, HO6, Lib.hid (by rw [List.map_append]; exact HGN.out)⟩
        · have he0 : (e != 0) = true := by rw [bne_iff_ne]; exact he
          have he1 : (e == 0) = false := by rw [beq_eq_false_iff_ne]; exact he
          obtain ⟨ev, hev⟩ := HG.out.err hil HEQ.out he
          have HPO := Lib.hid (HDB.out e [] ⟨0, m, r1, HNUM.out, Or.inr (Or.inr ⟨by omega, rfl, e, ev, r, hev, Or.inl ⟨he, rfl, rfl⟩⟩)⟩)
          clear hev he hok hr4 hg4 HEV HR HG HO HO4 HEQ
          go_wp2_with fail
          go_quiet (fail)
          go_wp2
          go_ret2
          exact DecPost.no HPO.out (below_drewN HR4.out.b _)
      · obtain rfl : i = m := by omega
        obtain ⟨ab, cb, hxb, hbb2⟩ := HR.out.box
        have q0 : wr.cell? ⟨w.heap.size, 0, none⟩ = some (.slice ab cs.length cb) := cell_block hxb 0
        have q1 : wr.cell? ⟨w.heap.size, 1, none⟩ = some (.int .i64 e1) := cell_block hxb 1
        have hlg := HR.out.lt
        clear hxb hbb2
        by_cases he : e1 = 0
        · subst he
          have hfin := HG.out.fin
          by_cases hcs : cs = []
          · subst hcs
            have HEVS := Lib.hid (show EvsR wr.heap.size wr (.slice a i c) (ps.map (·.1)) by have := HO.out.evs (by omega); rw [hpl] at this; exact this)
            have HFIN := Lib.hid hfin
            simp only [List.length_nil] at q0
            have HCK := Lib.hid (evcheck_any _ _ wr HEVS.out (HT.out.to HR.out.b))
            clear hfin hat0 hat1
            go_wp2_with fail
            refine HCK.out.mono ?_
            rintro en w5 ⟨d, hd, rfl, hb5⟩
            have hsz := HR.out.b.size
            have HBB := Lib.hid (HR.out.b.trans (hb5.mono hsz))
            by_cases hd0 : d = 0
            · subst hd0
              have HPO := Lib.hid (HDB.out 0 (ps.map (·.1)) ⟨0, i, r1, HNUM.out, Or.inr (Or.inr ⟨by omega, rfl, 0, _, [], HFIN.out, Or.inr (Or.inr ⟨rfl, rfl, hd, rfl⟩)⟩)⟩)
              have HE5 := Lib.hid (HEVS.out.to hb5.size (same_below hb5))
              clear hd hb5
              go_wp2
              go_ret2
              exact ⟨0, _, _, HPO.out, rfl, HE5.out, HBB.out⟩
            · have hd1 : (d != 0) = true := by rw [bne_iff_ne]; exact hd0
              have HPO := Lib.hid (HDB.out d [] ⟨0, i, r1, HNUM.out, Or.inr (Or.inr ⟨by omega, rfl, 0, _, [], HFIN.out, Or.inr (Or.inr ⟨rfl, rfl, hd, by rw [if_neg hd0]⟩)⟩)⟩)
              clear hd hb5 hd0
              go_wp2
              go_ret2
              exact DecPost.no HPO.out HBB.out
          · have hcl : 0 < cs.length := List.length_pos_iff.2 hcs
            have hcl2 : (0 : Int) < (cs.length : Int) := by omega
            have HPO := Lib.hid (HDB.out 4 [] ⟨0, i, r1, HNUM.out, Or.inr (Or.inr ⟨by omega, rfl, 0, _, cs, hfin, Or.inr (Or.inl ⟨rfl, hcs, rfl, rfl⟩)⟩)⟩)
            have HW := Lib.hid (rwrong_gen w w.heap.size cs 4 wr HR.out)
            clear hfin hcs
            go_wp2_with fail
            refine HW.out.mono ?_
            rintro en w5 ⟨rfl, hr5, hg5⟩
            have q5 := hr5.c1
            have hlg5 := hr5.lt
            go_wp2_with fail
            go_quiet (fail)
            go_wp2
            go_ret2
            exact DecPost.no HPO.out (below_drewN hr5.b _)
        · have he0 : (e1 != 0) = true := by rw [bne_iff_ne]; exact he
          have he1 : (e1 == 0) = false := by rw [beq_eq_false_iff_ne]; exact he
          have HPO := Lib.hid (HDB.out e1 [] ⟨e1, i, r1, HNUM.out, Or.inr (Or.inl ⟨by omega, he, rfl, rfl⟩)⟩)
          clear he
          go_wp2_with fail
          go_quiet (fail)
          go_wp2
          go_ret2
          exact DecPost.no HPO.out (below_drewN HR.out.b _)

theorem evdecode_any (v : Value) (b : List UInt8) (w : World) (hf : BytesR w.heap.size w v b) (ht : Tab w) : Calls Tryd.prog 7 #[v] w (DecPost b w) := by
  by_cases h1 : 60000 < b.length
  · exact decode_big v b w hf h1
  · by_cases h2 : b.length < 5
    · exact decode_short v b w hf h2
    · obtain ⟨ad, cap, hv, hrest⟩ := id hf
      clear hrest
      subst hv
      obtain ⟨n, hn⟩ : ∃ n, b.length = n + 4 := ⟨b.length - 4, by omega⟩
      obtain ⟨d0, d1, d2, d3, hd⟩ := len4 (show (b.drop n).length = 4 by rw [List.length_drop]; omega)
      have hb : b = b.take n ++ [d0, d1, d2, d3] := by rw [← hd, List.take_append_drop]
      have hp : (b.take n).length = n := by rw [List.length_take]; omega
      generalize hN : b.length = N at *
      rw [hb] at hf ⊢
      by_cases hs : sumB (b.take n) = [d0, d1, d2, d3]
      · exact decode_body ad N n cap _ d0 d1 d2 d3 w ht hf hp hn (by omega) (by omega) hs
      · exact decode_sum ad N n cap _ d0 d1 d2 d3 w ht hf hp hn (by omega) (by omega) hs
end Go.Proofs.YtiekilpddmdhnaaDoor
