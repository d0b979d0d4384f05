/- What is wrong with events; the contracts of evlog.Check and of the reference's EventsFault. No condition beyond the readings and the table's cells. -/
import Derived.Test.YtilcnlmapifdgaaDoorYEv
import Derived.IntWalk
namespace Go.Proofs.YtilcnlmapifdgaaDoor
open Go Go.RowKit Go.ChangeShapes Go.WideShapes Go.Deep
set_option linter.unusedVariables false

/-- An event's cells. -/
def EvC (B : Nat) (w : World) (cs : List Value) (x : Ev) : Prop := ∃ ad cd, cs = [.int .i64 x.at_, .int .i64 x.kind, .slice ad x.data.length cd] ∧ I64 x.at_ ∧ I64 x.kind ∧ Ints B w (.slice ad x.data.length cd) x.data
def EvsR (B : Nat) (w : World) (v : Value) (l : List Ev) : Prop := SlN 3 3518437208780 B w (EvC B w) v l
theorem EvsR.to {B B' : Nat} {w w' : World} {v : Value} {l : List Ev} (hB : B ≤ B') (hw : Same B w w') (h : EvsR B w v l) : EvsR B' w' v l :=
  SlN.to (Nat.le_refl _) hB hw (fun _ _ ⟨ad, cd, h1, h2, h3, h4⟩ => ⟨ad, cd, h1, h2, h3, h4.to hB hw⟩) h
theorem EvsR.imp {B : Nat} {w w' : World} {v : Value} {l : List Ev} (hw : Imp B w w') (h : EvsR B w v l) : EvsR B w' v l :=
  SlN.imp hw (fun _ _ ⟨ad, cd, h1, h2, h3, h4⟩ => ⟨ad, cd, h1, h2, h3, h4.imp hw⟩) h
def evW (k : Int) : Int := if k = 2 then 16 else if k = 3 then 1 else 0
/-- What is wrong with an event behind another one. -/
def evF (p : Option Ev) (x : Ev) : Int :=
  if x.kind < 1 ∨ 3 < x.kind then 3 else
  if x.at_ < 0 ∨ 3000 ≤ x.at_ ∨ x.data.any oddB = true then 2 else
  if (x.data.length : Int) ≠ evW x.kind then 1 else
  match p with
  | none => 0
  | some p => if x.at_ < p.at_ ∨ (p.at_ = x.at_ ∧ x.kind ≤ p.kind) then 9 else 0
theorem evF3 {p : Option Ev} {x : Ev} (h : x.kind < 1 ∨ 3 < x.kind) : evF p x = 3 := by unfold evF; rw [if_pos h]
theorem evF2 {p : Option Ev} {x : Ev} (h : ¬ (x.kind < 1 ∨ 3 < x.kind)) (h2 : x.at_ < 0 ∨ 3000 ≤ x.at_ ∨ x.data.any oddB = true) : evF p x = 2 := by unfold evF; rw [if_neg h, if_pos h2]
theorem evF1 {p : Option Ev} {x : Ev} (h : ¬ (x.kind < 1 ∨ 3 < x.kind)) (h2 : ¬ (x.at_ < 0 ∨ 3000 ≤ x.at_ ∨ x.data.any oddB = true)) (h3 : (x.data.length : Int) ≠ evW x.kind) : evF p x = 1 := by unfold evF; rw [if_neg h, if_neg h2, if_pos h3]
theorem evFp {p : Option Ev} {x : Ev} (h : ¬ (x.kind < 1 ∨ 3 < x.kind)) (h2 : ¬ (x.at_ < 0 ∨ 3000 ≤ x.at_ ∨ x.data.any oddB = true)) (h3 : (x.data.length : Int) = evW x.kind) : evF p x = match p with
  | none => 0
  | some p => if x.at_ < p.at_ ∨ (p.at_ = x.at_ ∧ x.kind ≤ p.kind) then 9 else 0 := by unfold evF; rw [if_neg h, if_neg h2, if_neg (fun e => e h3)]
theorem evF_zero {p : Option Ev} {x : Ev} (h : evF p x = 0) : 1 ≤ x.kind ∧ x.kind ≤ 3 ∧ 0 ≤ x.at_ ∧ x.at_ < 3000 ∧ x.data.any oddB = false ∧ (x.data.length : Int) = evW x.kind := by
  unfold evF at h
  split at h
  · omega
  · split at h
    · omega
    · split at h
      · omega
      · rename_i h1 h2 h3
        refine ⟨by omega, by omega, by omega, by omega, ?_, by omega⟩
        cases e : x.data.any oddB with
        | false => rfl
        | true => exact absurd (Or.inr (Or.inr e)) h2

/-- What is wrong at place k. -/
def fAt (l : List Ev) (k : Nat) : Int := match l[k]? with
  | none => 0
  | some x => evF (if k = 0 then none else l[k - 1]?) x
def EvRes (l : List Ev) (c : Int) : Prop := (1000 < l.length ∧ c = 1) ∨ (l.length ≤ 1000 ∧ ∃ k, k < l.length ∧ (∀ j, j < k → fAt l j = 0) ∧ fAt l k = c ∧ c ≠ 0) ∨ (l.length ≤ 1000 ∧ (∀ j, j < l.length → fAt l j = 0) ∧ c = 0)
theorem EvRes.det {l : List Ev} {c d : Int} (h : EvRes l c) (k : EvRes l d) : c = d := by
  rcases h with ⟨h1, rfl⟩ | ⟨h1, i, hi, h2, rfl, h4⟩ | ⟨h1, h2, rfl⟩
  · rcases k with ⟨k1, rfl⟩ | ⟨k1, _⟩ | ⟨k1, _⟩
    · rfl
    · omega
    · omega
  · rcases k with ⟨k1, rfl⟩ | ⟨k1, j, hj, k2, rfl, k4⟩ | ⟨k1, k2, rfl⟩
    · omega
    · rcases Nat.lt_trichotomy i j with e | e | e
      · exact absurd (k2 i e) h4
      · rw [e]
      · exact absurd (h2 j e) k4
    · exact absurd (k2 i hi) h4
  · rcases k with ⟨k1, rfl⟩ | ⟨k1, j, hj, k2, rfl, k4⟩ | ⟨k1, k2, rfl⟩
    · omega
    · exact absurd (h2 j hj) k4
    · rfl
theorem res_hit {l : List Ev} {k : Nat} {c : Int} (hl : l.length ≤ 1000) (hk : k < l.length) (h : ∀ j, j < k → fAt l j = 0) (hc : fAt l k = c) (h0 : c ≠ 0) : EvRes l c := Or.inr (Or.inl ⟨hl, k, hk, h, hc, h0⟩)
theorem fz_grow {l : List Ev} {k : Nat} (h : ∀ j, j < k → fAt l j = 0) (h1 : fAt l k = 0) : ∀ j, j < k + 1 → fAt l j = 0 := by
  intro j hj
  rcases Nat.lt_succ_iff_lt_or_eq.1 hj with hj | rfl
  · exact h j hj
  · exact h1
theorem fAt_range {l : List Ev} {m : Nat} (h : m < l.length) (h0 : fAt l m = 0) : 1 ≤ l[m].kind ∧ l[m].kind ≤ 3 ∧ 0 ≤ l[m].at_ ∧ l[m].at_ < 3000 := by
  unfold fAt at h0
  rw [List.getElem?_eq_getElem h] at h0
  have := evF_zero h0
  exact ⟨this.1, this.2.1, this.2.2.1, this.2.2.2.1⟩

/-- The table of how many words an event of each kind has. -/
structure Tab (w : World) : Prop where
  c0 : w.cell? ⟨0, 0, none⟩ = some (.int .i64 0)
  c1 : w.cell? ⟨0, 1, none⟩ = some (.int .i64 0)
  c2 : w.cell? ⟨0, 2, none⟩ = some (.int .i64 16)
  c3 : w.cell? ⟨0, 3, none⟩ = some (.int .i64 1)
  lt : 0 < w.heap.size
theorem Tab.to {w w' : World} (h : Tab w) (hb : Below w.heap.size w w') : Tab w' :=
  ⟨(same_below hb _ _ h.lt).trans h.c0, (same_below hb _ _ h.lt).trans h.c1, (same_below hb _ _ h.lt).trans h.c2, (same_below hb _ _ h.lt).trans h.c3, Nat.lt_of_lt_of_le h.lt hb.size⟩

def EvPost (l : List Ev) (w : World) (e : Ending) (w' : World) : Prop := ∃ c, EvRes l c ∧ e = .returned (.int .i64 c) ∧ Below w.heap.size w w'

theorem eword_any (z : Int) (w : World) : Calls Tryd.prog 106 #[.int .i64 z] w fun e w' => e = .returned (.bool (!oddB z)) ∧ w = w' := by
  by_cases h1 : -1099511627776 ≤ z
  · by_cases h2 : z ≤ 1099511627776
    · rw [odd_false ⟨h1, h2⟩]
      go_enter Tryd.func106, Tryd.ntmps106
      go_wp2
      go_ret
      simp_all
    · rw [odd_true (by omega)]
      go_enter Tryd.func106, Tryd.ntmps106
      go_wp2
      go_ret
      simp_all
  · rw [odd_true (by omega)]
    go_enter Tryd.func106, Tryd.ntmps106
    go_wp2
    go_ret
    simp_all
theorem eodd_is : PredIs 105 oddB := by
  intro z W h1 h2
  have HW := Lib.hid (eword_any z)
  go_enter Tryd.func105, Tryd.ntmps105
  go_wp2_with (go_at_call 106; refine (HW.out _).mono ?_; rintro e w' ⟨rfl, rfl⟩)
  go_ret
  exact ⟨ret_bool (by simp), rfl⟩
def OddOr (zs : List Int) (w : World) (e : Ending) (w' : World) : Prop := (e = .returned (.bool true) ∧ Hid (zs.any oddB = true) ∧ ∃ n, w' = w.drewN n) ∨ (e = .returned (.bool false) ∧ Hid (zs.any oddB = false) ∧ ∃ n, w' = w.drewN n)
theorem odd_or {F : FuncId} {args : Array Value} {zs : List Int} {w : World} (h : Calls Tryd.prog F args w fun e w' => e = .returned (.bool (zs.any oddB)) ∧ ∃ n, w' = w.drewN n) : Calls Tryd.prog F args w (OddOr zs w) := by
  rcases Bool.eq_false_or_eq_true (zs.any oddB) with hq | hq
  · exact h.mono fun e w' ⟨he, hn⟩ => Or.inl ⟨by rw [he, hq], Lib.hid hq, hn⟩
  · exact h.mono fun e w' ⟨he, hn⟩ => Or.inr ⟨by rw [he, hq], Lib.hid hq, hn⟩
theorem eodd_contains (v : Value) (zs : List Int) (w : World) (hf : Ints w.heap.size w v zs) : Calls Tryd.prog 54 #[v, .func (.func 105) #[] #[]] w (OddOr zs w) :=
  odd_or (containsF_any _ oddB (enters_of Tryd.func105 (by kernel_rfl) rfl) eodd_is v zs w hf)

set_option maxHeartbeats 8000000 in
set_option maxRecDepth 100000 in
theorem evcheck_any (v : Value) (l : List Ev) (w : World) (hf : EvsR w.heap.size w v l) (ht : Tab w) : Calls Tryd.prog 79 #[v] w (EvPost l w) := by
  obtain ⟨a, cap, rfl, hl, hl2, hc⟩ := hf
  have HC := Lib.hid hc
  have HT := Lib.hid ht
  clear hc ht
  by_cases h1000 : 1000 < l.length
  · have h1 : (1000 : Int) < (l.length : Int) := by omega
    go_enter Tryd.func79, Tryd.ntmps79
    go_wp2
    go_ret
    exact ⟨1, Or.inl ⟨h1000, rfl⟩, rfl, Below.refl _ _⟩
  · have h1 : ¬ (1000 : Int) < (l.length : Int) := by omega
    have h1000' : l.length ≤ 1000 := by omega
    go_enter Tryd.func79, Tryd.ntmps79
    go_wp2
    go_loopw [10] (fun i wr => ∃ k : Nat, k ≤ l.length ∧ i = .int .i64 k ∧ Hid (∀ j, j < k → fAt l j = 0) ∧ Below w.heap.size w wr) (fun i _ => l.length - (intOf i).toNat)
    case atStart => exact ⟨0, Nat.zero_le _, rfl, Lib.hid fun j hj => absurd hj (Nat.not_lt_zero _), Below.refl _ _⟩
    case round =>
      obtain ⟨k, hk, rfl, A, hb⟩ := hrel
      by_cases hlt : k < l.length
      · obtain ⟨b, off, cs, ha, hbb, hcs, hcell, ad, cd, hcs2, i1, i2, hint⟩ := HC.out k hlt
        have HX := Lib.hid (fun c (hc : fAt l k = c) (h0 : c ≠ 0) => res_hit h1000' hlt A.out hc h0)
        have HG := Lib.hid (fun (hc : fAt l k = 0) => fz_grow A.out hc)
        subst ha hcs2
        have HT2 := Lib.hid (HT.out.to hb)
        have HI := Lib.hid (hint.to hb.size (same_below hb))
        have HB := Lib.hid hb
        have r0 : wr.cell? ⟨b, off + k * 3, none⟩ = some (.int .i64 l[k].at_) := (same_below hb _ _ hbb).trans (hcell 0 (by simp))
        have r1 : wr.cell? ⟨b, off + k * 3 + 1, none⟩ = some (.int .i64 l[k].kind) := (same_below hb _ _ hbb).trans (hcell 1 (by simp))
        have r2 : wr.cell? ⟨b, off + k * 3 + 2, none⟩ = some (.slice ad l[k].data.length cd) := (same_below hb _ _ hbb).trans (hcell 2 (by simp))
        have hwb := hb.size
        have hxl : l[k]? = some l[k] := List.getElem?_eq_getElem hlt
        have e0 : fAt l k = evF (if k = 0 then none else l[k - 1]?) l[k] := by unfold fAt; rw [hxl]
        rw [e0] at HX HG
        clear hint hcell hb i1 i2 e0 hxl
        generalize l[k] = x at *
        obtain ⟨at_, kd, data⟩ := x
        simp only at r0 r1 r2 HI
        have t1 := HT2.out.c1
        have t2 := HT2.out.c2
        have t3 := HT2.out.c3
        have tlt := HT2.out.lt
        by_cases k1 : kd < 1
        · go_wp2
          go_ret
          exact ⟨3, HX.out 3 (evF3 (Or.inl k1)) (by decide), rfl, (by repeat (first | exact HB.out | refine below_drewN ?_ _ | refine Below.alloc ?_ hwb _))⟩
        by_cases k3 : 3 < kd
        · go_wp2
          go_ret
          exact ⟨3, HX.out 3 (evF3 (Or.inr k3)) (by decide), rfl, (by repeat (first | exact HB.out | refine below_drewN ?_ _ | refine Below.alloc ?_ hwb _))⟩
        by_cases a0 : at_ < 0
        · go_wp2
          go_ret
          exact ⟨2, HX.out 2 (evF2 (by simp; omega) (Or.inl a0)) (by decide), rfl, (by repeat (first | exact HB.out | refine below_drewN ?_ _ | refine Below.alloc ?_ hwb _))⟩
        by_cases a3 : 3000 ≤ at_
        · go_wp2
          go_ret
          exact ⟨2, HX.out 2 (evF2 (by simp; omega) (Or.inr (Or.inl a3))) (by decide), rfl, (by repeat (first | exact HB.out | refine below_drewN ?_ _ | refine Below.alloc ?_ hwb _))⟩
        have hkd : kd = 1 ∨ kd = 2 ∨ kd = 3 := by omega
        clear k1 k3
        cases k with
        | zero =>
          rw [if_pos rfl] at HX HG
          simp only [Nat.zero_mul, Nat.add_zero] at r0 r1 r2
          rcases hkd with rfl | rfl | rfl
          · skip
            go_wp2_with (go_at_call 54; refine (eodd_contains _ data _ ?_).mono ?_; (exact HI.out.to (by simp) (same_alloc _ _)); rintro e w' (⟨rfl, ho, n1, rfl⟩ | ⟨rfl, ho, n1, rfl⟩))
            · go_ret
              exact ⟨2, HX.out 2 (evF2 (by simp) (Or.inr (Or.inr ho.out))) (by decide), rfl, (by repeat (first | exact HB.out | refine below_drewN ?_ _ | refine Below.alloc ?_ hwb _))⟩
            have HN := Lib.hid (show ¬ (at_ < 0 ∨ 3000 ≤ at_ ∨ data.any oddB = true) by rw [ho.out]; simp; omega)
            clear ho
            by_cases hlen : (data.length : Int) = 0
            · have bl : ((data.length : Int) != 0) = false := by rw [bne_eq_false_iff_eq]; exact hlen
              have HL := Lib.hid hlen
              clear hlen
              have HGG := Lib.hid (HG.out (evFp (by simp) HN.out HL.out))
              go_quiet (fail)
              go_wp2_with fail
              go_quiet (fail)
              go_wp2
              go_roundw
              case rel => exact ⟨1, by omega, by go_num, HGG, (by repeat (first | exact HB.out | refine below_drewN ?_ _ | refine Below.alloc ?_ hwb _))⟩
              case measure => simp [intOf]; omega
            · have bl : ((data.length : Int) != 0) = true := by rw [bne_iff_ne]; exact hlen
              have HL := Lib.hid hlen
              clear hlen
              go_quiet (fail)
              go_wp2
              go_ret
              exact ⟨1, HX.out 1 (evF1 (by simp) HN.out HL.out) (by decide), rfl, (by repeat (first | exact HB.out | refine below_drewN ?_ _ | refine Below.alloc ?_ hwb _))⟩
          · skip
            go_wp2_with (go_at_call 54; refine (eodd_contains _ data _ ?_).mono ?_; (exact HI.out.to (by simp) (same_alloc _ _)); rintro e w' (⟨rfl, ho, n1, rfl⟩ | ⟨rfl, ho, n1, rfl⟩))
            · go_ret
              exact ⟨2, HX.out 2 (evF2 (by simp) (Or.inr (Or.inr ho.out))) (by decide), rfl, (by repeat (first | exact HB.out | refine below_drewN ?_ _ | refine Below.alloc ?_ hwb _))⟩
            have HN := Lib.hid (show ¬ (at_ < 0 ∨ 3000 ≤ at_ ∨ data.any oddB = true) by rw [ho.out]; simp; omega)
            clear ho
            by_cases hlen : (data.length : Int) = 16
            · have bl : ((data.length : Int) != 16) = false := by rw [bne_eq_false_iff_eq]; exact hlen
              have HL := Lib.hid hlen
              clear hlen
              have HGG := Lib.hid (HG.out (evFp (by simp) HN.out HL.out))
              go_quiet (fail)
              go_wp2_with fail
              go_quiet (fail)
              go_wp2
              go_roundw
              case rel => exact ⟨1, by omega, by go_num, HGG, (by repeat (first | exact HB.out | refine below_drewN ?_ _ | refine Below.alloc ?_ hwb _))⟩
              case measure => simp [intOf]; omega
            · have bl : ((data.length : Int) != 16) = true := by rw [bne_iff_ne]; exact hlen
              have HL := Lib.hid hlen
              clear hlen
              go_quiet (fail)
              go_wp2
              go_ret
              exact ⟨1, HX.out 1 (evF1 (by simp) HN.out HL.out) (by decide), rfl, (by repeat (first | exact HB.out | refine below_drewN ?_ _ | refine Below.alloc ?_ hwb _))⟩
          · skip
            go_wp2_with (go_at_call 54; refine (eodd_contains _ data _ ?_).mono ?_; (exact HI.out.to (by simp) (same_alloc _ _)); rintro e w' (⟨rfl, ho, n1, rfl⟩ | ⟨rfl, ho, n1, rfl⟩))
            · go_ret
              exact ⟨2, HX.out 2 (evF2 (by simp) (Or.inr (Or.inr ho.out))) (by decide), rfl, (by repeat (first | exact HB.out | refine below_drewN ?_ _ | refine Below.alloc ?_ hwb _))⟩
            have HN := Lib.hid (show ¬ (at_ < 0 ∨ 3000 ≤ at_ ∨ data.any oddB = true) by rw [ho.out]; simp; omega)
            clear ho
            by_cases hlen : (data.length : Int) = 1
            · have bl : ((data.length : Int) != 1) = false := by rw [bne_eq_false_iff_eq]; exact hlen
              have HL := Lib.hid hlen
              clear hlen
              have HGG := Lib.hid (HG.out (evFp (by simp) HN.out HL.out))
              go_quiet (fail)
              go_wp2_with fail
              go_quiet (fail)
              go_wp2
              go_roundw
              case rel => exact ⟨1, by omega, by go_num, HGG, (by repeat (first | exact HB.out | refine below_drewN ?_ _ | refine Below.alloc ?_ hwb _))⟩
              case measure => simp [intOf]; omega
            · have bl : ((data.length : Int) != 1) = true := by rw [bne_iff_ne]; exact hlen
              have HL := Lib.hid hlen
              clear hlen
              go_quiet (fail)
              go_wp2
              go_ret
              exact ⟨1, HX.out 1 (evF1 (by simp) HN.out HL.out) (by decide), rfl, (by repeat (first | exact HB.out | refine below_drewN ?_ _ | refine Below.alloc ?_ hwb _))⟩
        | succ m =>
          have hm : m < l.length := by omega
          rw [if_neg (by omega), Nat.add_sub_cancel, List.getElem?_eq_getElem hm] at HX HG
          obtain ⟨b', off', cs', ha', hbb', hcs', hcell', ad', cd', hcs2', i1', i2', hint'⟩ := HC.out m hm
          simp only [Option.some.injEq, Addr.mk.injEq, and_true] at ha'
          obtain ⟨rfl, rfl⟩ := ha'
          subst hcs2'
          have p0 : wr.cell? ⟨b, off + m * 3, none⟩ = some (.int .i64 l[m].at_) := (same_below HB.out _ _ hbb').trans (hcell' 0 (by simp))
          have p1 : wr.cell? ⟨b, off + m * 3 + 1, none⟩ = some (.int .i64 l[m].kind) := (same_below HB.out _ _ hbb').trans (hcell' 1 (by simp))
          clear hcell' hint' i1' i2' hcs'
          generalize l[m] = px at *
          obtain ⟨pat, pkd, pda⟩ := px
          simp only at p0 p1
          have hg : decide ((0 : Int) < (m : Int) + 1) = true := by rw [decide_eq_true_iff]; omega
          have hm0 : (0 : Int) ≤ (m : Int) := by omega
          have hm1 : (m : Int) < (l.length : Int) := by omega
          have hbw : b < wr.heap.size := by omega
          have hwm : IntKind.i64.wrap (m : Int) = m := IntWalk.i64_in _ (by omega)
          rcases hkd with rfl | rfl | rfl
          · skip
            go_wp2_with (go_at_call 54; refine (eodd_contains _ data _ ?_).mono ?_; (exact HI.out.to (by simp) (same_alloc _ _)); rintro e w' (⟨rfl, ho, n1, rfl⟩ | ⟨rfl, ho, n1, rfl⟩))
            · go_ret
              exact ⟨2, HX.out 2 (evF2 (by simp) (Or.inr (Or.inr ho.out))) (by decide), rfl, (by repeat (first | exact HB.out | refine below_drewN ?_ _ | refine Below.alloc ?_ hwb _))⟩
            have HN := Lib.hid (show ¬ (at_ < 0 ∨ 3000 ≤ at_ ∨ data.any oddB = true) by rw [ho.out]; simp; omega)
            clear ho
            by_cases hlen : (data.length : Int) = 0
            · have bl : ((data.length : Int) != 0) = false := by rw [bne_eq_false_iff_eq]; exact hlen
              have HL := Lib.hid hlen
              clear hlen
              have hev := evFp (p := some ⟨pat, pkd, pda⟩) (x := ⟨at_, 1, data⟩) (by simp) HN.out HL.out
              simp only at hev
              rcases (show at_ < pat ∨ (pat = at_ ∧ 1 ≤ pkd) ∨ (pat = at_ ∧ pkd < 1) ∨ pat < at_ by omega) with o | ⟨o, o2⟩ | ⟨o, o2⟩ | o
              · skip
                have HR := Lib.hid (HX.out 9 (hev.trans (if_pos (by omega))) (by decide))
                have g1 : decide (at_ < pat) = true := by rw [decide_eq_true_iff]; exact o
                clear hev o
                go_quiet (fail)
                go_wp2_with fail
                go_quiet (fail)
                go_wp2
                go_ret
                exact ⟨9, HR.out, rfl, (by repeat (first | exact HB.out | refine below_drewN ?_ _ | refine Below.alloc ?_ hwb _))⟩
              · skip
                have HR := Lib.hid (HX.out 9 (hev.trans (if_pos (by omega))) (by decide))
                subst o
                have g1 : decide (pat < pat) = false := by simp
                have g3 : decide ((1 : Int) ≤ pkd) = true := by rw [decide_eq_true_iff]; exact o2
                clear hev o2
                go_quiet (fail)
                go_wp2_with fail
                go_quiet (fail)
                go_wp2
                go_ret
                exact ⟨9, HR.out, rfl, (by repeat (first | exact HB.out | refine below_drewN ?_ _ | refine Below.alloc ?_ hwb _))⟩
              · skip
                have HR := Lib.hid (HG.out (hev.trans (if_neg (by omega))))
                subst o
                have g1 : decide (pat < pat) = false := by simp
                have g3 : decide ((1 : Int) ≤ pkd) = false := by rw [decide_eq_false_iff_not]; omega
                clear hev o2
                go_quiet (fail)
                go_wp2_with fail
                go_quiet (fail)
                go_wp2
                go_roundw
                case rel => exact ⟨m + 1 + 1, by omega, by go_num, HR, (by repeat (first | exact HB.out | refine below_drewN ?_ _ | refine Below.alloc ?_ hwb _))⟩
                case measure => simp [intOf]; omega
              · skip
                have HR := Lib.hid (HG.out (hev.trans (if_neg (by omega))))
                have g1 : decide (at_ < pat) = false := by rw [decide_eq_false_iff_not]; omega
                have g2 : (pat == at_) = false := by rw [beq_eq_false_iff_ne]; omega
                clear hev o
                go_quiet (fail)
                go_wp2_with fail
                go_quiet (fail)
                go_wp2
                go_roundw
                case rel => exact ⟨m + 1 + 1, by omega, by go_num, HR, (by repeat (first | exact HB.out | refine below_drewN ?_ _ | refine Below.alloc ?_ hwb _))⟩
                case measure => simp [intOf]; omega
            · have bl : ((data.length : Int) != 0) = true := by rw [bne_iff_ne]; exact hlen
              have HL := Lib.hid hlen
              clear hlen
              go_quiet (fail)
              go_wp2
              go_ret
              exact ⟨1, HX.out 1 (evF1 (by simp) HN.out HL.out) (by decide), rfl, (by repeat (first | exact HB.out | refine below_drewN ?_ _ | refine Below.alloc ?_ hwb _))⟩
          · skip
            go_wp2_with (go_at_call 54; refine (eodd_contains _ data _ ?_).mono ?_; (exact HI.out.to (by simp) (same_alloc _ _)); rintro e w' (⟨rfl, ho, n1, rfl⟩ | ⟨rfl, ho, n1, rfl⟩))
            · go_ret
              exact ⟨2, HX.out 2 (evF2 (by simp) (Or.inr (Or.inr ho.out))) (by decide), rfl, (by repeat (first | exact HB.out | refine below_drewN ?_ _ | refine Below.alloc ?_ hwb _))⟩
            have HN := Lib.hid (show ¬ (at_ < 0 ∨ 3000 ≤ at_ ∨ data.any oddB = true) by rw [ho.out]; simp; omega)
            clear ho
            by_cases hlen : (data.length : Int) = 16
            · have bl : ((data.length : Int) != 16) = false := by rw [bne_eq_false_iff_eq]; exact hlen
              have HL := Lib.hid hlen
              clear hlen
              have hev := evFp (p := some ⟨pat, pkd, pda⟩) (x := ⟨at_, 2, data⟩) (by simp) HN.out HL.out
              simp only at hev
              rcases (show at_ < pat ∨ (pat = at_ ∧ 2 ≤ pkd) ∨ (pat = at_ ∧ pkd < 2) ∨ pat < at_ by omega) with o | ⟨o, o2⟩ | ⟨o, o2⟩ | o
              · skip
                have HR := Lib.hid (HX.out 9 (hev.trans (if_pos (by omega))) (by decide))
                have g1 : decide (at_ < pat) = true := by rw [decide_eq_true_iff]; exact o
                clear hev o
                go_quiet (fail)
                go_wp2_with fail
                go_quiet (fail)
                go_wp2
                go_ret
                exact ⟨9, HR.out, rfl, (by repeat (first | exact HB.out | refine below_drewN ?_ _ | refine Below.alloc ?_ hwb _))⟩
              · skip
                have HR := Lib.hid (HX.out 9 (hev.trans (if_pos (by omega))) (by decide))
                subst o
                have g1 : decide (pat < pat) = false := by simp
                have g3 : decide ((2 : Int) ≤ pkd) = true := by rw [decide_eq_true_iff]; exact o2
                clear hev o2
                go_quiet (fail)
                go_wp2_with fail
                go_quiet (fail)
                go_wp2
                go_ret
                exact ⟨9, HR.out, rfl, (by repeat (first | exact HB.out | refine below_drewN ?_ _ | refine Below.alloc ?_ hwb _))⟩
              · skip
                have HR := Lib.hid (HG.out (hev.trans (if_neg (by omega))))
                subst o
                have g1 : decide (pat < pat) = false := by simp
                have g3 : decide ((2 : Int) ≤ pkd) = false := by rw [decide_eq_false_iff_not]; omega
                clear hev o2
                go_quiet (fail)
                go_wp2_with fail
                go_quiet (fail)
                go_wp2
                go_roundw
                case rel => exact ⟨m + 1 + 1, by omega, by go_num, HR, (by repeat (first | exact HB.out | refine below_drewN ?_ _ | refine Below.alloc ?_ hwb _))⟩
                case measure => simp [intOf]; omega
              · skip
                have HR := Lib.hid (HG.out (hev.trans (if_neg (by omega))))
                have g1 : decide (at_ < pat) = false := by rw [decide_eq_false_iff_not]; omega
                have g2 : (pat == at_) = false := by rw [beq_eq_false_iff_ne]; omega
                clear hev o
                go_quiet (fail)
                go_wp2_with fail
                go_quiet (fail)
                go_wp2
                go_roundw
                case rel => exact ⟨m + 1 + 1, by omega, by go_num, HR, (by repeat (first | exact HB.out | refine below_drewN ?_ _ | refine Below.alloc ?_ hwb _))⟩
                case measure => simp [intOf]; omega
            · have bl : ((data.length : Int) != 16) = true := by rw [bne_iff_ne]; exact hlen
              have HL := Lib.hid hlen
              clear hlen
              go_quiet (fail)
              go_wp2
              go_ret
              exact ⟨1, HX.out 1 (evF1 (by simp) HN.out HL.out) (by decide), rfl, (by repeat (first | exact HB.out | refine below_drewN ?_ _ | refine Below.alloc ?_ hwb _))⟩
          · skip
            go_wp2_with (go_at_call 54; refine (eodd_contains _ data _ ?_).mono ?_; (exact HI.out.to (by simp) (same_alloc _ _)); rintro e w' (⟨rfl, ho, n1, rfl⟩ | ⟨rfl, ho, n1, rfl⟩))
            · go_ret
              exact ⟨2, HX.out 2 (evF2 (by simp) (Or.inr (Or.inr ho.out))) (by decide), rfl, (by repeat (first | exact HB.out | refine below_drewN ?_ _ | refine Below.alloc ?_ hwb _))⟩
            have HN := Lib.hid (show ¬ (at_ < 0 ∨ 3000 ≤ at_ ∨ data.any oddB = true) by rw [ho.out]; simp; omega)
            clear ho
            by_cases hlen : (data.length : Int) = 1
            · have bl : ((data.length : Int) != 1) = false := by rw [bne_eq_false_iff_eq]; exact hlen
              have HL := Lib.hid hlen
              clear hlen
              have hev := evFp (p := some ⟨pat, pkd, pda⟩) (x := ⟨at_, 3, data⟩) (by simp) HN.out HL.out
              simp only at hev
              rcases (show at_ < pat ∨ (pat = at_ ∧ 3 ≤ pkd) ∨ (pat = at_ ∧ pkd < 3) ∨ pat < at_ by omega) with o | ⟨o, o2⟩ | ⟨o, o2⟩ | o
              · skip
                have HR := Lib.hid (HX.out 9 (hev.trans (if_pos (by omega))) (by decide))
                have g1 : decide (at_ < pat) = true := by rw [decide_eq_true_iff]; exact o
                clear hev o
                go_quiet (fail)
                go_wp2_with fail
                go_quiet (fail)
                go_wp2
                go_ret
                exact ⟨9, HR.out, rfl, (by repeat (first | exact HB.out | refine below_drewN ?_ _ | refine Below.alloc ?_ hwb _))⟩
              · skip
                have HR := Lib.hid (HX.out 9 (hev.trans (if_pos (by omega))) (by decide))
                subst o
                have g1 : decide (pat < pat) = false := by simp
                have g3 : decide ((3 : Int) ≤ pkd) = true := by rw [decide_eq_true_iff]; exact o2
                clear hev o2
                go_quiet (fail)
                go_wp2_with fail
                go_quiet (fail)
                go_wp2
                go_ret
                exact ⟨9, HR.out, rfl, (by repeat (first | exact HB.out | refine below_drewN ?_ _ | refine Below.alloc ?_ hwb _))⟩
              · skip
                have HR := Lib.hid (HG.out (hev.trans (if_neg (by omega))))
                subst o
                have g1 : decide (pat < pat) = false := by simp
                have g3 : decide ((3 : Int) ≤ pkd) = false := by rw [decide_eq_false_iff_not]; omega
                clear hev o2
                go_quiet (fail)
                go_wp2_with fail
                go_quiet (fail)
                go_wp2
                go_roundw
                case rel => exact ⟨m + 1 + 1, by omega, by go_num, HR, (by repeat (first | exact HB.out | refine below_drewN ?_ _ | refine Below.alloc ?_ hwb _))⟩
                case measure => simp [intOf]; omega
              · skip
                have HR := Lib.hid (HG.out (hev.trans (if_neg (by omega))))
                have g1 : decide (at_ < pat) = false := by rw [decide_eq_false_iff_not]; omega
                have g2 : (pat == at_) = false := by rw [beq_eq_false_iff_ne]; omega
                clear hev o
                go_quiet (fail)
                go_wp2_with fail
                go_quiet (fail)
                go_wp2
                go_roundw
                case rel => exact ⟨m + 1 + 1, by omega, by go_num, HR, (by repeat (first | exact HB.out | refine below_drewN ?_ _ | refine Below.alloc ?_ hwb _))⟩
                case measure => simp [intOf]; omega
            · have bl : ((data.length : Int) != 1) = true := by rw [bne_iff_ne]; exact hlen
              have HL := Lib.hid hlen
              clear hlen
              go_quiet (fail)
              go_wp2
              go_ret
              exact ⟨1, HX.out 1 (evF1 (by simp) HN.out HL.out) (by decide), rfl, (by repeat (first | exact HB.out | refine below_drewN ?_ _ | refine Below.alloc ?_ hwb _))⟩
      · obtain rfl : k = l.length := by omega
        go_wp2
        go_ret
        exact ⟨0, Or.inr (Or.inr ⟨h1000', A.out, rfl⟩), rfl, hb⟩
end Go.Proofs.YtilcnlmapifdgaaDoor
