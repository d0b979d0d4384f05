/- The contract of a core's do, operation 6. No condition beyond the readings. -/
import Derived.Test.YtbenfbfbohecmaaOe
import Derived.Test.YtbenfbfbohecmaaPl
import Derived.Deep.RegionWith
import Derived.Deep.RegionLaw
import Derived.Deep.CutBlock
import Derived.Deep.RegionHeld3
namespace Go.Proofs.Ytbenfbfbohecmaa
open Go Go.RowKit Go.ChangeShapes Go.WideShapes Go.Deep
set_option linter.unusedVariables false
attribute [local go_sem ↓] Go.wp_at_zero Go.wp_at_succ

set_option maxHeartbeats 4000000 in
set_option maxRecDepth 100000 in
theorem do_6 {t fL fS : Nat} {v : Value} {St : World → (Nat → Prop) → List Int → Bool → Prop} (hM : MemI t fL fS v St) {w0 w : World} {D : Nat → Prop} {cb gr cr : Nat} {vm : Value} {m : Mach} {x : Bool} {ao : Option Addr} {co : Nat} {F : Nat → Prop} (h : GSt St w0 D cb gr cr vm m (-1) x ao co F w) (hm : MOk m) (a b : Nat) (n value : Int) (ha : a < 8) (hb : b < 8) (hn : -1048576 ≤ n ∧ n ≤ 1048575) (hv : WordZ value) : Calls Try.prog 26 #[.pointer (some ⟨cb, 0, none⟩), .iface t v, .agg #[.int .i64 6, .int .i64 a, .int .i64 b, .int .i64 n], .int .i64 value] w (DoPost St w0 D cb gr cr vm m x (doM m 6 a b n value)) := by
  have HOK := Lib.hid (doM_ok hm 6 a b n value (by unfold WordZ; omega) hv)
  have c0 : w.cell? ⟨cb, 0, none⟩ = some (.slice (some ⟨gr, 0, none⟩) 8 cr) := cell_block h.box 0
  have c1 : w.cell? ⟨cb, 1, none⟩ = some (.int .i64 m.pc) := cell_block h.box 1
  have f1 := free_block h.box 1
  have ra := h.reg_at ha
  have rb := h.reg_at hb
  have fa := h.reg_free a
  have lc := h.clt
  have lr := h.rlt
  have hpc := hm.pc
  have hne1 : ¬ gr = cb := h.rne
  have hne2 : ¬ cb = gr := fun e => h.rne e.symm
  have ha' : (a : Int) < 8 := by omega
  have hb' : (b : Int) < 8 := by omega
  have wa := hm.wreg a
  have wb := hm.wreg b
  have w1 : IntKind.i64.wrap (m.pc + 1) = m.pc + 1 := IntWalk.i64_in _ (by omega)
  have HH := Lib.hid h
  have HM := Lib.hid hM
  have HMO := Lib.hid hm
  have w2 : IntKind.i64.wrap (m.reg b + n) = m.reg b + n := IntWalk.i64_in _ (by unfold WordZ at wb; omega)
  have HST : Hid (∀ W, W = (w.alloc (.cells #[.int .i64 6, .int .i64 a, .int .i64 b, .int .i64 n] 51)).drew → Calls Try.prog 34 #[.pointer (some ⟨cb, 0, none⟩), .iface t v, .int .i64 (m.reg b + n), .int .i64 (m.reg a)] W (fun e w' => ∃ en m' wr' x', e = .returned (.int .i64 en) ∧ GS St w0 D cb gr cr vm m' wr' x' w' ∧ ((x' = x ∧ (((placeZ m.table m.mem (m.reg b + n) true).2 = 0 ∧ en = 0 ∧ m' = { m with mem := m.mem.set (placeZ m.table m.mem (m.reg b + n) true).1.toNat (m.reg a) } ∧ wr' = (placeZ m.table m.mem (m.reg b + n) true).1) ∨ ((placeZ m.table m.mem (m.reg b + n) true).2 ≠ 0 ∧ en = (placeZ m.table m.mem (m.reg b + n) true).2 ∧ m' = m ∧ wr' = -1))) ∨ (x' = true ∧ m' = m ∧ en = 3)) ∧ w'.cell? ⟨w.heap.size, 1, none⟩ = some (.int .i64 a) ∧ w'.cell? ⟨w.heap.size, 2, none⟩ = some (.int .i64 b) ∧ w'.cell? ⟨w.heap.size, 3, none⟩ = some (.int .i64 n) ∧ w'.cell? ⟨gr, a, none⟩ = some (.int .i64 (m.reg a)) ∧ w'.cell? ⟨gr, b, none⟩ = some (.int .i64 (m.reg b)))) := Lib.hid (fun W hW => by
    subst hW
    refine (store_any hM ((h.alloc hM _).drew hM) hm.table (m.reg b + n) (m.reg a) wa).mono ?_
    rintro e w' ⟨en, m', wr', x', he, hgs, hcc, hcase⟩
    have hnF : ¬ F w.heap.size := fun k => by have := hM.lt _ _ _ _ h.mem _ k; omega
    have hb (i : Nat) : w'.cell? ⟨w.heap.size, i, none⟩ = (#[.int .i64 6, .int .i64 a, .int .i64 b, .int .i64 n] : Array Value)[i]? := (hcc w.heap.size i (by show w.heap.size < (w.heap.push _).size; simp) hnF (by omega)).trans (cell_block (w := w.alloc (.cells #[.int .i64 6, .int .i64 a, .int .i64 b, .int .i64 n] 51)) (alloc_at rfl) i)
    have hg (i : Nat) : w'.cell? ⟨gr, i, none⟩ = w.cell? ⟨gr, i, none⟩ := (hcc gr i (by show gr < (w.heap.push _).size; simp; omega) h.fr h.rne).trans (same_alloc w _ gr i lr)
    exact ⟨en, m', wr', x', he, hgs, hcase, hb 1, hb 2, hb 3, (hg a).trans ra, (hg b).trans rb⟩)
  have HQ := Lib.hid (fun (p : Int × Int) (hp : placeZ m.table m.mem (m.reg b + n) true = p) => show doM m 6 a b n value = if p.2 = 0 then ((({ m with mem := m.mem.set p.1.toNat (m.reg a) } : Mach)).goTo (m.pc + 1), 0, p.1) else (m, p.2, -1) from by subst hp; rfl)
  generalize hpz : placeZ m.table m.mem (m.reg b + n) true = pz at *
  have hdo := HQ.out pz rfl
  have HBD := Lib.hid (show pz.2 = 0 ∨ pz.2 = 3 ∨ pz.2 = 4 from by rw [← hpz]; exact (placeZ_bd _ _ _ _).2.2)
  clear HQ hpz
  rw [hdo] at HOK ⊢
  clear hdo
  generalize hrr : (if pz.2 = 0 then (({ m with mem := m.mem.set pz.1.toNat (m.reg a) } : Mach).goTo (m.pc + 1), (0 : Int), pz.1) else (m, pz.2, (-1 : Int))) = r at *
  have HR := Lib.hid hrr
  clear hrr
  generalize hza : m.reg a = za at *
  generalize hzz : m.reg b + n = zz at *
  clear h hm hM
  go_enter Try.func26, Try.ntmps26
  go_upto_region 20 with fail
  go_cut [13] from 15 (fun s13 wx => ∃ en m' wr' x', s13 = .int .i64 en ∧ Hid (GS St w0 D cb gr cr vm m' wr' x' wx) ∧ Hid ((x' = x ∧ ((pz.2 = 0 ∧ en = 0 ∧ m' = { m with mem := m.mem.set pz.1.toNat za } ∧ wr' = pz.1) ∨ (pz.2 ≠ 0 ∧ en = pz.2 ∧ m' = m ∧ wr' = -1))) ∨ (x' = true ∧ m' = m ∧ en = 3)))
  case first =>
    go_region_held3 (fun w' => w'.cell? ⟨w.heap.size, 1, none⟩ = some (.int .i64 a) ∧ w'.cell? ⟨w.heap.size, 2, none⟩ = some (.int .i64 b) ∧ w'.cell? ⟨w.heap.size, 3, none⟩ = some (.int .i64 n) ∧ w'.cell? ⟨gr, a, none⟩ = some (.int .i64 za) ∧ w'.cell? ⟨gr, b, none⟩ = some (.int .i64 (m.reg b))) (first | ((try dsimp only); (repeat' apply And.intro) <;> (first | assumption | go_keep))) ((go_at_call 34; refine (HST.out _ rfl).mono ?_; rintro e w' ⟨en, m', wr', x', rfl, hgs, hcase, s1, s2, s3, s4, s5⟩; have HGS := Lib.hid hgs; have HCASE := Lib.hid hcase; clear hgs hcase))
    all_goals (go_wp2_with fail; go_meet)
    all_goals exact ⟨_, _, _, _, rfl, HGS, HCASE⟩
  case rest =>
    clear c0 c1 f1 ra rb fa lc lr HST
    obtain ⟨en, m', wr', x', rfl, HGS, HCASE⟩ := hcut
    obtain ⟨ao', co', F', hgst⟩ := HGS.out
    have HG := Lib.hid hgst
    have f1 := free_block hgst.box 1
    have c1 : wc.cell? ⟨cb, 1, none⟩ = some (.int .i64 m'.pc) := cell_block hgst.box 1
    have lc := hgst.clt
    clear hgst
    rcases HCASE.out with ⟨rfl, ⟨h0, rfl, rfl, rfl⟩ | ⟨h0, rfl, rfl, rfl⟩⟩ | ⟨rfl, rfl, rfl⟩
    · have hr0 := HR.out
      rw [if_pos h0] at hr0
      subst hr0
      clear h0 HCASE HBD
      go_wp2_with (go_at_call 33; refine (fold_any _ _ (by omega) (by omega)).mono ?_; rintro e w' ⟨rfl, rfl⟩)
      go_ret
      refine DoPost.ok HOK.out rfl ?_
      exact (GSt.put HM.out HG.out 1 _ (({ m with mem := m.mem.set pz.1.toNat za } : Mach).goTo (m.pc + 1)) _ rfl rfl rfl rfl).gs
    · have hr0 := HR.out
      rw [if_neg h0] at hr0
      subst hr0
      have hen : (pz.2 != 0) = true := by rw [bne_iff_ne]; exact h0
      clear h0 HCASE HBD
      go_wp2_with fail
      go_ret
      exact DoPost.ok HOK.out rfl HG.out.gs
    · clear HCASE
      go_wp2_with fail
      go_ret
      exact ⟨3, _, _, _, rfl, HG.out.gs, HMO.out, by omega, by omega, rfl, Or.inr rfl⟩
end Go.Proofs.Ytbenfbfbohecmaa
