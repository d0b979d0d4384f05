/- The contracts of the keep's guest and cpuTells. No condition beyond the readings. -/
import Derived.Test.YtojdpegkbndklaaKa
namespace Go.Proofs.Ytojdpegkbndklaa
open Go Go.RowKit Go.ChangeShapes Go.WideShapes Go.Deep
set_option linter.unusedVariables false
attribute [local go_sem ↓] Go.wp_at_zero Go.wp_at_succ

def gf (z : Int) : Int := foldZ (z.tmod 2199023255552)
def Mach.withRegs (m : Mach) (b : List Int) : Mach := { m with regs := blit m.regs 0 b }
/-- A guest of instructions, with registers. -/
def gM (rs img : List Int) : Mach := (imageM img).withRegs (rs.map gf)
def GuestPost (w : World) (m : Mach) (e : Ending) (w' : World) : Prop := ∃ ar cr am cm ao co, e = .returned (.tuple #[m.agg (.slice ar m.regs.length cr) (.slice am m.mem.length cm) (.slice ao m.out.length co), .bool true]) ∧ MachOwn w.heap.size w' m (.slice ar m.regs.length cr) (.slice am m.mem.length cm) (.slice ao m.out.length co) ∧ Below w.heap.size w w'
theorem GuestPost.of {w0 w : World} {g : Nat} {m : Mach} {ar am ao : Option Addr} {cr cm co : Nat} (h8 : m.regs.length = 8) (h256 : m.mem.length = 256) (h : SInv w0 g m (.slice ar m.regs.length cr) (.slice am m.mem.length cm) (.slice ao m.out.length co) w) : GuestPost w0 m (.returned (.tuple #[.agg #[.slice ar 8 cr, .int .i64 m.pc, .int .i64 m.back, .bool m.ints, .bool m.wait, .int .i64 m.table, .int .i64 m.count, .int .i64 m.fin, .slice am 256 cm, .slice ao m.out.length co, .int .i64 m.ready, .int .i64 m.want], .bool true])) w :=
  ⟨ar, cr, am, cm, ao, co, by unfold Mach.agg; rw [h8, h256], h.own, h.below⟩
theorem withRegs_next {m : Mach} {b : List Int} {i : Nat} (hi : i < b.length) (h8 : b.length ≤ m.regs.length) : (m.withRegs (b.take i)).setReg (i : Int) b[i] = m.withRegs (b.take (i + 1)) := by
  have h := blit_step (mem := m.regs) (k := 0) hi (by omega)
  unfold Mach.withRegs Mach.setReg
  rw [Nat.zero_add] at h
  rw [Int.toNat_natCast]
  show ({ m with regs := _ } : Mach) = { m with regs := _ }
  rw [← h]

set_option maxHeartbeats 4000000 in
set_option maxRecDepth 100000 in
theorem guest_any (vr vl : Value) (rs : List Int) (l : List Ins) (w : World) (hr : Ints w.heap.size w vr rs) (hrl : rs.length ≤ 8) (hl : InsR w.heap.size w vl l) (h1 : (l.map Ins.enc).length ≤ 256) (h2 : (l.map Ins.enc).any oddB = false) : Calls Try.prog 15 #[vr, vl] w (GuestPost w (gM rs (l.map Ins.enc))) := by
  obtain ⟨ra, rc, rfl, hrl2, hrc, hcell⟩ := id hr
  have HR := Lib.hid hr
  have HC := Lib.hid hcell
  have HLI := Lib.hid hl
  have hr8 : (imageM (l.map Ins.enc)).regs.length = 8 := rfl
  have hm256 := image_len _ h1
  have hgm : gM rs (l.map Ins.enc) = (imageM (l.map Ins.enc)).withRegs (rs.map gf) := rfl
  rw [hgm]
  have HNG := Lib.hid (fun (w0 w1 : World) a c (ho : w1.ownsRow w0.heap.size 3 1 (.slice a l.length c) l.length ((l.map Ins.enc).map (Value.int .i64))) => new_good (.slice a l.length c) (l.map Ins.enc) w1 (by have e : l.length = (l.map Ins.enc).length := (by simp); rw [e] at ho ⊢; exact ints_of_owns ho (by omega) (fun z hz => (words_of h2 z hz).i64)) h1 h2)
  clear hr hl hcell h1 h2 hgm
  generalize imageM (l.map Ins.enc) = m0 at *
  go_enter Try.func15, Try.ntmps15
  go_wp2_with (first
    | (go_at_call 35; refine (kwords_any _ l _ ?_).mono ?_; (exact SlN.to (Nat.le_refl _) (by simp) (same_alloc w _) (fun _ _ h => h) HLI.out); rintro e w1 ⟨a1, c1, rfl, ho1, hb1⟩; have hx1 := block_below hb1 (alloc_at (w := w) rfl) (by simp); have hB1 := (below_alloc w _).trans (hb1.mono (by simp)))
    | (go_at_call 19; refine (HNG.out _ _ _ _ ho1).mono ?_; rintro e w2 ⟨ar, cr, am, cm, ao, co, he, hown, hb2⟩; rw [Mach.agg, hr8, hm256] at he; subst he; have hx2 := block_below hb2 hx1 (by have := hB1.size; have := (Array.getElem?_eq_some_iff.1 hx1).1; omega); have hB2 := hB1.trans (hb2.mono hB1.size); obtain ⟨gr, mb, rfl, rfl, hg⟩ := rst_start hr8 hm256 hown hB1.size hB2 hx2; have HG := Lib.hid hg; clear hg hown hx1 hx2 hb1 hb2 ho1 hB1 hB2))
  have hgb := HG.out.blt
  generalize w2.heap.size = gb at *
  generalize hW4 : w2.alloc _ = w4 at *
  clear hW4
  go_loopg [18] rs.length (fun gg s18 wr => ∃ k : Nat, k ≤ rs.length ∧ rs.length - k ≤ gg ∧ s18 = .int .i64 k ∧ Hid (RS w w.heap.size gb gr cr mb cm (m0.withRegs ((rs.map gf).take k)) wr))
  case atStart => exact ⟨0, Nat.zero_le _, by omega, rfl, Lib.hid (by have e : m0.withRegs ((rs.map gf).take 0) = m0 := (by unfold Mach.withRegs; rw [List.take_zero, blit_nil]); rw [e]; exact HG.out.rs)⟩
  case round =>
    obtain ⟨k, hk, hg, rfl, H⟩ := hrel
    obtain ⟨az, dz, hz⟩ := H.out
    by_cases hlt : k < rs.length
    · obtain ⟨b, off, vi, ha, hbb, hcl, hvi, hzi⟩ := HC.out k hlt
      subst ha hvi
      have r0 : wr.cell? ⟨b, off + k, none⟩ = some (.int .i64 rs[k]) := (same_below hz.old _ _ hbb).trans hcl
      have c0 : wr.cell? ⟨gb, 0, none⟩ = some (.slice (some ⟨gr, 0, none⟩) 8 cr) := cell_block hz.box 0
      have ck := hz.reg_at (a := k) (by omega)
      have fk := hz.regs.frozenAt k
      have lgr := hz.rlt
      have lgb := hz.blt
      have hk8 : (k : Int) < 8 := by omega
      have hkl : k < (rs.map gf).length := by simpa using hlt
      have HN := Lib.hid (withRegs_next (m := m0) hkl (by rw [hr8]; simpa using hrl))
      have hgk : (rs.map gf)[k] = gf rs[k] := by simp
      rw [hgk] at HN
      have HZ := Lib.hid hz
      have hF := fun (w : World) => fold_any (rs[k].tmod 2199023255552) w (by have := Int.tmod_lt_of_pos rs[k] (b := 2199023255552) (by omega); have := Int.lt_tmod_of_pos rs[k] (b := 2199023255552) (by omega); omega) (by have := Int.tmod_lt_of_pos rs[k] (b := 2199023255552) (by omega); omega)
      rw [show foldZ (rs[k].tmod 2199023255552) = gf rs[k] from rfl] at hF
      have HF := Lib.hid hF
      have hwr : IntKind.i64.wrap (rs[k].tmod 2199023255552) = rs[k].tmod 2199023255552 := IntWalk.i64_in _ (by have := Int.tmod_lt_of_pos rs[k] (b := 2199023255552) (by omega); have := Int.lt_tmod_of_pos rs[k] (b := 2199023255552) (by omega); omega)
      clear hcl hz hgk hF
      generalize hgz : gf rs[k] = gz at *
      generalize rs[k] = z at *
      go_wp2_with fail
      go_region_with (go_at_call 17; refine (HF.out _).mono ?_; rintro e w' ⟨rfl, rfl⟩)
      all_goals (
        go_wp2_with fail
        go_roundg (rs.length - (k + 1))
        case measure => omega
        case rel => exact ⟨k + 1, by omega, by omega, by go_num, Lib.hid (by rw [← HN.out]; first | exact (HZ.out.setReg k gz).rs | exact (HZ.out.setReg k gz).drew.rs | exact (HZ.out.drew.setReg k gz).rs | exact ((HZ.out.drew.setReg k gz).drew).rs | exact ((HZ.out.drewN _).setReg k gz).rs)⟩)
    · have hkl : k = rs.length := by omega
      subst hkl
      rw [show (rs.map gf).take rs.length = rs.map gf from List.take_of_length_le (by simp)] at hz
      clear H
      have hq8 : (m0.withRegs (rs.map gf)).regs.length = 8 := by unfold Mach.withRegs; show (blit _ _ _).length = 8; rw [blit_len (by rw [hr8]; simpa using hrl)]; exact hr8
      have hq256 : (m0.withRegs (rs.map gf)).mem.length = 256 := hm256
      generalize m0.withRegs (rs.map gf) = mz at *
      have HZ := Lib.hid hz
      have p0 : wr.cell? ⟨gb, 0, none⟩ = some (.slice (some ⟨gr, 0, none⟩) 8 cr) := cell_block hz.box 0
      have p1 : wr.cell? ⟨gb, 1, none⟩ = some (.int .i64 mz.pc) := cell_block hz.box 1
      have p2 : wr.cell? ⟨gb, 2, none⟩ = some (.int .i64 mz.back) := cell_block hz.box 2
      have p3 : wr.cell? ⟨gb, 3, none⟩ = some (.bool mz.ints) := cell_block hz.box 3
      have p4 : wr.cell? ⟨gb, 4, none⟩ = some (.bool mz.wait) := cell_block hz.box 4
      have p5 : wr.cell? ⟨gb, 5, none⟩ = some (.int .i64 mz.table) := cell_block hz.box 5
      have p6 : wr.cell? ⟨gb, 6, none⟩ = some (.int .i64 mz.count) := cell_block hz.box 6
      have p7 : wr.cell? ⟨gb, 7, none⟩ = some (.int .i64 mz.fin) := cell_block hz.box 7
      have p8 : wr.cell? ⟨gb, 8, none⟩ = some (.slice (some ⟨mb, 0, none⟩) 256 cm) := cell_block hz.box 8
      have p9 : wr.cell? ⟨gb, 9, none⟩ = some (.slice az mz.out.length dz) := cell_block hz.box 9
      have p10 : wr.cell? ⟨gb, 10, none⟩ = some (.int .i64 mz.ready) := cell_block hz.box 10
      have p11 : wr.cell? ⟨gb, 11, none⟩ = some (.int .i64 mz.want) := cell_block hz.box 11
      have r0 : wr.cell? ⟨w.heap.size, 0, none⟩ = some (.slice none 0 0) := cell_block hz.rbox 0
      have g0 := free_block hz.rbox 0
      have r1 : wr.cell? ⟨w.heap.size, 1, none⟩ = some (.int .i64 0) := cell_block hz.rbox 1
      have g1 := free_block hz.rbox 1
      have r2 : wr.cell? ⟨w.heap.size, 2, none⟩ = some (.int .i64 0) := cell_block hz.rbox 2
      have g2 := free_block hz.rbox 2
      have r3 : wr.cell? ⟨w.heap.size, 3, none⟩ = some (.bool false) := cell_block hz.rbox 3
      have g3 := free_block hz.rbox 3
      have r4 : wr.cell? ⟨w.heap.size, 4, none⟩ = some (.bool false) := cell_block hz.rbox 4
      have g4 := free_block hz.rbox 4
      have r5 : wr.cell? ⟨w.heap.size, 5, none⟩ = some (.int .i64 0) := cell_block hz.rbox 5
      have g5 := free_block hz.rbox 5
      have r6 : wr.cell? ⟨w.heap.size, 6, none⟩ = some (.int .i64 0) := cell_block hz.rbox 6
      have g6 := free_block hz.rbox 6
      have r7 : wr.cell? ⟨w.heap.size, 7, none⟩ = some (.int .i64 0) := cell_block hz.rbox 7
      have g7 := free_block hz.rbox 7
      have r8 : wr.cell? ⟨w.heap.size, 8, none⟩ = some (.slice none 0 0) := cell_block hz.rbox 8
      have g8 := free_block hz.rbox 8
      have r9 : wr.cell? ⟨w.heap.size, 9, none⟩ = some (.slice none 0 0) := cell_block hz.rbox 9
      have g9 := free_block hz.rbox 9
      have r10 : wr.cell? ⟨w.heap.size, 10, none⟩ = some (.int .i64 0) := cell_block hz.rbox 10
      have g10 := free_block hz.rbox 10
      have r11 : wr.cell? ⟨w.heap.size, 11, none⟩ = some (.int .i64 0) := cell_block hz.rbox 11
      have g11 := free_block hz.rbox 11
      have lgb := hz.blt
      have lrb := hz.rbl
      clear hz
      go_wp2
      refine bodyPost_ret (v := .tuple #[.agg #[.slice (some ⟨gr, 0, none⟩) 8 cr, .int .i64 mz.pc, .int .i64 mz.back, .bool mz.ints, .bool mz.wait, .int .i64 mz.table, .int .i64 mz.count, .int .i64 mz.fin, .slice (some ⟨mb, 0, none⟩) 256 cm, .slice az mz.out.length dz, .int .i64 mz.ready, .int .i64 mz.want], .bool true]) (by simp [results, Try.results15, go_sem, r0, r1, r2, r3, r4, r5, r6, r7, r8, r9, r10, r11]) rfl ?_
      clear p0 p1 p2 p3 p4 p5 p6 p7 p8 p9 p10 p11 r0 r1 r2 r3 r4 r5 r6 r7 r8 r9 r10 r11 g0 g1 g2 g3 g4 g5 g6 g7 g8 g9 g10 g11
      have h0 := HZ.out.sinv hq8 hq256
      have hF := ((((((((((((h0.step (Nat.le_refl _) 0 (.slice (some ⟨gr, 0, none⟩) 8 cr)).step (Nat.le_refl _) 1 (.int .i64 mz.pc)).step (Nat.le_refl _) 2 (.int .i64 mz.back)).step (Nat.le_refl _) 3 (.bool mz.ints)).step (Nat.le_refl _) 4 (.bool mz.wait)).step (Nat.le_refl _) 5 (.int .i64 mz.table)).step (Nat.le_refl _) 6 (.int .i64 mz.count)).step (Nat.le_refl _) 7 (.int .i64 mz.fin)).step (Nat.le_refl _) 8 (.slice (some ⟨mb, 0, none⟩) 256 cm)).step (Nat.le_refl _) 9 (.slice az mz.out.length dz)).step (Nat.le_refl _) 10 (.int .i64 mz.ready)).step (Nat.le_refl _) 11 (.int .i64 mz.want))
      exact GuestPost.of hq8 hq256 hF
end Go.Proofs.Ytojdpegkbndklaa
