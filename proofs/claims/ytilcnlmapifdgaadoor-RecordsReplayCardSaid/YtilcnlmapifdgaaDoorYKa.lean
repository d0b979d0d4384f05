/- Several texts joined, each with its own heading in the notes: The contracts of the keep's words, guest and cpuTells. The contracts of the keep's guest and cpuTells. No condition beyond those of each row. -/
import Derived.Test.YtilcnlmapifdgaaDoorYRp
import Derived.Test.YtilcnlmapifdgaaDoorYPk
import Derived.Handy
namespace Go.Proofs.YtilcnlmapifdgaaDoor
open Go Go.RowKit Go.ChangeShapes Go.WideShapes Go.Deep
set_option linter.unusedVariables false
attribute [local go_sem ↓] Go.wp_at_zero Go.wp_at_succ

structure Ins where
  op : Int
  a : Int
  b : Int
  n : Int
def Ins.enc (x : Ins) : Int := encZ x.op x.a x.b x.n
def InsV (cs : List Value) (x : Ins) : Prop := cs = [.int .i64 x.op, .int .i64 x.a, .int .i64 x.b, .int .i64 x.n]
def InsR (B : Nat) (w : World) (v : Value) (l : List Ins) : Prop := SlN 4 1000 B w InsV v l

set_option maxHeartbeats 4000000 in
set_option maxRecDepth 100000 in
theorem kwords_any (v : Value) (l : List Ins) (w : World) (h : InsR w.heap.size w v l) : Calls Tryd.prog 48 #[v] w fun e w' => ∃ a c, e = .returned (.slice a l.length c) ∧ w'.ownsRow w.heap.size 3 1 (.slice a l.length c) l.length ((l.map Ins.enc).map (Value.int .i64)) ∧ Below w.heap.size w w' := by
  obtain ⟨a, c, rfl, hl, hlc, hcell⟩ := h
  have HC := Lib.hid hcell
  clear hcell
  go_enter Tryd.func48, Tryd.ntmps48
  go_wp2_with fail
  go_loopg [3, 10] l.length (fun gg s3 s10 wr => ∃ (k : Nat) (a1 : Option Addr) (c1 : Nat), k ≤ l.length ∧ l.length - k ≤ gg ∧ s10 = .int .i64 k ∧ s3 = .slice a1 k c1 ∧ Hid (wr.ownsRow w.heap.size 3 1 (.slice a1 k c1) k (((l.take k).map Ins.enc).map (Value.int .i64))) ∧ Hid (Below w.heap.size w wr))
  case atStart => exact ⟨0, none, 0, Nat.zero_le _, by omega, rfl, rfl, Lib.hid (by simpa using World.ownsRow_nil w w.heap.size 3 1), Lib.hid (Below.refl _ _)⟩
  case round =>
    obtain ⟨k, a1, c1, hk, hg, rfl, rfl, HO, HB⟩ := hrel
    by_cases hlt : k < l.length
    · obtain ⟨b, off, cs, ha, hbb, hcs, hcl, hiv⟩ := HC.out k hlt
      have HSB := Lib.hid (fun o => same_below HB.out b o hbb)
      have HT := Lib.hid (show (l.take (k + 1)).map Ins.enc = (l.take k).map Ins.enc ++ [l[k].enc] by rw [← List.take_append_getElem hlt, List.map_append]; rfl)
      have hlr : w.heap.size ≤ wr.heap.size := HB.out.size
      unfold InsV at hiv
      subst ha hiv
      have r0 : wr.cell? ⟨b, off + k * 4, none⟩ = some (.int .i64 l[k].op) := (HSB.out _).trans (hcl 0 (by simp))
      have r1 : wr.cell? ⟨b, off + k * 4 + 1, none⟩ = some (.int .i64 l[k].a) := (HSB.out _).trans (hcl 1 (by simp))
      have r2 : wr.cell? ⟨b, off + k * 4 + 2, none⟩ = some (.int .i64 l[k].b) := (HSB.out _).trans (hcl 2 (by simp))
      have r3 : wr.cell? ⟨b, off + k * 4 + 3, none⟩ = some (.int .i64 l[k].n) := (HSB.out _).trans (hcl 3 (by simp))
      have hbw : b < wr.heap.size := by omega
      have HE := Lib.hid (fun w => encode_any l[k].op l[k].a l[k].b l[k].n w)
      rw [show encZ l[k].op l[k].a l[k].b l[k].n = l[k].enc from rfl] at HE
      clear hcl hcs
      generalize l[k] = x at *
      generalize x.enc = z at *
      generalize iCode x.op x.a x.b x.n = ic at *
      generalize x.op = x1 at *
      generalize x.a = x2 at *
      generalize x.b = x3 at *
      generalize x.n = x4 at *
      go_wp2_with (first
        | (go_at_call 83; refine (HE.out _).mono ?_; rintro e w5 ⟨rfl, hb5⟩; have ho5 := own_below (own_below HO.out (below_alloc wr _) (Nat.le_refl _)) hb5 (Nat.le_refl _); have hB5 := (HB.out.trans ((below_alloc wr _).mono hlr)).trans (hb5.mono (by simp; omega)); have hs5 := hB5.size; have HO5 := Lib.hid ho5; have HB5 := Lib.hid hB5; clear ho5 hB5 hb5)
        | (at_builtin; go_loud (refine wpList_push w5 rfl (.tmp 19) (.tmp 21) 24 rfl w.heap.size 3 (.int .i64 0) 1 8 Tryd.underlying24 info_int rfl (by decide) [.int .i64 z] rfl (by simp [Value.oneCell']) _ _ _ (by rfl) HO5.out (by rfl) rfl (by omega) (by omega) hs5 ?_); intro g1 cp1 w1 hown1 hgrow1; have HO6 := Lib.hid hown1; have HB6 := Lib.hid (below_grown HB5.out HO5.out hgrow1 hs5 (Nat.le_refl _)); clear hown1 hgrow1))
      go_roundg (l.length - (k + 1))
      case measure => omega
      case rel => exact ⟨k + 1, _, _, by omega, by omega, by go_num, rfl, Lib.hid (by rw [HT.out, List.map_append]; exact HO6.out), HB6⟩
    · have hkl : k = l.length := by omega
      subst hkl
      rw [List.take_length] at HO
      go_wp2
      go_ret
      exact ⟨a1, c1, rfl, HO.out, HB.out⟩

theorem own_some0 {w : World} {base : Nat} {a : Option Addr} {n c : Nat} {xs : List Value} (h : w.ownsRow base 3 1 (.slice a n c) n xs) (hn : n ≠ 0) : ∃ g, a = some ⟨g, 0, none⟩ ∧ base ≤ g := by
  rcases h.2 with ⟨-, h0⟩ | ⟨g, cap, cur, hv, hb, -⟩
  · exact absurd h0 hn
  · injection hv with e1 e2 e3
    exact ⟨g, e1, hb⟩
theorem own_re {w : World} {base b2 : Nat} {t : TypeId} {s : Nat} {v : Value} {n : Nat} {xs : List Value} (h : w.ownsRow base t s v n xs) (hb : ∀ g, v.ownBlock = some g → b2 ≤ g) : w.ownsRow b2 t s v n xs := by
  obtain ⟨h1, h2⟩ := h
  refine ⟨h1, ?_⟩
  rcases h2 with h2 | ⟨g, cap, cur, rfl, hg, r⟩
  · exact Or.inl h2
  · exact Or.inr ⟨g, cap, cur, rfl, hb g rfl, r⟩
theorem KRSt.sinv {w0 w : World} {rb bb gr cr mb cm : Nat} {m : Mach} {ao : Option Addr} {co : Nat} (h : KRSt w0 rb bb gr cr mb cm m ao co w) (hr8 : m.regs.length = 8) (hm256 : m.mem.length = 256) : SInv w0 rb m (.slice (some ⟨gr, 0, none⟩) m.regs.length cr) (.slice (some ⟨mb, 0, none⟩) m.mem.length cm) (.slice ao m.out.length co) w := by
  refine ⟨⟨?_, ?_, own_re h.out h.lo, ?_, ?_, ?_, ?_, ?_, ?_⟩, ⟨_, h.rbox⟩, h.old⟩
  · rw [hr8]; exact own_re h.regs (fun g hg => by simp [Value.ownBlock] at hg; subst hg; exact h.lr)
  · rw [hm256]; exact own_re h.mem (fun g hg => by simp [Value.ownBlock] at hg; subst hg; exact h.lm)
  · exact Or.inr (by have := h.rm; simp [Value.ownBlock]; exact this)
  · exact Or.inr (fun e => h.ro e.symm)
  · exact Or.inr (fun e => h.mo e.symm)
  · exact Or.inr (by have := h.rm; simp [Value.ownBlock]; exact fun e => this e.symm)
  · exact Or.inr h.ro
  · exact Or.inr h.mo
end Go.Proofs.YtilcnlmapifdgaaDoor
namespace Go.Proofs.YtilcnlmapifdgaaDoor
open Go Go.RowKit Go.ChangeShapes Go.WideShapes Go.Deep
set_option linter.unusedVariables false
attribute [local go_sem ↓] Go.wp_at_zero Go.wp_at_succ

def GuestPost (w : World) (m : Mach) (e : Ending) (w' : World) : Prop := ∃ ar cr am cm ao co, e = .returned (.tuple #[m.agg (.slice ar m.regs.length cr) (.slice am m.mem.length cm) (.slice ao m.out.length co), .bool true]) ∧ MachOwn w.heap.size w' m (.slice ar m.regs.length cr) (.slice am m.mem.length cm) (.slice ao m.out.length co) ∧ Below w.heap.size w w'
theorem GuestPost.of {w0 w : World} {g : Nat} {m : Mach} {ar am ao : Option Addr} {cr cm co : Nat} (h8 : m.regs.length = 8) (h256 : m.mem.length = 256) (h : SInv w0 g m (.slice ar m.regs.length cr) (.slice am m.mem.length cm) (.slice ao m.out.length co) w) : GuestPost w0 m (.returned (.tuple #[.agg #[.slice ar 8 cr, .int .i64 m.pc, .int .i64 m.back, .bool m.ints, .bool m.wait, .int .i64 m.table, .int .i64 m.count, .int .i64 m.fin, .slice am 256 cm, .slice ao m.out.length co, .int .i64 m.ready, .int .i64 m.want], .bool true])) w :=
  ⟨ar, cr, am, cm, ao, co, by unfold Mach.agg; rw [h8, h256], h.own, h.below⟩
end Go.Proofs.YtilcnlmapifdgaaDoor
