/- Several texts joined, each with its own heading in the notes: Piece of the document's RecordedOf: is there an interrupt. The document's recorder in a world; an interrupt is told. No condition beyond those of each row. -/
import Derived.Test.YtenicnneppgfmaaDoorYQd
import Derived.Test.YtenicnneppgfmaaDoorYSu
import Derived.Handy
import Derived.StillTailTactics
import Derived.Deep.RegionWith
import Derived.Deep.RegionLaw
import Derived.Deep.CutBlock
import Derived.Deep.CutRange
import Derived.Deep.RegionHeld3
import Derived.Deep.LoopGhost
namespace Go.Proofs.YtenicnneppgfmaaDoor
open Go Go.RowKit Go.ChangeShapes Go.WideShapes Go.Deep
set_option linter.unusedVariables false
attribute [local go_sem ↓] Go.wp_at_zero Go.wp_at_succ

theorem contains_take {is : List Int} {k : Int} {i : Nat} (h : i < is.length) : (is.take (i + 1)).contains k = ((is.take i).contains k || (is[i] == k)) := by
  rw [List.take_add_one, List.getElem?_eq_getElem h, Option.toList_some]
  simp only [List.contains_eq_any_beq, List.any_append, List.any_cons, List.any_nil, Bool.or_false]
  congr 1
  exact Bool.beq_comm
def navD : List Nat → Code → Code
  | [], c => c
  | 0 :: p, .seq a _ => navD p a
  | 1 :: p, .seq _ b => navD p b
  | 0 :: p, .block _ c => navD p c
  | 0 :: p, .loop c => navD p c
  | 0 :: p, .scope c => navD p c
  | 0 :: p, .cond _ a _ => navD p a
  | 1 :: p, .cond _ _ b => navD p b
  | _, _ => .skip
/-- A statement of the function, by its way from the body. -/
noncomputable def c13 (p : List Nat) : Code := navD p (Tryd.f13.body.getD .skip)

set_option maxHeartbeats 8000000 in
set_option maxRecDepth 100000 in
theorem rr_irq {wz : World} {wb : Nat} {a0 a1 a2 a3 : Option Addr} {c0 c1 c2 c3 : Nat} {is vs : List Int} {bs : List (List Int)} {ds : List Int} {k : Int} {tt : Bool} {K : Act → World → Prop} {Q' : Exit → Act → World → Prop} {x0 x1 x2 x3 x5 x6 x7 x8 x9 x10 x11 x12 x13 x14 x18 x19 x20 x21 x22 x23 x24 x25 x26 x27 x28 x29 x30 x31 x32 x33 x34 x35 x36 x37 x38 x39 x40 x41 x42 x43 x44 x45 x46 x47 x48 x49 x50 x51 x52 x53 x54 x55 x56 x57 x58 x59 x60 x61 x62 x63 x64 x65 x66 x67 x68 x69 x70 x71 x72 x73 x74 x75 x76 x77 x78 x79 x80 x81 x82 x83 x84 x85 x86 x87 x88 x89 x90 x91 x92 x93 x94 x95 x96 x97 x98 x99 x100 x101 x102 x103 x104 x105 x106 x107 x108 x109 x110 x111 x112 x113 x114 x115 x116 x117 x118 x119 x120 x121 x122 x123 x124 x125 x126 x127 x128 x129 x130 x131 x132 x133 x134 x135 x136 x137 x138 x139 x140 x141 x142 x143 x144 x145 x146 x147 x148 x149 x150 x151 x152 x153 x154 x155 x156 x157 x158 x159 x160 x161 x162 x163 x164 x165 x166 x167 x168 x169 x170 x171 x172 x173 x174 x175 x176 x177 x178 x179 x180 x181 x182 x183 x184 x185 x186 x187 x188 x189 x190 x191 x192 x193 x194 x195 x196 x197 x198 x199 x200 x201 x202 x203 x204 x205 x206 x207 x208 x209 x210 x211 x212 x213 x214 x215 : Value} (HW : Hid (wz.heap[wb]? = some (.cells #[.slice a0 is.length c0, .slice a1 vs.length c1, .slice a2 bs.length c2, .slice a3 ds.length c3] 25 (0, 0)))) (HI : Hid (Ints wz.heap.size wz (.slice a0 is.length c0) is)) (HTT : Hid (is.contains k = tt)) (hK : ∀ (y59 y60 y61 y62 y63 y64 y65 y66 y67 y68 y69 y70 y71 y72 y73 y74 y75 : Value) (s16 s17 : Value) (wx : World), (s16 = .bool tt ∧ wx = wz) → K ⟨List.toArray (x0 :: x1 :: x2 :: x3 :: .pointer (some ⟨wb, 0, none⟩) :: x5 :: x6 :: x7 :: x8 :: x9 :: x10 :: x11 :: x12 :: x13 :: x14 :: .int .i64 k :: s16 :: s17 :: x18 :: x19 :: x20 :: x21 :: x22 :: x23 :: x24 :: x25 :: x26 :: x27 :: x28 :: x29 :: x30 :: x31 :: x32 :: x33 :: x34 :: x35 :: x36 :: x37 :: x38 :: x39 :: x40 :: x41 :: x42 :: x43 :: x44 :: x45 :: x46 :: x47 :: x48 :: x49 :: x50 :: x51 :: x52 :: x53 :: x54 :: x55 :: x56 :: x57 :: x58 :: y59 :: y60 :: y61 :: y62 :: y63 :: y64 :: y65 :: y66 :: y67 :: y68 :: y69 :: y70 :: y71 :: y72 :: y73 :: y74 :: y75 :: x76 :: x77 :: x78 :: x79 :: x80 :: x81 :: x82 :: x83 :: x84 :: x85 :: x86 :: x87 :: x88 :: x89 :: x90 :: x91 :: x92 :: x93 :: x94 :: x95 :: x96 :: x97 :: x98 :: x99 :: x100 :: x101 :: x102 :: x103 :: x104 :: x105 :: x106 :: x107 :: x108 :: x109 :: x110 :: x111 :: x112 :: x113 :: x114 :: x115 :: x116 :: x117 :: x118 :: x119 :: x120 :: x121 :: x122 :: x123 :: x124 :: x125 :: x126 :: x127 :: x128 :: x129 :: x130 :: x131 :: x132 :: x133 :: x134 :: x135 :: x136 :: x137 :: x138 :: x139 :: x140 :: x141 :: x142 :: x143 :: x144 :: x145 :: x146 :: x147 :: x148 :: x149 :: x150 :: x151 :: x152 :: x153 :: x154 :: x155 :: x156 :: x157 :: x158 :: x159 :: x160 :: x161 :: x162 :: x163 :: x164 :: x165 :: x166 :: x167 :: x168 :: x169 :: x170 :: x171 :: x172 :: x173 :: x174 :: x175 :: x176 :: x177 :: x178 :: x179 :: x180 :: x181 :: x182 :: x183 :: x184 :: x185 :: x186 :: x187 :: x188 :: x189 :: x190 :: x191 :: x192 :: x193 :: x194 :: x195 :: x196 :: x197 :: x198 :: x199 :: x200 :: x201 :: x202 :: x203 :: x204 :: x205 :: x206 :: x207 :: x208 :: x209 :: x210 :: x211 :: x212 :: x213 :: x214 :: x215 :: []), []⟩ wx) : (c13 [1, 1, 1, 1, 1, 1, 1, 1, 1, 0, 1, 0, 0, 1, 0, 0, 1, 0, 1]).wp Tryd.prog (Exit.then K Q') ⟨List.toArray (x0 :: x1 :: x2 :: x3 :: .pointer (some ⟨wb, 0, none⟩) :: x5 :: x6 :: x7 :: x8 :: x9 :: x10 :: x11 :: x12 :: x13 :: x14 :: .int .i64 k :: .bool false :: .int .i64 0 :: x18 :: x19 :: x20 :: x21 :: x22 :: x23 :: x24 :: x25 :: x26 :: x27 :: x28 :: x29 :: x30 :: x31 :: x32 :: x33 :: x34 :: x35 :: x36 :: x37 :: x38 :: x39 :: x40 :: x41 :: x42 :: x43 :: x44 :: x45 :: x46 :: x47 :: x48 :: x49 :: x50 :: x51 :: x52 :: x53 :: x54 :: x55 :: x56 :: x57 :: x58 :: x59 :: x60 :: x61 :: x62 :: x63 :: x64 :: x65 :: x66 :: x67 :: x68 :: x69 :: x70 :: x71 :: x72 :: x73 :: x74 :: x75 :: x76 :: x77 :: x78 :: x79 :: x80 :: x81 :: x82 :: x83 :: x84 :: x85 :: x86 :: x87 :: x88 :: x89 :: x90 :: x91 :: x92 :: x93 :: x94 :: x95 :: x96 :: x97 :: x98 :: x99 :: x100 :: x101 :: x102 :: x103 :: x104 :: x105 :: x106 :: x107 :: x108 :: x109 :: x110 :: x111 :: x112 :: x113 :: x114 :: x115 :: x116 :: x117 :: x118 :: x119 :: x120 :: x121 :: x122 :: x123 :: x124 :: x125 :: x126 :: x127 :: x128 :: x129 :: x130 :: x131 :: x132 :: x133 :: x134 :: x135 :: x136 :: x137 :: x138 :: x139 :: x140 :: x141 :: x142 :: x143 :: x144 :: x145 :: x146 :: x147 :: x148 :: x149 :: x150 :: x151 :: x152 :: x153 :: x154 :: x155 :: x156 :: x157 :: x158 :: x159 :: x160 :: x161 :: x162 :: x163 :: x164 :: x165 :: x166 :: x167 :: x168 :: x169 :: x170 :: x171 :: x172 :: x173 :: x174 :: x175 :: x176 :: x177 :: x178 :: x179 :: x180 :: x181 :: x182 :: x183 :: x184 :: x185 :: x186 :: x187 :: x188 :: x189 :: x190 :: x191 :: x192 :: x193 :: x194 :: x195 :: x196 :: x197 :: x198 :: x199 :: x200 :: x201 :: x202 :: x203 :: x204 :: x205 :: x206 :: x207 :: x208 :: x209 :: x210 :: x211 :: x212 :: x213 :: x214 :: x215 :: []), []⟩ wz := by
  have HK := Lib.hid hK
  clear hK
  conv => arg 2; whnf
  go_cut [16, 17] from 59 to 75 (fun s16 s17 wx => s16 = .bool tt ∧ wx = wz)
  case rest =>
    exact HK.out _ _ _ _ _ _ _ _ _ _ _ _ _ _ _ _ _ _ _ _ hcut
  case first =>
    clear HK
    have u0 : wz.cell? ⟨wb, 0, none⟩ = some (.slice a0 is.length c0) := cell_block HW.out 0
    have lw : wb < wz.heap.size := (Array.getElem?_eq_some_iff.1 HW.out).1
    obtain ⟨a', c', hv, hl, _, hcell⟩ := HI.out
    injection hv with e1 e2 e3
    subst e1 e3
    have HC := Lib.hid hcell
    clear hcell
    go_wp2_with fail
    go_loopg [16, 17] is.length (fun gh s16 s17 wr => ∃ (i : Nat) (q : Bool), i ≤ is.length ∧ gh = is.length - i ∧ s17 = .int .i64 i ∧ s16 = .bool q ∧ Hid ((is.take i).contains k = q) ∧ wr = wz)
    case atStart => exact ⟨0, false, Nat.zero_le _, by omega, rfl, rfl, Lib.hid rfl, rfl⟩
    case round =>
      obtain ⟨i, q, hi, rfl, rfl, rfl, HQ, rfl⟩ := hrel
      by_cases hlt : i < is.length
      · obtain ⟨b, off, vi, rfl, hb, hci, hvi⟩ := HC.out i hlt
        obtain ⟨rfl, -⟩ := hvi
        have HN := Lib.hid (contains_take (k := k) hlt)
        have hi1 : (i : Int) < (is.length : Int) := by omega
        have hi0 : (0 : Int) ≤ (i : Int) := by omega
        generalize is[i] = z at *
        cases q with
        | true =>
          go_wp2_with fail
          go_roundg (is.length - (i + 1))
          case measure => omega
          case rel => exact ⟨i + 1, true, by omega, rfl, by go_num, rfl, Lib.hid (by rw [HN.out, HQ.out]; rfl), rfl⟩
        | false =>
          have hzz : (z == k) = (z == k) := rfl
          obtain ⟨t2, ht2⟩ : ∃ t2, (z == k) = t2 := ⟨_, rfl⟩
          have HT2 := Lib.hid ht2
          go_wp2_with fail
          go_roundg (is.length - (i + 1))
          case measure => omega
          case rel => exact ⟨i + 1, t2, by omega, rfl, by go_num, by first | rfl | rw [HT2.out], Lib.hid (by rw [HN.out, HQ.out, HT2.out]; rfl), rfl⟩
      · obtain rfl : i = is.length := by omega
        have HE := Lib.hid (show q = tt from by rw [← HQ.out, List.take_length, HTT.out])
        clear hlt
        go_wp2_with fail
        go_meet
        exact ⟨by rw [HE.out], rfl⟩

end Go.Proofs.YtenicnneppgfmaaDoor
namespace Go.Proofs.YtenicnneppgfmaaDoor
open Go Go.RowKit Go.ChangeShapes Go.WideShapes Go.Deep
set_option linter.unusedVariables false
attribute [local go_sem ↓] Go.wp_at_zero Go.wp_at_succ

/-- The document's recorder in a world: the guest in its box, the events. -/
structure DrS (w0 : World) (gb gr cr mb cm : Nat) (m : Mach) (ao : Option Addr) (co : Nat) (ps : List (Ev × Value)) (aa : Option Addr) (ca : Nat) (w : World) : Prop where
  box : w.heap[gb]? = some (.cells #[.slice (some ⟨gr, 0, none⟩) 8 cr, .int .i64 m.pc, .int .i64 m.back, .bool m.ints, .bool m.wait, .int .i64 m.table, .int .i64 m.count, .int .i64 m.fin, .slice (some ⟨mb, 0, none⟩) 256 cm, .slice ao m.out.length co, .int .i64 m.ready, .int .i64 m.want] 30 (0, 0))
  za : ZA w0 (fun _ => False) gr cr mb cm m ao co w
  all : OutSt w0.heap.size ps aa ca w
  dat : ∀ p ∈ ps, ∀ q, p.2.ownBlock = some q → ¬ Dz gr mb ao m.out.length co q
  ge : w0.heap.size ≤ gb
def DrE (w0 : World) (gb gr cr mb cm : Nat) (m : Mach) (ps : List (Ev × Value)) (aa : Option Addr) (ca : Nat) (w : World) : Prop := ∃ ao co, DrS w0 gb gr cr mb cm m ao co ps aa ca w
section
variable {w0 w w' : World} {gb gr cr mb cm : Nat} {m : Mach} {ao : Option Addr} {co : Nat} {ps : List (Ev × Value)} {aa : Option Addr} {ca : Nat}
theorem DrS.lt (h : DrS w0 gb gr cr mb cm m ao co ps aa ca w) : ∀ q, Dz gr mb ao m.out.length co q → q < w.heap.size := by
  rintro q (rfl | rfl | ho)
  · exact h.za.lt.1
  · exact h.za.lt.2
  · exact (h.za.out.lt q ho).2
/-- Behind what makes memory only. -/
theorem DrS.below (h : DrS w0 gb gr cr mb cm m ao co ps aa ca w) (hb : Below w.heap.size w w') : DrS w0 gb gr cr mb cm m ao co ps aa ca w' :=
  ⟨block_below hb h.box (Array.getElem?_eq_some_iff.1 h.box).1, h.za.kept hb, h.all.outF (OutF.of hb (fun _ => False)) (fun _ _ q => q) (fun _ _ _ _ q => q), h.dat, h.ge⟩
/-- Behind more events. -/
theorem DrS.told (h : DrS w0 gb gr cr mb cm m ao co ps aa ca w) {qs : List (Ev × Value)} {a' : Option Addr} {c' : Nat} (hg : w.grownBy w' (Value.slice aa ps.length ca).ownBlock) (ho : OutSt w0.heap.size qs a' c' w') (hd : ∀ p ∈ qs, ∀ q, p.2.ownBlock = some q → ¬ Dz gr mb ao m.out.length co q) : DrS w0 gb gr cr mb cm m ao co qs a' c' w' := by
  have hz := h.za
  have hrow := h.all.row
  refine ⟨block_grown hg h.box (own_ne_block hrow h.box (by decide)), ⟨hz.regs.kept hg (own_ne hz.regs hrow (by decide)), hz.mem.kept hg (own_ne hz.mem hrow (by decide)), hz.out.kept hg (own_ne hz.out hrow (by decide)), hz.rm, hz.ro, hz.mo, hz.old.grown hg (fun q e => Or.inr (hrow.lt q e).1), hz.lr, hz.lm, hz.lo⟩, ho, hd, h.ge⟩
/-- One event more, whose words the call owns. -/
theorem OutSt.lit {B : Nat} {W : World} {x : Ev} {v : Value} (hB : B ≤ W.heap.size) (hd : DOwn B W (x, v)) (hv : v.oneCell' = true) : OutSt B [(x, v)] (some ⟨W.heap.size, 0, none⟩) 1 (W.alloc (.cells #[.int .i64 x.at_, .int .i64 x.kind, v] 53)) :=
  ⟨World.ownsRow_lit (base := B) (e := 53) (size := 3) W #[.int .i64 x.at_, .int .i64 x.kind, v] 1 hB (by unfold maxLen; omega) rfl, fun p hp => by
    rw [List.mem_singleton.1 hp]
    exact ⟨own_below hd.1 (below_alloc _ _) (Nat.le_refl _), hd.2⟩⟩
end

set_option maxHeartbeats 8000000 in
set_option maxRecDepth 100000 in
theorem rr_ev1 {w0 wz : World} {gb gr cr mb cm : Nat} {m : Mach} {ps : List (Ev × Value)} {aa : Option Addr} {ca : Nat} {k : Int} {tt : Bool} {K : Act → World → Prop} {Q' : Exit → Act → World → Prop} {x0 x1 x2 x3 x4 x5 x6 x7 x8 x10 x12 x13 x14 x16 x17 x18 x19 x20 x21 x22 x23 x24 x25 x26 x27 x28 x29 x30 x31 x32 x33 x34 x35 x36 x37 x38 x39 x40 x41 x42 x43 x44 x45 x46 x47 x48 x49 x50 x51 x52 x53 x54 x55 x56 x57 x58 x59 x60 x61 x62 x63 x64 x65 x66 x67 x68 x69 x70 x71 x72 x73 x74 x75 x77 x78 x79 x80 x81 x82 x83 x84 x85 x86 x87 x88 x89 x90 x91 x92 x93 x94 x95 x96 x97 x98 x99 x100 x101 x102 x103 x104 x105 x106 x107 x108 x109 x110 x111 x112 x113 x114 x115 x116 x117 x118 x119 x120 x121 x122 x123 x124 x125 x126 x127 x128 x129 x130 x131 x132 x133 x134 x135 x136 x137 x138 x139 x140 x141 x142 x143 x144 x145 x146 x147 x148 x149 x150 x151 x152 x153 x154 x155 x156 x157 x158 x159 x160 x161 x162 x163 x164 x165 x166 x167 x168 x169 x170 x171 x172 x173 x174 x175 x176 x177 x178 x179 x180 x181 x182 x183 x184 x185 x186 x187 x188 x189 x190 x191 x192 x193 x194 x195 x196 x197 x198 x199 x200 x201 x202 x203 x204 x205 x206 x207 x208 x209 x210 x211 x212 x213 x214 x215 : Value} (HD : Hid (DrE w0 gb gr cr mb cm m ps aa ca wz)) (HK : Hid (0 ≤ k ∧ k < 3000)) (hpl : ps.length ≤ 2000) (hK : ∀ (y49 y50 y51 y52 y53 y54 y55 y56 y57 y58 y59 y60 y61 y62 y63 y64 y65 y66 y67 y68 y69 y70 y71 y72 y73 y74 y75 y76 y77 y78 y79 y80 y81 y82 y83 y84 y85 y86 y87 y88 y89 y90 y91 y92 y93 y94 y95 y96 y97 y98 y99 y100 y101 y102 y103 y104 y105 y106 y107 y108 y109 y110 y111 y112 y113 y114 y115 y116 y117 y118 y119 y120 y121 y122 y123 y124 y125 y126 y127 y128 y129 y130 y131 y132 y133 y134 y135 y136 y137 y138 y139 y140 y141 y142 y143 y144 y145 y146 y147 y148 y149 y150 y151 y152 y153 y154 y155 y156 y157 y158 y159 y160 y161 y162 y163 y164 y165 y166 y167 y168 y169 y170 y171 y172 y173 y174 y175 y176 y177 y178 y179 y180 y181 y182 y183 y184 y185 y186 y187 y188 y189 y190 y191 y192 y193 y194 y195 y196 y197 y198 : Value) (s11 : Value) (wx : World), (∃ (qs : List (Ev × Value)) (a2 : Option Addr) (c2 : Nat), s11 = .slice a2 (ps ++ qs).length c2 ∧ Hid (qs.map (·.1) = if tt = true then [⟨k, 1, []⟩] else []) ∧ Hid (DrE w0 gb gr cr mb cm m (ps ++ qs) a2 c2 wx)) → K ⟨List.toArray (x0 :: x1 :: x2 :: x3 :: x4 :: x5 :: x6 :: x7 :: x8 :: .pointer (some ⟨gb, 0, none⟩) :: x10 :: s11 :: x12 :: x13 :: x14 :: .int .i64 k :: x16 :: x17 :: x18 :: x19 :: x20 :: x21 :: x22 :: x23 :: x24 :: x25 :: x26 :: x27 :: x28 :: x29 :: x30 :: x31 :: x32 :: x33 :: x34 :: x35 :: x36 :: x37 :: x38 :: x39 :: x40 :: x41 :: x42 :: x43 :: x44 :: x45 :: x46 :: x47 :: x48 :: y49 :: y50 :: y51 :: y52 :: y53 :: y54 :: y55 :: y56 :: y57 :: y58 :: y59 :: y60 :: y61 :: y62 :: y63 :: y64 :: y65 :: y66 :: y67 :: y68 :: y69 :: y70 :: y71 :: y72 :: y73 :: y74 :: y75 :: y76 :: y77 :: y78 :: y79 :: y80 :: y81 :: y82 :: y83 :: y84 :: y85 :: y86 :: y87 :: y88 :: y89 :: y90 :: y91 :: y92 :: y93 :: y94 :: y95 :: y96 :: y97 :: y98 :: y99 :: y100 :: y101 :: y102 :: y103 :: y104 :: y105 :: y106 :: y107 :: y108 :: y109 :: y110 :: y111 :: y112 :: y113 :: y114 :: y115 :: y116 :: y117 :: y118 :: y119 :: y120 :: y121 :: y122 :: y123 :: y124 :: y125 :: y126 :: y127 :: y128 :: y129 :: y130 :: y131 :: y132 :: y133 :: y134 :: y135 :: y136 :: y137 :: y138 :: y139 :: y140 :: y141 :: y142 :: y143 :: y144 :: y145 :: y146 :: y147 :: y148 :: y149 :: y150 :: y151 :: y152 :: y153 :: y154 :: y155 :: y156 :: y157 :: y158 :: y159 :: y160 :: y161 :: y162 :: y163 :: y164 :: y165 :: y166 :: y167 :: y168 :: y169 :: y170 :: y171 :: y172 :: y173 :: y174 :: y175 :: y176 :: y177 :: y178 :: y179 :: y180 :: y181 :: y182 :: y183 :: y184 :: y185 :: y186 :: y187 :: y188 :: y189 :: y190 :: y191 :: y192 :: y193 :: y194 :: y195 :: y196 :: y197 :: y198 :: x199 :: x200 :: x201 :: x202 :: x203 :: x204 :: x205 :: x206 :: x207 :: x208 :: x209 :: x210 :: x211 :: x212 :: x213 :: x214 :: x215 :: []), []⟩ wx) : (c13 [1, 1, 1, 1, 1, 1, 1, 1, 1, 0, 1, 0, 0, 1, 0, 0, 1, 1, 0, 1]).wp Tryd.prog (Exit.then K Q') ⟨List.toArray (x0 :: x1 :: x2 :: x3 :: x4 :: x5 :: x6 :: x7 :: x8 :: .pointer (some ⟨gb, 0, none⟩) :: x10 :: .slice aa ps.length ca :: x12 :: x13 :: x14 :: .int .i64 k :: x16 :: x17 :: x18 :: x19 :: x20 :: x21 :: x22 :: x23 :: x24 :: x25 :: x26 :: x27 :: x28 :: x29 :: x30 :: x31 :: x32 :: x33 :: x34 :: x35 :: x36 :: x37 :: x38 :: x39 :: x40 :: x41 :: x42 :: x43 :: x44 :: x45 :: x46 :: x47 :: x48 :: x49 :: x50 :: x51 :: x52 :: x53 :: x54 :: x55 :: x56 :: x57 :: x58 :: x59 :: x60 :: x61 :: x62 :: x63 :: x64 :: x65 :: x66 :: x67 :: x68 :: x69 :: x70 :: x71 :: x72 :: x73 :: x74 :: x75 :: .bool tt :: x77 :: x78 :: x79 :: x80 :: x81 :: x82 :: x83 :: x84 :: x85 :: x86 :: x87 :: x88 :: x89 :: x90 :: x91 :: x92 :: x93 :: x94 :: x95 :: x96 :: x97 :: x98 :: x99 :: x100 :: x101 :: x102 :: x103 :: x104 :: x105 :: x106 :: x107 :: x108 :: x109 :: x110 :: x111 :: x112 :: x113 :: x114 :: x115 :: x116 :: x117 :: x118 :: x119 :: x120 :: x121 :: x122 :: x123 :: x124 :: x125 :: x126 :: x127 :: x128 :: x129 :: x130 :: x131 :: x132 :: x133 :: x134 :: x135 :: x136 :: x137 :: x138 :: x139 :: x140 :: x141 :: x142 :: x143 :: x144 :: x145 :: x146 :: x147 :: x148 :: x149 :: x150 :: x151 :: x152 :: x153 :: x154 :: x155 :: x156 :: x157 :: x158 :: x159 :: x160 :: x161 :: x162 :: x163 :: x164 :: x165 :: x166 :: x167 :: x168 :: x169 :: x170 :: x171 :: x172 :: x173 :: x174 :: x175 :: x176 :: x177 :: x178 :: x179 :: x180 :: x181 :: x182 :: x183 :: x184 :: x185 :: x186 :: x187 :: x188 :: x189 :: x190 :: x191 :: x192 :: x193 :: x194 :: x195 :: x196 :: x197 :: x198 :: x199 :: x200 :: x201 :: x202 :: x203 :: x204 :: x205 :: x206 :: x207 :: x208 :: x209 :: x210 :: x211 :: x212 :: x213 :: x214 :: x215 :: []), []⟩ wz := by
  have HK := Lib.hid hK
  clear hK
  conv => arg 2; whnf
  go_cut [11] from 49 to 198 (fun s11 wx => ∃ (qs : List (Ev × Value)) (a2 : Option Addr) (c2 : Nat), s11 = .slice a2 (ps ++ qs).length c2 ∧ Hid (qs.map (·.1) = if tt = true then [⟨k, 1, []⟩] else []) ∧ Hid (DrE w0 gb gr cr mb cm m (ps ++ qs) a2 c2 wx))
  case rest =>
    exact HK.out _ _ _ _ _ _ _ _ _ _ _ _ _ _ _ _ _ _ _ _ _ _ _ _ _ _ _ _ _ _ _ _ _ _ _ _ _ _ _ _ _ _ _ _ _ _ _ _ _ _ _ _ _ _ _ _ _ _ _ _ _ _ _ _ _ _ _ _ _ _ _ _ _ _ _ _ _ _ _ _ _ _ _ _ _ _ _ _ _ _ _ _ _ _ _ _ _ _ _ _ _ _ _ _ _ _ _ _ _ _ _ _ _ _ _ _ _ _ _ _ _ _ _ _ _ _ _ _ _ _ _ _ _ _ _ _ _ _ _ _ _ _ _ _ _ _ _ _ _ _ _ _ hcut
  case first =>
    clear HK
    cases tt with
    | false =>
      go_wp2_with fail
      go_meet
      exact ⟨[], aa, ca, by rw [List.append_nil], Lib.hid rfl, by rw [List.append_nil]; exact HD⟩
    | true =>
      obtain ⟨ao, co, hd⟩ := HD.out
      have HS := Lib.hid hd
      have hsz := hd.za.old.size
      have HNEW := Lib.hid (show DOwn w0.heap.size wz ((⟨k, 1, []⟩ : Ev), .slice none 0 0) from ⟨World.ownsRow_nil _ _ _ _, fun z hz => (by cases hz), Nat.zero_le _, by have := HK.out; unfold I64; dsimp only; omega, by unfold I64; dsimp only; omega⟩)
      have HBX := Lib.hid (below_alloc wz (.cells #[.int .i64 k, .int .i64 1, .slice none 0 0] 53))
      have HL1 := Lib.hid (OutSt.lit hsz HNEW.out rfl)
      have HS4 := Lib.hid (HS.out.below HBX.out)
      clear hd
      go_wp2_with (at_builtin; go_loud (refine wpList_append_evs _ rfl (.tmp 77) (.tmp 80) rfl w0.heap.size ps [(⟨k, 1, []⟩, .slice none 0 0)] aa (some ⟨wz.heap.size, 0, none⟩) ca 1 (by rfl) (by rfl) HS4.out.all HL1.out (by simp; omega) HS4.out.za.old.size ?_); intro a5 c5 w5 hout5 hg5 hn5; have HO5 := Lib.hid hout5; have HG5 := Lib.hid hg5; clear hout5 hg5 hn5)
      go_meet
      have hlen : (ps ++ [((⟨k, 1, []⟩ : Ev), Value.slice none 0 0)]).length = ps.length + 1 := by simp
      refine ⟨[(⟨k, 1, []⟩, .slice none 0 0)], a5, c5, by rw [hlen], Lib.hid rfl, Lib.hid ⟨ao, co, HS4.out.told HG5.out HO5.out (fun p hp q hq => ?_)⟩⟩
      rcases List.mem_append.1 hp with hp | hp
      · exact HS4.out.dat p hp q hq
      · rw [List.mem_singleton.1 hp] at hq; simp [Value.ownBlock] at hq

end Go.Proofs.YtenicnneppgfmaaDoor
