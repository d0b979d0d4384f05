/- The contract of evlog's event. No condition beyond those of each row. -/
import Derived.Test.YtiekilpddmdhnaaDoorEd
import Derived.BigQuiet
namespace Go.Proofs.YtiekilpddmdhnaaDoor
open Go Go.RowKit Go.ChangeShapes Go.WideShapes Go.Deep
set_option linter.unusedVariables false

theorem number_gen (w0 : World) (g : Nat) (bs : List UInt8) (w : World) {e0 : Int} (h : Rd w0 g bs e0 w) {e : Int} {v : Nat} {r : List UInt8} (hn : numE e0 bs = (e, v, r)) : Calls Tryd.prog 19 #[.pointer (some ⟨g, 0, none⟩)] w fun en w' => en = .returned (.int .i64 (v : Int)) ∧ Rd w0 g r e w' ∧ w.grownBy w' (some g) := by
  by_cases h0 : e0 = 0
  · subst h0; exact number_any' w0 g bs w h hn
  · obtain ⟨rfl, rfl, rfl⟩ := numE_keeps hn h0
    exact number_bad w0 g r e w h h0
theorem rsigned_gen (w0 : World) (g : Nat) (bs : List UInt8) (w : World) {e0 : Int} (h : Rd w0 g bs e0 w) {e : Int} {v : Nat} {r : List UInt8} (hn : numE e0 bs = (e, v, r)) : Calls Tryd.prog 49 #[.pointer (some ⟨g, 0, none⟩)] w fun en w' => en = .returned (.int .i64 (zag v)) ∧ Rd w0 g r e w' ∧ w.grownBy w' (some g) := by
  by_cases h0 : e0 = 0
  · subst h0; exact rsigned_good w0 g bs w h hn
  · obtain ⟨rfl, rfl, rfl⟩ := numE_keeps hn h0
    exact rsigned_bad w0 g r e w h h0

theorem rwrong_gen (w0 : World) (g : Nat) (bs : List UInt8) (x : Int) (w : World) (h : Rd w0 g bs 0 w) : Calls Tryd.prog 21 #[.pointer (some ⟨g, 0, none⟩), .int .i64 x] w fun e w' => e = .returned (.int .i64 0) ∧ Rd w0 g bs x w' ∧ w.grownBy w' (some g) := wrong_any w0 g bs x w h
theorem Rd.c1 {w0 w : World} {g : Nat} {bs : List UInt8} {e : Int} (h : Rd w0 g bs e w) : w.cell? ⟨g, 1, none⟩ = some (.int .i64 e) := by
  obtain ⟨a, c, hx, _⟩ := h.box
  exact cell_block hx 1

/-- The reader, the result's box, the event's box and the event's words. -/
structure ESt (w0 w : World) (g gx : Nat) (x0 x1 : Int) (acc : List Int) (bs : List UInt8) (e : Int) (wr : World) : Prop where
  rd : Rd w0 g bs e wr
  rb : wr.heap[w.heap.size]? = some (.cells #[.int .i64 0, .int .i64 0, .slice none 0 0] 54 (0, 0))
  xb : ∃ a c, wr.heap[gx]? = some (.cells #[.int .i64 x0, .int .i64 x1, .slice a acc.length c] 54 (0, 0)) ∧ wr.ownsRow w.heap.size 3 1 (.slice a acc.length c) acc.length (acc.map (Value.int .i64))
  gb : w.grownBy wr (some g)
  lt : g < w.heap.size
  gx : w.heap.size < gx
theorem ESt.start {w0 w w1 : World} {g : Nat} {bs r : List UInt8} {e x0 x1 : Int} (h : Rd w0 g bs 0 w) (hr : Rd w0 g r e w1) (hg : (w.alloc (.cells #[.int .i64 0, .int .i64 0, .slice none 0 0] 54)).grownBy w1 (some g)) : ESt w0 w g w1.heap.size x0 x1 [] r e (w1.alloc (.cells #[.int .i64 x0, .int .i64 x1, .slice none 0 0] 54)) := by
  have hs := hg.size
  simp only [World.size_alloc] at hs
  have lt := h.lt
  refine ⟨hr.other (World.grownBy_alloc w1 _ none) (by simp) (by simp), ?_, ⟨none, 0, alloc_at rfl, World.ownsRow_nil _ _ _ _⟩, ?_, lt, by omega⟩
  · rw [alloc_lt (by omega), hg.block _ (by simp) (by simp; omega)]
    exact alloc_at rfl
  · refine ⟨hg.os, hg.tape, hg.output, by simp; omega, fun k hk hne => ?_⟩
    rw [alloc_lt (by omega), hg.block k (by simp; omega) hne, alloc_lt hk]
theorem ESt.mv {w0 w wr w' : World} {g gx : Nat} {x0 x1 e e' : Int} {acc : List Int} {bs bs' : List UInt8} (h : ESt w0 w g gx x0 x1 acc bs e wr) (hr : Rd w0 g bs' e' w') (hg : wr.grownBy w' (some g)) : ESt w0 w g gx x0 x1 acc bs' e' w' := by
  have lt := h.lt; have lx := h.gx
  obtain ⟨a, c, hx, ho⟩ := h.xb
  refine ⟨hr, block_grown hg h.rb (by simp; omega), ⟨a, c, block_grown hg hx (by simp; omega), ho.kept hg ?_⟩, grown_same h.gb hg, lt, lx⟩
  cases hob : (Value.slice a acc.length c).ownBlock with
  | none => exact Or.inl rfl
  | some k => exact Or.inr (by have := (ho.lt k hob).1; simp; omega)
theorem ESt.drewN {w0 w wr : World} {g gx : Nat} {x0 x1 e : Int} {acc : List Int} {bs : List UInt8} (h : ESt w0 w g gx x0 x1 acc bs e wr) (n : Nat) : ESt w0 w g gx x0 x1 acc bs e (wr.drewN n) := ⟨h.rd.drewN n, h.rb, h.xb, grown_drewN h.gb n, h.lt, h.gx⟩
theorem ESt.y {w0 w wr : World} {g gx : Nat} {x0 x1 e : Int} {acc : List Int} {bs : List UInt8} (h : ESt w0 w g gx x0 x1 acc bs e wr) : wr.cell? ⟨g, 1, none⟩ = some (.int .i64 e) ∧ wr.cell? ⟨gx, 0, none⟩ = some (.int .i64 x0) ∧ wr.cell? ⟨gx, 1, none⟩ = some (.int .i64 x1) ∧ g < wr.heap.size ∧ gx < wr.heap.size ∧ w.heap.size < wr.heap.size ∧ (∀ i, wr.frozen? ⟨w.heap.size, i, none⟩ = false) ∧ (∀ i, wr.frozen? ⟨gx, i, none⟩ = false) := by
  obtain ⟨a, c, hx, ho⟩ := h.xb
  exact ⟨h.rd.c1, cell_block hx 0, cell_block hx 1, h.rd.lt, (Array.getElem?_eq_some_iff.1 hx).1, (Array.getElem?_eq_some_iff.1 h.rb).1, fun i => free_block h.rb i, fun i => free_block hx i⟩
theorem ESt.r {w0 w wr : World} {g gx : Nat} {x0 x1 e : Int} {acc : List Int} {bs : List UInt8} (h : ESt w0 w g gx x0 x1 acc bs e wr) : wr.cell? ⟨w.heap.size, 0, none⟩ = some (.int .i64 0) ∧ wr.cell? ⟨w.heap.size, 1, none⟩ = some (.int .i64 0) ∧ wr.cell? ⟨w.heap.size, 2, none⟩ = some (.slice none 0 0) ∧ wr.frozen? ⟨w.heap.size, 0, none⟩ = false ∧ wr.frozen? ⟨w.heap.size, 1, none⟩ = false ∧ wr.frozen? ⟨w.heap.size, 2, none⟩ = false :=
  ⟨cell_block h.rb 0, cell_block h.rb 1, cell_block h.rb 2, free_block h.rb 0, free_block h.rb 1, free_block h.rb 2⟩
theorem ESt.tab {w0 w wr : World} {g gx : Nat} {x0 x1 e : Int} {acc : List Int} {bs : List UInt8} (h : ESt w0 w g gx x0 x1 acc bs e wr) (ht : Tab w0) : Tab wr := ht.to h.rd.b
/-- The event is laid into the result's box. -/
theorem ESt.done {w0 w wr : World} {g gx : Nat} {x0 x1 e : Int} {acc : List Int} {bs : List UInt8} (h : ESt w0 w g gx x0 x1 acc bs e wr) {a : Option Addr} {c : Nat} (ho : wr.ownsRow w.heap.size 3 1 (.slice a acc.length c) acc.length (acc.map (Value.int .i64))) {W : World} (hW : W = ((wr.setCell ⟨w.heap.size, 0, none⟩ (.int .i64 x0)).setCell ⟨w.heap.size, 1, none⟩ (.int .i64 x1)).setCell ⟨w.heap.size, 2, none⟩ (.slice a acc.length c)) :
    W.heap[w.heap.size]? = some (.cells #[.int .i64 x0, .int .i64 x1, .slice a acc.length c] 54 (0, 0)) ∧ Rd w0 g bs e W ∧ w.grownBy W (some g) ∧ W.ownsRow w.heap.size 3 1 (.slice a acc.length c) acc.length (acc.map (Value.int .i64)) := by
  subst hW
  have lt := h.lt
  have b1 := set_block (i := 0) h.rb (.int .i64 x0)
  have b2 := set_block (i := 1) b1 (.int .i64 x1)
  have b3 := set_block (i := 2) b2 (.slice a acc.length c)
  have hg : wr.grownBy (((wr.setCell ⟨w.heap.size, 0, none⟩ (.int .i64 x0)).setCell ⟨w.heap.size, 1, none⟩ (.int .i64 x1)).setCell ⟨w.heap.size, 2, none⟩ (.slice a acc.length c)) (some w.heap.size) := grown_same (grown_same (grown_set _ _ _ _) (grown_set _ _ _ _)) (grown_set _ _ _ _)
  refine ⟨b3, h.rd.other hg (by simp; omega) (fun k hk => by injection hk with hk; have := h.rd.ge; omega), ⟨hg.os.trans h.gb.os, hg.tape.trans h.gb.tape, hg.output.trans h.gb.output, Nat.le_trans h.gb.size hg.size, fun k hk hne => (hg.block k (Nat.lt_of_lt_of_le hk h.gb.size) (by simp; omega)).trans (h.gb.block k hk hne)⟩, ho.kept hg ?_⟩
  exact Or.inr (fun e => own_ne_block ho h.rb (by decide) e.symm)

/-- What an event's reading answers. -/
def EvPostR (w0 : World) (g : Nat) (a : Int) (bs : List UInt8) (w : World) (en : Ending) (w' : World) : Prop := ∃ (x0 x1 : Int) (da : Option Addr) (dn dc : Nat), en = .returned (.agg #[.int .i64 x0, .int .i64 x1, .slice da dn dc]) ∧ Rd w0 g (evP a bs).2.2 (evP a bs).1 w' ∧ w.grownBy w' (some g) ∧
  ((evP a bs).1 = 0 → x0 = (evP a bs).2.1.at_ ∧ x1 = (evP a bs).2.1.kind ∧ w'.ownsRow w.heap.size 3 1 (.slice da dn dc) (evP a bs).2.1.data.length ((evP a bs).2.1.data.map (Value.int .i64)) ∧ (∀ z ∈ (evP a bs).2.1.data, I64 z) ∧ (evP a bs).2.1.data.length ≤ 16 ∧ a ≤ (evP a bs).2.1.at_ ∧ (evP a bs).2.1.at_ ≤ a + 140737488355328)

theorem EvPostR.mk {w0 : World} {g : Nat} {a : Int} {bs r : List UInt8} {w w' : World} {e x0 x1 : Int} {da : Option Addr} {dn dc : Nat} {x : Ev} (hp : evP a bs = (e, x, r)) (hr : Rd w0 g r e w') (hg : w.grownBy w' (some g)) (h : e = 0 → x0 = x.at_ ∧ x1 = x.kind ∧ w'.ownsRow w.heap.size 3 1 (.slice da dn dc) x.data.length (x.data.map (Value.int .i64)) ∧ (∀ z ∈ x.data, I64 z) ∧ x.data.length ≤ 16 ∧ a ≤ x.at_ ∧ x.at_ ≤ a + 140737488355328) : EvPostR w0 g a bs w (.returned (.agg #[.int .i64 x0, .int .i64 x1, .slice da dn dc])) w' := by
  unfold EvPostR
  rw [hp]
  exact ⟨x0, x1, da, dn, dc, rfl, hr, hg, h⟩

set_option maxHeartbeats 8000000 in
set_option maxRecDepth 100000 in
theorem event_1 (w0 : World) (g : Nat) (a : Int) (bs : List UInt8) (w : World) (h : Rd w0 g bs 0 w) (ht : Tab w0) (ha : 0 ≤ a ∧ a ≤ 1000000000000000000) {r : List UInt8} {n : Nat} (hn : numP 0 0 bs = (0, n, r)) (hk : n % 4 = 1) : Calls Tryd.prog 20 #[.pointer (some ⟨g, 0, none⟩), .int .i64 a] w (EvPostR w0 g a bs w) := by
  have hp := evP_1 (a := a) hn hk
  have hlt := numE_lt (e := 0) hn
  have HD := Lib.hid h
  have HN := Lib.hid (fun (W : World) (hw : Rd w0 g bs 0 W) => number_gen w0 g bs W hw (e0 := 0) hn)
  have HT := Lib.hid ht
  have lg := h.lt
  have HP := Lib.hid hp
  have hk' : (n : Int) % 4 = 1 := by omega
  have HAT := Lib.hid (show a + (n : Int) / 4 = a + ((n / 4 : Nat) : Int) by omega)
  clear hk
  clear hp hn h ht
  go_enter Tryd.func20, Tryd.ntmps20
  go_wp2_with fail
  refine (HN.out _ (HD.out.other (World.grownBy_alloc w _ none) (by simp) (by simp))).mono ?_
  rintro en w1 ⟨rfl, hr1, hg1⟩
  have HX := Lib.hid (ESt.start (x0 := (a + (n : Int) / 4)) (x1 := 1) HD.out hr1 hg1)
  obtain ⟨c1, c2, c3, l1, l2, l3, f1, f2⟩ := HX.out.y
  have r1 := hr1.c1
  have s1 := hr1.lt
  have z2 : (w1.alloc (.cells #[.int .i64 (a + (n : Int) / 4), .int .i64 1, .slice none 0 0] 54)).cell? ⟨w1.heap.size, 2, none⟩ = some (.slice none 0 0) := cell_block (alloc_at rfl) 2
  obtain ⟨t0, t1, t2, t3, t4⟩ := HX.out.tab HT.out
  have hne1 : ¬ g = w1.heap.size := by omega
  clear hr1 hg1
  go_wp2_with fail
  generalize w1.alloc (.cells #[.int .i64 (a + (n : Int) / 4), .int .i64 1, .slice none 0 0] 54) = W2 at *
  generalize hgx : w1.heap.size = gx at *
  clear hgx
  go_loopg [7] 1 (fun gh s7 wr => gh = 1 ∧ Hid (ESt w0 w g gx (a + (n : Int) / 4) 1 [] r 0 wr))
  case atStart => exact ⟨rfl, HX⟩
  case round =>
    clear HX c1 c2 c3 l1 l2 l3 f1 f2 r1 s1 z2 t0 t1 t2 t3 t4
    obtain ⟨rfl, HX⟩ := hrel
    obtain ⟨c1, c2, c3, l1, l2, l3, f1, f2⟩ := HX.out.y
    obtain ⟨t0, t1, t2, t3, t4⟩ := HX.out.tab HT.out
    obtain ⟨aq, cq, hxq, hoq⟩ := HX.out.xb
    have z2 : wr.cell? ⟨gx, 2, none⟩ = some (.slice aq 0 cq) := cell_block hxq 2
    have HOQ := Lib.hid hoq
    clear hxq hoq
    obtain ⟨m0, m1, m2, n0, n1, n2⟩ := HX.out.r
    clear f1 f2
    go_wp2_with fail
    go_quiet (fail)
    go_wp2
    obtain ⟨hb, hrd, hgb, how⟩ := (HX.out.drewN _).done HOQ.out rfl
    refine bodyPost_ret (v := .agg #[.int .i64 (a + (n : Int) / 4), .int .i64 1, .slice aq 0 cq]) (results_cell_row Tryd.results20 _ _ w.heap.size 54 _ (0, 0) _ rfl hb Tryd.underlying54 rfl (by kernel_rfl)) rfl ?_
    exact EvPostR.mk HP.out hrd hgb fun _ => ⟨HAT.out, rfl, how, by simp, by simp, by show a ≤ a + ((n / 4 : Nat) : Int); omega, by show a + ((n / 4 : Nat) : Int) ≤ _; omega⟩

set_option maxHeartbeats 8000000 in
set_option maxRecDepth 100000 in
theorem event_0 (w0 : World) (g : Nat) (a : Int) (bs : List UInt8) (w : World) (h : Rd w0 g bs 0 w) (ht : Tab w0) (ha : 0 ≤ a ∧ a ≤ 1000000000000000000) {r : List UInt8} {n : Nat} (hn : numP 0 0 bs = (0, n, r)) (hk : n % 4 = 0) : Calls Tryd.prog 20 #[.pointer (some ⟨g, 0, none⟩), .int .i64 a] w (EvPostR w0 g a bs w) := by
  have hp := evP_0 (a := a) hn hk
  have hlt := numE_lt (e := 0) hn
  have HD := Lib.hid h
  have HN := Lib.hid (fun (W : World) (hw : Rd w0 g bs 0 W) => number_gen w0 g bs W hw (e0 := 0) hn)
  have HT := Lib.hid ht
  have lg := h.lt
  have HP := Lib.hid hp
  have hk' : (n : Int) % 4 = 0 := by omega
  clear hk
  clear hp hn h ht
  go_enter Tryd.func20, Tryd.ntmps20
  go_wp2_with fail
  refine (HN.out _ (HD.out.other (World.grownBy_alloc w _ none) (by simp) (by simp))).mono ?_
  rintro en w1 ⟨rfl, hr1, hg1⟩
  have HX := Lib.hid (ESt.start (x0 := (a + (n : Int) / 4)) (x1 := 0) HD.out hr1 hg1)
  obtain ⟨c1, c2, c3, l1, l2, l3, f1, f2⟩ := HX.out.y
  have r1 := hr1.c1
  have s1 := hr1.lt
  have z2 : (w1.alloc (.cells #[.int .i64 (a + (n : Int) / 4), .int .i64 0, .slice none 0 0] 54)).cell? ⟨w1.heap.size, 2, none⟩ = some (.slice none 0 0) := cell_block (alloc_at rfl) 2
  obtain ⟨t0, t1, t2, t3, t4⟩ := HX.out.tab HT.out
  have hne1 : ¬ g = w1.heap.size := by omega
  clear hr1 hg1
  go_wp2_with fail
  generalize w1.alloc (.cells #[.int .i64 (a + (n : Int) / 4), .int .i64 0, .slice none 0 0] 54) = W2 at *
  generalize hgx : w1.heap.size = gx at *
  clear hgx
  refine (rwrong_gen w0 g r 3 W2 HX.out.rd).mono ?_
  rintro e w3 ⟨rfl, hr3, hg3⟩
  have HX := Lib.hid (HX.out.mv hr3 hg3)
  clear hr3 hg3
  go_wp2_with fail
  go_loopg [7] 1 (fun gh s7 wr => gh = 1 ∧ Hid (ESt w0 w g gx (a + (n : Int) / 4) 0 [] r 3 wr))
  case atStart => exact ⟨rfl, HX⟩
  case round =>
    clear HX c1 c2 c3 l1 l2 l3 f1 f2 r1 s1 z2 t0 t1 t2 t3 t4
    obtain ⟨rfl, HX⟩ := hrel
    obtain ⟨c1, c2, c3, l1, l2, l3, f1, f2⟩ := HX.out.y
    obtain ⟨t0, t1, t2, t3, t4⟩ := HX.out.tab HT.out
    obtain ⟨aq, cq, hxq, hoq⟩ := HX.out.xb
    have z2 : wr.cell? ⟨gx, 2, none⟩ = some (.slice aq 0 cq) := cell_block hxq 2
    have HOQ := Lib.hid hoq
    clear hxq hoq
    obtain ⟨m0, m1, m2, n0, n1, n2⟩ := HX.out.r
    clear f1 f2
    go_wp2_with fail
    go_quiet (fail)
    go_wp2
    obtain ⟨hb, hrd, hgb, how⟩ := (HX.out.drewN _).done HOQ.out rfl
    refine bodyPost_ret (v := .agg #[.int .i64 (a + (n : Int) / 4), .int .i64 0, .slice aq 0 cq]) (results_cell_row Tryd.results20 _ _ w.heap.size 54 _ (0, 0) _ rfl hb Tryd.underlying54 rfl (by kernel_rfl)) rfl ?_
    exact EvPostR.mk HP.out hrd hgb fun h => absurd h (by decide)

set_option maxHeartbeats 8000000 in
set_option maxRecDepth 100000 in
theorem event_e (w0 : World) (g : Nat) (a : Int) (bs : List UInt8) (w : World) (h : Rd w0 g bs 0 w) (ht : Tab w0) (ha : 0 ≤ a ∧ a ≤ 1000000000000000000) {r : List UInt8} {n : Nat} {e : Int} (hn : numP 0 0 bs = (e, n, r)) (he : e ≠ 0) : Calls Tryd.prog 20 #[.pointer (some ⟨g, 0, none⟩), .int .i64 a] w (EvPostR w0 g a bs w) := by
  have hp := evP_e (a := a) hn he
  have hn0 : n = 0 := by
    rcases numP_err bs 0 0 with k | ⟨_, k⟩
    · rw [hn] at k; exact absurd k he
    · rw [hn] at k; exact k
  subst hn0
  have HD := Lib.hid h
  have HN := Lib.hid (fun (W : World) (hw : Rd w0 g bs 0 W) => number_gen w0 g bs W hw (e0 := 0) hn)
  have HT := Lib.hid ht
  have lg := h.lt
  have HP := Lib.hid hp
  have he0 : (e == 0) = false := by rw [beq_eq_false_iff_ne]; exact he
  have HE0 := Lib.hid he
  clear he
  clear hp hn h ht
  go_enter Tryd.func20, Tryd.ntmps20
  go_wp2_with fail
  refine (HN.out _ (HD.out.other (World.grownBy_alloc w _ none) (by simp) (by simp))).mono ?_
  rintro en w1 ⟨rfl, hr1, hg1⟩
  have HX := Lib.hid (ESt.start (x0 := a) (x1 := 0) HD.out hr1 hg1)
  obtain ⟨c1, c2, c3, l1, l2, l3, f1, f2⟩ := HX.out.y
  have r1 := hr1.c1
  have s1 := hr1.lt
  have z2 : (w1.alloc (.cells #[.int .i64 a, .int .i64 0, .slice none 0 0] 54)).cell? ⟨w1.heap.size, 2, none⟩ = some (.slice none 0 0) := cell_block (alloc_at rfl) 2
  obtain ⟨t0, t1, t2, t3, t4⟩ := HX.out.tab HT.out
  have hne1 : ¬ g = w1.heap.size := by omega
  clear hr1 hg1
  go_wp2_with fail
  generalize w1.alloc (.cells #[.int .i64 a, .int .i64 0, .slice none 0 0] 54) = W2 at *
  generalize hgx : w1.heap.size = gx at *
  clear hgx
  go_loopg [7] 1 (fun gh s7 wr => gh = 1 ∧ Hid (ESt w0 w g gx a 0 [] r e wr))
  case atStart => exact ⟨rfl, HX⟩
  case round =>
    clear HX c1 c2 c3 l1 l2 l3 f1 f2 r1 s1 z2 t0 t1 t2 t3 t4
    obtain ⟨rfl, HX⟩ := hrel
    obtain ⟨c1, c2, c3, l1, l2, l3, f1, f2⟩ := HX.out.y
    obtain ⟨t0, t1, t2, t3, t4⟩ := HX.out.tab HT.out
    obtain ⟨aq, cq, hxq, hoq⟩ := HX.out.xb
    have z2 : wr.cell? ⟨gx, 2, none⟩ = some (.slice aq 0 cq) := cell_block hxq 2
    have HOQ := Lib.hid hoq
    clear hxq hoq
    obtain ⟨m0, m1, m2, n0, n1, n2⟩ := HX.out.r
    clear f1 f2
    go_wp2_with fail
    go_quiet (fail)
    go_wp2
    obtain ⟨hb, hrd, hgb, how⟩ := (HX.out.drewN _).done HOQ.out rfl
    refine bodyPost_ret (v := .agg #[.int .i64 a, .int .i64 0, .slice aq 0 cq]) (results_cell_row Tryd.results20 _ _ w.heap.size 54 _ (0, 0) _ rfl hb Tryd.underlying54 rfl (by kernel_rfl)) rfl ?_
    exact EvPostR.mk HP.out hrd hgb fun h => absurd h HE0.out

end Go.Proofs.YtiekilpddmdhnaaDoor
