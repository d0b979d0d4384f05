/- strings.ContainsAny of the two signs, whole. -/
import Derived.Test.YtnbeamdiepghoaaUb
import Derived.Test.YtnbeamdiepghoaaBase
namespace Go.Proofs.Ytnbeamdiepghoaa
open Go Go.RowKit Go.ChangeShapes Go.WideShapes Go.ChangeAt Go.Deep
set_option linter.unusedVariables false

theorem marks_ascii : ∀ (j : Nat) b, marks.data.toList[j]? = some b → b.toNat < 128 := by
  intro j b h
  match j with
  | 0 => injection h with h; subst h; decide
  | 1 => injection h with h; subst h; decide
  | j + 2 => exact absurd h (by simp [marks])
theorem marks_hi {b : UInt8} (h : 128 ≤ b.toNat) : marks.data.toList.contains b = false := by
  cases e : marks.data.toList.contains b with
  | false => rfl
  | true =>
    have hm := List.contains_iff_mem.1 e
    obtain ⟨j, hj⟩ := List.getElem?_of_mem hm
    have := marks_ascii j b hj
    omega
theorem get_list (s : ByteArray) (j : Nat) (h : j < s.size) : s.data.toList[j]? = some (s.get! j) := by
  rw [Lib.data_getElem? s j h]
  congr 1
  simp [ByteArray.get!, getElem!_pos, h]
  rfl
theorem noany_more {s : ByteArray} {i k : Nat} (h : Lib.NoAny s.data.toList marks.data.toList i) (hk : i + k ≤ s.size) (hh : ∀ j, j < k → 128 ≤ (s.get! (i + j)).toNat) : Lib.NoAny s.data.toList marks.data.toList (i + k) := by
  intro j b hj hb
  by_cases q : j < i
  · exact h j b q hb
  · have hjs : j < s.size := by omega
    rw [get_list s j hjs] at hb
    injection hb with hb
    subst hb
    have := hh (j - i) (by omega)
    rw [show i + (j - i) = j by omega] at this
    exact marks_hi this

/-- The iterator over a text, wherever it lies, moved on. -/
def iterTo (w : World) (b : Nat) (s : ByteArray) (pos : Nat) : World := { w with heap := w.heap.setIfInBounds b (.stringIter s pos) }
theorem iterTo_at {w : World} {b : Nat} {s : ByteArray} {pos : Nat} (h : b < w.heap.size) : (iterTo w b s pos).heap[b]? = some (.stringIter s pos) := by
  show (w.heap.setIfInBounds b (.stringIter s pos))[b]? = _
  simp [h]
theorem iterTo_below {B : Nat} {a w : World} {b : Nat} {s : ByteArray} {pos : Nat} (h : Below B a w) (hb : B ≤ b) : Below B a (iterTo w b s pos) :=
  { h with
    size := by show _ ≤ (w.heap.setIfInBounds b _).size; rw [Array.size_setIfInBounds]; exact h.size
    block := fun k hk => by
      show (w.heap.setIfInBounds b (.stringIter s pos))[k]? = _
      rw [Array.getElem?_setIfInBounds_ne (by omega)]
      exact h.block k hk }
theorem run_next_at {w : World} {b : Nat} {s : ByteArray} {pos : Nat} {ty : TypeId} (hb : w.heap[b]? = some (.stringIter s pos)) (h : pos < s.size) :
    (Instr.next (.pointer (some ⟨b, 0, none⟩)) true ty).run Try.prog w = .ok (.tuple #[.bool true, .int .i64 pos, .int .i32 (Utf8.decode s pos).1]) (iterTo w b s (pos + (Utf8.decode s pos).2)) := by
  simp only [Instr.next, getObj, setObj, Sem.run_bind, Sem.run, hb, Result.andThen, h, if_true]
  simp [goInt, Sem.run, iterTo]
theorem run_next_out {w : World} {b : Nat} {s : ByteArray} {pos : Nat} {ty : TypeId} (hb : w.heap[b]? = some (.stringIter s pos)) (h : ¬ pos < s.size) :
    (Instr.next (.pointer (some ⟨b, 0, none⟩)) true ty).run Try.prog w = .ok (.tuple #[.bool false]) w := by
  simp [Instr.next, getObj, Sem.run, hb, h]

set_option maxHeartbeats 8000000 in
set_option maxRecDepth 1000000 in
/-- At most eight bytes. -/
theorem idxany_short (s : ByteArray) (w : World) (h8 : s.size ≤ 8) :
    Calls Try.prog 22 #[.string s, .string marks] w fun e w' => e = .returned (.int .i64 (Lib.indexAny s.data.toList marks.data.toList)) ∧ Below w.heap.size w w' := by
  have HI := Lib.hid (fun (r : Int) (h0 : 0 ≤ r) (h1 : r < 128) w => Try.strings_IndexRune_ascii marks r w h0 h1)
  have HH := Lib.hid idxrune_hi
  have HS := Lib.hid (fun w => Try.strings_shouldUseASCIISet s.size w)
  have h8z : decide ((8 : Int) < (s.size : Int)) = false := decide_eq_false (by omega)
  have hn1 : ((marks.size : Int) == 1) = false := by decide
  have hemp : marks.toList.isEmpty = false := by rw [Lib.toList_data]; rfl
  have hne : ¬ marks.toList = [] := by rw [Lib.toList_data]; decide
  have HN := Lib.hid (fun (i k : Nat) => noany_more (s := s) (i := i) (k := k))
  have HA := Lib.hid marks_ascii
  generalize marks = m at *
  go_enter Try.func22, Try.ntmps22
  go_wp2_with fail
  refine (HS.out _).mono ?_
  rintro e w' ⟨rfl, rfl⟩
  rw [h8z]
  go_wp2_with fail
  obtain ⟨g0, hg0⟩ : ∃ g, g = w'.heap.size := ⟨_, rfl⟩
  have HX0 := Lib.hid (show (w'.iter s 0).heap[g0]? = some (.stringIter s 0) from by rw [hg0]; exact World.iter_heap _ _ _)
  have HB0 := Lib.hid (show Below w'.heap.size w' (w'.iter s 0) from below_alloc w' _)
  have HG := Lib.hid (show w'.heap.size ≤ g0 from by omega)
  generalize w'.iter s 0 = v0 at *
  rw [← hg0]
  clear hg0
  go_loopg [9, 10] s.size (fun g _ _ wx => ∃ i : Nat, i ≤ s.size ∧ s.size - i ≤ g ∧ Hid (wx.heap[g0]? = some (.stringIter s i)) ∧ Hid (Below w'.heap.size w' wx) ∧ Hid (Lib.NoAny s.data.toList m.data.toList i))
  case atStart => exact ⟨0, Nat.zero_le _, by omega, HX0, HB0, Lib.hid (Lib.NoAny.zero _ _)⟩
  case round =>
    obtain ⟨i, hi, hg, HX, HB, HNO⟩ := hrel
    by_cases hlt : i < s.size
    · have hnx := fun ty => run_next_at (ty := ty) HX.out hlt
      have HX2 := Lib.hid (fun p => iterTo_at (w := wr) (b := g0) (s := s) (pos := p) (Array.getElem?_eq_some_iff.1 HX.out).1)
      have HB2 := Lib.hid (fun p => iterTo_below (b := g0) (s := s) (pos := p) HB.out HG.out)
      obtain ⟨x, hx⟩ : ∃ x, s.get! i = x := ⟨_, rfl⟩
      have HXL := Lib.hid (show s.data.toList[i]? = some x from by rw [get_list s i hlt, hx])
      by_cases hlo : x.toNat < 128
      · have hd : Utf8.decode s i = (x.toNat, 1) := by rw [Lib.decode_at, hx]; unfold Lib.decodeN; rw [if_pos hlo]
        rw [hd] at hnx
        simp only at hnx
        have hcon := Lib.contains_iff_indexByte m.data.toList x
        have hback : ((x.toNat : Int)).toNat.toUInt8 = x := by simp
        have HC := Lib.hid (HI.out x.toNat (by omega) (by omega))
        rw [hback] at HC
        clear hd
        cases hin : m.data.toList.contains x
        · rw [hin] at hcon
          have hlt2 : ¬ ((0 : Int) ≤ Lib.indexByte m.data.toList x) := of_decide_eq_false hcon.symm
          have HNN := Lib.hid (HNO.out.succ HXL.out hin)
          clear hcon
          go_wp2_with fail
          refine (HC.out _).mono ?_
          rintro e w2 ⟨rfl, rfl⟩
          go_wp2_with fail
          go_roundg (s.size - (i + 1))
          case measure => omega
          case rel => exact ⟨i + 1, by omega, by omega, Lib.hid (HX2.out _), Lib.hid (HB2.out _), HNN⟩
        · rw [hin] at hcon
          have hge : (0 : Int) ≤ Lib.indexByte m.data.toList x := of_decide_eq_true hcon.symm
          have HNN := Lib.hid (Lib.indexAny_hit HNO.out HXL.out hin)
          clear hcon
          go_wp2_with fail
          refine (HC.out _).mono ?_
          rintro e w2 ⟨rfl, rfl⟩
          go_wp2_with fail
          go_ret
          exact ⟨ret_int HNN.out.symm, HB2.out _⟩
      · obtain ⟨d1, d2, d3, d4, d5⟩ := dec_hi s i hlt (by rw [hx]; omega)
        generalize hdd : Utf8.decode s i = d at *
        obtain ⟨dr, dk⟩ := d
        simp only at d1 d2 d3 d4 d5 hnx
        have HC := Lib.hid (fun w => HH.out (dr : Int) w (by omega) d2)
        have HNN := Lib.hid (HN.out i dk HNO.out d4 d5)
        have hlt2 : ¬ ((0 : Int) ≤ -1) := by omega
        clear d2 d5 hdd
        go_wp2_with fail
        refine (HC.out _).mono ?_
        rintro e w2 ⟨rfl, hb2⟩
        have HB3 := Lib.hid ((HB2.out (i + dk)).trans (hb2.mono (HB2.out (i + dk)).size))
        have HX3 := Lib.hid (block_below hb2 (HX2.out (i + dk)) (Array.getElem?_eq_some_iff.1 (HX2.out (i + dk))).1)
        clear hb2
        go_wp2_with fail
        go_roundg (s.size - (i + dk))
        case measure => omega
        case rel => exact ⟨i + dk, by omega, by omega, HX3, HB3, HNN⟩
    · have hnx := fun ty => run_next_out (ty := ty) HX.out hlt
      have HNN := Lib.hid (Lib.indexAny_none (s := s.data.toList) (chars := m.data.toList) (by rw [← Lib.size_eq, show s.size = i by omega]; exact HNO.out))
      go_wp2_with fail
      go_ret
      exact ⟨ret_int HNN.out.symm, HB.out⟩

theorem info_set : (Try.prog.info? 69).map (fun i => (i.zero, i.size)) = some (some (.agg (Array.replicate 256 (.bool false))), 256) := by kernel_rfl
set_option maxHeartbeats 8000000 in
set_option maxRecDepth 1000000 in
/-- More than eight bytes. -/
theorem idxany_long (s : ByteArray) (w : World) (h8 : 8 < s.size) (hs : s.size ≤ 140737488355328) :
    Calls Try.prog 22 #[.string s, .string marks] w fun e w' => e = .returned (.int .i64 (Lib.indexAny s.data.toList marks.data.toList)) ∧ Below w.heap.size w w' := by
  have HM := Lib.hid (fun w => Try.strings_makeASCIISet (zero_of_info info_set).1 marks w (by decide) marks_ascii)
  have HS := Lib.hid (fun w => Try.strings_shouldUseASCIISet s.size w)
  have HCC := Lib.hid Try.asciiSet_contains
  have h8z : decide ((8 : Int) < (s.size : Int)) = true := decide_eq_true (by omega)
  have hn1 : ((marks.size : Int) == 1) = false := by decide
  have hemp : marks.toList.isEmpty = false := by rw [Lib.toList_data]; rfl
  have hne : ¬ marks.toList = [] := by rw [Lib.toList_data]; decide
  generalize marks = m at *
  have hsc : ∀ w : World, (storeCells ⟨w.heap.size, 0, none⟩ (Lib.setCells m.data.toList).toList 0).run Try.prog (w.alloc (.cells (Array.replicate 256 (.bool false)) 69)) = .ok () (w.alloc (.cells (Lib.setCells m.data.toList) 69)) := fun w =>
    run_storeCells_new (P := Try.prog) w 69 (Array.replicate 256 (.bool false)) (Lib.setCells m.data.toList) (by rw [Lib.setCells_size]; exact (zero_of_info info_set).2) (by rw [Lib.setCells_size, Array.size_replicate]) (Lib.setCells_one _)
  have HSC := Lib.hid hsc
  clear hsc
  go_enter Try.func22, Try.ntmps22
  go_wp2_with fail
  refine (HS.out _).mono ?_
  rintro e w' ⟨rfl, rfl⟩
  rw [h8z]
  go_wp2_with fail
  refine (HM.out _).mono ?_
  rintro e w1 ⟨rfl, rfl⟩
  have hzv := (zero_of_info info_set).1
  have hsz := Lib.setCells_size m.data.toList
  have hsc := HSC.out (w'.alloc (.cells (Lib.setCells m.data.toList) 69))
  rw [show (w'.alloc (.cells (Lib.setCells m.data.toList) 69)).heap.size = w'.heap.size + 1 by simp] at hsc
  have hcellAt : ∀ x : UInt8, ((w'.alloc (.cells (Lib.setCells m.data.toList) 69)).alloc (.cells (Lib.setCells m.data.toList) 69)).cell? ⟨w'.heap.size + 1, x.toNat, none⟩ = some (.bool (m.data.toList.contains x)) := fun x => by
    rw [World.cell?_alloc_at _ _ _ _ (by simp), Lib.setCells_at]
  have HCA := Lib.hid hcellAt
  have HBB := Lib.hid (below_alloc2 w' (.cells (Lib.setCells m.data.toList) 69) (.cells (Lib.setCells m.data.toList) 69))
  clear hcellAt
  go_wp2_with fail
  generalize (w'.alloc (.cells (Lib.setCells m.data.toList) 69)).alloc (.cells (Lib.setCells m.data.toList) 69) = W at *
  go_wp2_with fail
  go_loopg [8] s.size (fun g s8 wx => ∃ i : Nat, i + g = s.size ∧ s8 = .int .i64 i ∧ wx = W ∧ Lib.NoAny s.data.toList m.data.toList i)
  case atStart => exact ⟨0, by omega, rfl, rfl, Lib.NoAny.zero _ _⟩
  case round =>
    obtain ⟨i, hig, rfl, rfl, hno⟩ := hrel
    have HN := Lib.hid hno
    clear hno
    cases gk with
    | zero =>
      obtain rfl : i = s.size := by omega
      have hiz : ¬ ((s.size : Int) < (s.size : Int)) := by omega
      have HNN := Lib.hid (Lib.indexAny_none (s := s.data.toList) (chars := m.data.toList) (by rw [← Lib.size_eq]; exact HN.out))
      go_wp2_with fail
      go_ret
      exact ⟨ret_int HNN.out.symm, HBB.out⟩
    | succ g =>
      have hi : i < s.size := by omega
      have hiz : (i : Int) < (s.size : Int) := by omega
      obtain ⟨x, hx⟩ : ∃ x : UInt8, s[i]'hi = x := ⟨_, rfl⟩
      have Hx := Lib.hid (show s.data.toList[i]? = some x from by rw [← hx]; exact Lib.data_getElem? s i hi)
      have HC := Lib.hid (HCC.out (w'.heap.size + 1) x _ wr (HCA.out x))
      cases hin : m.data.toList.contains x <;> rw [hin] at HC
      · have HNN := Lib.hid (HN.out.succ Hx.out hin)
        go_wp2_with fail
        refine HC.out.mono ?_
        rintro e w2 ⟨rfl, rfl⟩
        go_wp2_with fail
        go_roundg g
        case measure => omega
        case rel => exact ⟨i + 1, by omega, by first | rfl | simp, rfl, HNN.out⟩
      · have HNN := Lib.hid (Lib.indexAny_hit HN.out Hx.out hin)
        go_wp2_with fail
        refine HC.out.mono ?_
        rintro e w2 ⟨rfl, rfl⟩
        go_wp2_with fail
        go_ret
        exact ⟨ret_int HNN.out.symm, HBB.out⟩
set_option maxHeartbeats 1000000 in
/-- Has a text one of the two signs? -/
theorem containsM_any (s : ByteArray) (w : World) (hs : s.size ≤ 140737488355328) :
    Calls Try.prog 12 #[.string s, .string marks] w fun e w' => e = .returned (.bool (Lib.containsAny s.data.toList marks.data.toList)) ∧ Below w.heap.size w w' := by
  have HC : Hid (Calls Try.prog 22 #[.string s, .string marks] w fun e w' => e = .returned (.int .i64 (Lib.indexAny s.data.toList marks.data.toList)) ∧ Below w.heap.size w w') := Lib.hid (by
    by_cases h : s.size ≤ 8
    · exact idxany_short s w h
    · exact idxany_long s w (by omega) hs)
  generalize marks = m at *
  go_enter Try.func12, Try.ntmps12
  go_wp2_with fail
  refine HC.out.mono ?_
  rintro e w' ⟨rfl, hb⟩
  have HB := Lib.hid hb
  clear hb
  go_wp2_with fail
  go_ret
  exact ⟨rfl, HB.out⟩
end Go.Proofs.Ytnbeamdiepghoaa
