/- The law hourglasslaw.Names returns true. No condition. -/
import Derived.Test.YtneeimfffoomgaaRows
import Derived.Test.YtneeimfffoomgaaOpen
import Derived.Test.YtneeimfffoomgaaFacts
import Derived.WalkKit
import Derived.ProofKit
import Derived.OpenShut
import Derived.ShutString
import Derived.ChangeOld
import Derived.Below
import Derived.Test.YtneeimfffoomgaaAp
import Derived.Test.YtneeimfffoomgaaNw
namespace Go.Proofs.Ytneeimfffoomgaa.lNames
open Go Go.RowKit Go.ChangeShapes Go.WideShapes Go.ChangeAt Go.Deep
open Go.ChangeMaps (open_string shut_string)
set_option linter.unusedVariables false

def tbl : List Int := [16, 16, 256, 8, 1099511627776, 8, 200, 3000, 1000, 60000, 8, 200, 200, 1048576, 0, 1, 2, 3, 4, 0, 1, 2, 3, 4, 1, 2, 3]
def num (k : Nat) : List Int := (List.range k).map Int.ofNat
theorem num_step (k : Nat) : num (k + 1) = num k ++ [(k : Int)] := by simp [num, List.range_succ]
theorem num_len (k : Nat) : (num k).length = k := by simp [num]

/-- What holds ahead of round k of the second loop. -/
structure NInv (W : World) (ga ca : Nat) (a : Option Addr) (c k : Nat) (wr : World) : Prop where
  all : wr.ownsRow W.heap.size 3 1 (.slice (some ⟨ga, 0, none⟩) 43 ca) 43 ((tbl ++ num 16).map (Value.int .i64))
  want : wr.ownsRow W.heap.size 3 1 (.slice a (27 + k) c) (27 + k) ((tbl ++ num k).map (Value.int .i64))
  ne : some ga ≠ (Value.slice a (27 + k) c).ownBlock
  lt : ga < wr.heap.size
  b : Below W.heap.size W wr

theorem ninv_step {W wr w4 : World} {ga ca c k g4 cp4 : Nat} {a : Option Addr} {O : Obj} (h : NInv W ga ca a c k wr) (hg4 : (wr.alloc O).grownBy w4 (Value.slice a (27 + k) c).ownBlock) (hat : (Value.slice a (27 + k) c).ownBlock = some g4 ∨ g4 = (wr.alloc O).heap.size)
    (own4 : w4.ownsRow W.heap.size 3 1 (.slice (some ⟨g4, 0, none⟩) (27 + k + 1) cp4) (27 + k + 1) ((tbl ++ num k).map (Value.int .i64) ++ [.int .i64 k])) : NInv W ga ca (some ⟨g4, 0, none⟩) cp4 (k + 1) w4 := by
  have hs := hg4.size
  have hl := h.lt
  simp only [World.size_alloc] at hs hat
  refine ⟨(h.all.alloc O).kept hg4 (Or.inr (by simpa [Value.ownBlock] using h.ne)), ?_, ?_, by omega, ?_⟩
  · have e : (tbl ++ num k).map (Value.int .i64) ++ [.int .i64 (k : Int)] = (tbl ++ num (k + 1)).map (Value.int .i64) := by rw [num_step, ← List.append_assoc, List.map_append (l₂ := [(k : Int)])]; rfl
    rw [← e]
    exact own4
  · simp only [Value.ownBlock, ne_eq, Option.some.injEq]
    rcases hat with e | e
    · intro e'; subst e'; exact h.ne e.symm
    · omega
  · exact below_grown (h.b.alloc h.b.size O) (h.want.alloc O) hg4 (by have := h.b.size; simp; omega) (Nat.le_refl _)

set_option maxHeartbeats 4000000 in
set_option maxRecDepth 100000 in
theorem walk (W : World) : Calls Try.prog 3 #[] W fun e W' => e = .returned (.bool true) ∧ Below W.heap.size W W' := by
  go_enter Try.func3, Try.ntmps3
  go_wp2
  generalize hw1 : W.alloc _ = w1
  have hb1 : Below W.heap.size W w1 := by rw [← hw1]; exact below_alloc _ _
  have hc1 : ∀ k : Nat, k < 11 → w1.cell? ⟨W.heap.size, k, none⟩ = some (.int .i64 k) := by
    intro k hk
    rw [← hw1, cell_block (alloc_at rfl)]
    match k, hk with
    | 0, _ => rfl
    | 1, _ => rfl
    | 2, _ => rfl
    | 3, _ => rfl
    | 4, _ => rfl
    | 5, _ => rfl
    | 6, _ => rfl
    | 7, _ => rfl
    | 8, _ => rfl
    | 9, _ => rfl
    | 10, _ => rfl
    | n + 11, h => omega
  have Hc1 := Lib.hid hc1
  have Hw1 := Lib.hid hw1
  clear hc1 hw1
  go_loop [2] (fun i => ∃ k : Nat, k ≤ 11 ∧ i = .int .i64 k) (fun i => 11 - (intOf i).toNat)
  case atStart => exact ⟨0, Nat.zero_le _, rfl⟩
  case round =>
    obtain ⟨k, hk, rfl⟩ := hrel
    by_cases hlt : k < 11
    · have hc := Hc1.out k hlt
      go_wp2
      go_round
      case rel => exact ⟨k + 1, by omega, by go_num⟩
      case measure => simp [intOf]; omega
    · obtain rfl : k = 11 := by omega
      go_upto_region 9 with fail
      generalize hW3 : World.alloc (World.alloc w1 _) _ = W3
      have hA : W3.heap[w1.heap.size]? = some (.cells (tbl.map (Value.int .i64)).toArray 3 (0, 0)) := by rw [← hW3]; exact (alloc_lt (by simp)).trans (alloc_at rfl)
      have hB : W3.heap[w1.heap.size + 1]? = some (.cells (tbl.map (Value.int .i64)).toArray 3 (0, 0)) := by rw [← hW3]; exact alloc_at (by simp)
      have hb3 : Below W.heap.size W W3 := by rw [← hW3]; exact (hb1.alloc hb1.size _).alloc (by have := hb1.size; simp; omega) _
      have s1 := hb1.size
      have s3 : W3.heap.size = w1.heap.size + 1 + 1 := by rw [← hW3]; simp
      have oA := own_block (base := W.heap.size) hA (by omega) (n := 27) rfl (by omega)
      have oB := own_block (base := W.heap.size) hB (by omega) (n := 27) rfl (by omega)
      have OA := Lib.hid oA
      have OB := Lib.hid oB
      have HB3 := Lib.hid hb3
      have HS3 := Lib.hid s3
      have hs3 : W.heap.size ≤ W3.heap.size := by omega
      clear s3 hW3 hA hB hb3 oA oB Hc1 Hw1 hb1
      obtain ⟨i0, hi0, hz0, hz1, hz2⟩ := info_parts info_int
      go_wp2_with (at_builtin; go_loud (refine wpList_append_lies _ rfl (.tmp 22) (.tmp 23) 24 rfl W.heap.size 3 i0 (.int .i64 0) 1 8 Try.underlying24 hi0 hz0 hz1 hz2 rfl (by decide) (.slice (some ⟨w1.heap.size, 0, none⟩) 27 27) 27 _ (by rfl) (OA.out.alloc _) ⟨W3.heap.size, 0, none⟩ 16 16 _ (by rfl) (by rfl) (World.news_of_block (heap_alloc_new W3 _)) (by intro u hu; simp at hu; rcases hu with h | h | h | h | h | h | h | h | h | h | h | h | h | h | h | h <;> (subst h; rfl)) (by omega) (by unfold maxLen; omega) (by omega) (by simp; omega) _ rfl ?_); intro ga ca w4 hown4 hgrow4 hat4 hlt4)
      have hown5 : w4.ownsRow W.heap.size 3 1 (.slice (some ⟨ga, 0, none⟩) 43 ca) 43 ((tbl ++ num 16).map (Value.int .i64)) := hown4
      have s4 := hgrow4.size
      simp only [World.size_alloc] at s4 hat4
      have hn0 : NInv W ga ca (some ⟨w1.heap.size + 1, 0, none⟩) 27 0 w4 := by
        refine ⟨hown5, ?_, ?_, by omega, ?_⟩
        · have h := (OB.out.alloc (.cells ((num 16).map (Value.int .i64)).toArray 3)).kept hgrow4 (Or.inr (by simp [Value.ownBlock]))
          have e : (tbl ++ num 0).map (Value.int .i64) = tbl.map (Value.int .i64) := by simp [num]
          rw [e]
          exact h
        · simp only [Value.ownBlock, ne_eq, Option.some.injEq] at hat4 ⊢
          have := HS3.out
          omega
        · exact below_grown (HB3.out.alloc hs3 _) (OA.out.alloc _) hgrow4 (by simp; omega) (Nat.le_refl _)
      have HN := Lib.hid hn0
      clear hn0 hown4 hown5 hgrow4 hat4 hlt4 OA OB HB3 HS3
      go_loopw [4, 5] (fun s4 s5 wr => ∃ (k : Nat) (a : Option Addr) (c : Nat), k ≤ 16 ∧ s5 = .int .i64 k ∧ s4 = .slice a (27 + k) c ∧ Hid (NInv W ga ca a c k wr)) (fun _ s5 _ => 16 - (intOf s5).toNat)
      case atStart => exact ⟨0, _, _, by omega, rfl, rfl, HN⟩
      case round =>
        obtain ⟨k, a, c, hk16, rfl, rfl, HK⟩ := hrel
        clear HN
        have hwb := HK.out.b.size
        by_cases hlt2 : k < 16
        · have hlt2' : (k : Int) < 16 := by omega
          go_wp2_with (at_builtin; go_loud (refine wpList_append_lies _ rfl (.tmp 29) (.tmp 31) 24 rfl W.heap.size 3 i0 (.int .i64 0) 1 8 Try.underlying24 hi0 hz0 hz1 hz2 rfl (by decide) (.slice a (27 + k) c) (27 + k) _ (by rfl) (HK.out.want.alloc _) ⟨wr.heap.size, 0, none⟩ 1 1 [.int .i64 k] (by rfl) rfl (World.news_of_block (heap_alloc_new wr _)) (by simp [Value.oneCell']) (by omega) (by unfold maxLen; omega) (by omega) (by simp; omega) _ rfl ?_); intro g4 cp4 w5 hown5 hgrow5 hat5 hlt5)
          have HK2 := Lib.hid (ninv_step HK.out hgrow5 hat5 hown5)
          go_roundw
          case rel => exact ⟨k + 1, _, _, by omega, by go_num, rfl, HK2⟩
          case measure => simp [intOf]; omega
        · obtain rfl : k = 16 := by omega
          obtain ⟨gw, cw, hgw, _, _⟩ := HK.out.want.form (by omega)
          obtain ⟨rfl, rfl⟩ : a = some ⟨gw, 0, none⟩ ∧ c = cw := by simpa using hgw
          clear hgw
          have HA := Lib.hid (fun j (h : j < 43) => HK.out.all.cellAt j (by omega))
          have HW := Lib.hid (fun j (h : j < 43) => HK.out.want.cellAt j (by omega))
          have HB := Lib.hid HK.out.b
          clear HK hwb
          go_wp2
          go_loopw [6] (fun i wq => ∃ j q : Nat, j ≤ 43 ∧ i = .int .i64 j ∧ wq = wr.drewN q) (fun i _ => 43 - (intOf i).toNat)
          case atStart => exact ⟨0, 0, by omega, rfl, rfl⟩
          case round =>
            obtain ⟨j, q, hj, rfl, rfl⟩ := hrel
            by_cases hlt3 : j < 43
            · have cA := HA.out j hlt3
              have cW := HW.out j hlt3
              obtain ⟨z, hz⟩ : ∃ z : Int, ((tbl ++ num 16).map (Value.int .i64))[j]? = some (.int .i64 z) := by
                have hl : (tbl ++ num 16).length = 43 := by decide
                refine ⟨(tbl ++ num 16)[j], ?_⟩
                rw [List.getElem?_map, List.getElem?_eq_getElem (by omega)]
                rfl
              rw [hz] at cA cW
              clear hz
              have hlt3' : (j : Int) < 43 := by omega
              have hj0 : (0 : Int) ≤ (j : Int) := by omega
              go_wp2_with fail
              go_quiet (fail)
              go_wp2
              go_roundw
              case rel => exact ⟨j + 1, _, by omega, by go_num, rfl⟩
              case measure => simp [intOf]; omega
            · go_wp2
              go_ret
              exact ⟨rfl, below_drewN HB.out _⟩

set_option maxRecDepth 100000 in
theorem lifted (os : Os) (started : os.Started) (H : Type) (enc : TypeId × Value → H) :
    ReturnsInHanded {} Try.checked os 3 .any (Rows.namesSpec.pre6 enc Try.prog Try.f3 Rows.namesRow.domain false) (Rows.namesSpec.post enc Try.prog Try.f3 false true false false) := by
  refine returnsInHanded_of_change_sized (C := Try.checked) Facts.own started (by kernel_rfl) Try.func3
    (ChangeSpec.witness6 (enc := enc) (C := Try.checked) false ⟨#[], #[], []⟩ 8 (by kernel_rfl) (by kernel_rfl) (by kernel_rfl) (by kernel_rfl)) ?_
  intro W base args ds gs before hval0 hW hcnd hsz0 _
  have hsz : (DataW.weightsEach Try.prog (Try.f3.params.toList ++ Rows.namesSpec.plain.varTypes Try.prog) (ds ++ gs)).all (· ≤ reachBytes) = true := hsz0
  have hval : ∀ (j : Nat) t v, Try.f3.params[j]? = some t → args[j]? = some v → Value.okWide Try.prog W .any base t v := hval0
  have hW' := hW
  obtain ⟨p, q, hA0, hV, rfl, hfz, hnd⟩ := hW
  have hA : DataW.TrodAll enc Try.prog W 0 (fun _ => true) true Try.f3.params.toList args.toList ds p := hA0
  rw [Try.params3] at hA
  obtain ⟨hargs, rfl, rfl⟩ := trodAll_none hA
  obtain ⟨rfl, rfl⟩ := trodVars_none hV
  obtain rfl : args = #[] := by cases args; simp_all
  clear hA0 hval0
  refine (walk W).mono fun e W' ⟨he, bel⟩ => ?_
  subst he
  exact ⟨_, rfl, _, _, _, [], _, [], hW', trodAll_mk1 (shut_bool Try.underlying4 _), trodAll_mk0, rfl, bel.frame _, fun h => by cases h⟩

theorem closed : joinedFacts Try.prog 3 Try.f3 Rows.namesSpec Rows.namesRow = true := by
  unfold joinedFacts
  rw [Facts.enters, Facts.lifts, Facts.made]
  kernel_rfl

theorem over : Rows.namesRow.holds Try.pinned (OpenSpec.ofChange Rows.namesSpec) :=
  OpenClaim.holds_of_wide 3 Try.f3 rfl rfl rfl rfl rfl rfl rfl ⟨rfl, rfl, rfl, rfl, rfl⟩ rfl rfl rfl rfl rfl (by kernel_rfl) Try.func3 closed
    (of_decide_eq_true (by kernel_rfl)) (by unfold Func.isWrapper; first | (rw [if_pos (by decide +kernel)]; kernel_rfl) | (rw [if_neg (by decide +kernel)]; exact ⟨rfl, rfl⟩))
    (fun os started H enc _ => lifted os started H enc)

theorem proved : Rows.NamesSaid := over
#print axioms proved
end Go.Proofs.Ytneeimfffoomgaa.lNames
