/- The document's hasMark and twoHex. -/
import Derived.Test.YtnbeamdiepghoaaUd
namespace Go.Proofs.Ytnbeamdiepghoaa
open Go Go.RowKit Go.ChangeShapes Go.WideShapes Go.ChangeAt Go.Deep
set_option linter.unusedVariables false

theorem marks_has (x : UInt8) : marks.data.toList.contains x = (decide ((x.toNat : Int) = 36) || decide ((x.toNat : Int) = 35)) := by
  show [(36 : UInt8), 35].contains x = _
  rw [Bool.eq_iff_iff]
  simp only [List.contains_iff_mem, List.mem_cons, List.not_mem_nil, or_false, Bool.or_eq_true, decide_eq_true_eq]
  constructor
  · rintro (rfl | rfl)
    · exact Or.inl rfl
    · exact Or.inr rfl
  · rintro (h | h)
    · exact Or.inl (UInt8.toNat_inj.1 (by show x.toNat = 36; omega))
    · exact Or.inr (UInt8.toNat_inj.1 (by show x.toNat = 35; omega))
set_option maxHeartbeats 4000000 in
theorem hexd_any (z : Int) (w : World) (h0 : 0 ≤ z) (h1 : z < 16) : Calls Try.prog 31 #[.int .i64 z] w fun e w' => e = .returned (.int .u8 (hexd z).toNat) ∧ w' = w := by
  by_cases h : z < 10
  · have e1 : ((hexd z).toNat : Int) = 48 + z := by
      unfold hexd
      rw [if_pos h]
      simp only [Nat.toUInt8, UInt8.toNat_ofNat']
      omega
    rw [e1]
    have HE := Lib.hid e1
    clear e1
    have e2 : IntKind.u8.wrap (48 + z) = 48 + z := IntWalk.u8_in _ (by omega)
    go_enter Try.func31, Try.ntmps31
    go_wp2
    go_ret
    exact ⟨ret_int (by first | rfl | exact e2), rfl⟩
  · have e1 : ((hexd z).toNat : Int) = 97 + z - 10 := by
      unfold hexd
      rw [if_neg h]
      simp only [Nat.toUInt8, UInt8.toNat_ofNat']
      omega
    rw [e1]
    have e2 : IntKind.u8.wrap (97 + z - 10) = 97 + z - 10 := IntWalk.u8_in _ (by omega)
    clear e1
    go_enter Try.func31, Try.ntmps31
    go_wp2
    go_ret
    exact ⟨ret_int (by first | rfl | exact e2), rfl⟩
set_option maxHeartbeats 8000000 in
set_option maxRecDepth 100000 in
theorem twohex_any (t : ByteArray) (w : World) (ht : t.size < 4294967281) : Calls Try.prog 21 #[.string t] w fun e w' => e = .returned (.string (hexT t.data.toList)) ∧ Below w.heap.size w w' := by
  have HZ := Lib.hid ht
  go_enter Try.func21, Try.ntmps21
  go_wp2_with fail
  go_loopg [3, 4] t.size (fun gh s3 s4 wr => ∃ k : Nat, k ≤ t.size ∧ gh = t.size - k ∧ s4 = .int .i64 k ∧ s3 = .int .i64 (sumT (t.data.toList.take k) % 256) ∧ wr = w)
  case atStart => exact ⟨0, Nat.zero_le _, by omega, rfl, rfl, rfl⟩
  case round =>
    obtain ⟨k, hk, rfl, rfl, rfl, rfl⟩ := hrel
    by_cases hlt : k < t.size
    · have HS := Lib.hid (sumT_take (l := t.data.toList) (k := k) (by simpa using hlt))
      have HR := Lib.hid (sumT_rng t.data.toList k)
      generalize sumT (t.data.toList.take k) = z at *
      obtain ⟨z1, z2⟩ := HR.out
      have hb : t[k].toNat < 256 := t[k].toNat_lt
      have HB := Lib.hid (show t.data.toList[k].toNat = t[k].toNat from by rw [Array.getElem_toList]; rfl)
      have hm : (z % 256 + (t[k].toNat : Int)) % 256 = (z + (t[k].toNat : Int)) % 256 := by omega
      have htm : Int.tmod (z % 256 + (t[k].toNat : Int)) 256 = (z + (t[k].toNat : Int)) % 256 := by rw [Int.tmod_eq_emod_of_nonneg (by omega)]; exact hm
      go_wp2_with fail
      go_roundg (t.size - (k + 1))
      case measure => omega
      case rel => exact ⟨k + 1, by omega, rfl, by go_num, by rw [HS.out, HB.out], rfl⟩
    · have HK := Lib.hid (show sumT (t.data.toList.take k) = sumT t.data.toList from by rw [List.take_of_length_le (by simpa using (by omega : t.size ≤ k))])
      have HR := Lib.hid (sumT_rng t.data.toList k)
      generalize sumT (t.data.toList.take k) = z at *
      obtain ⟨z1, z2⟩ := HR.out
      have HF := Lib.hid (show Value.string ⟨#[hexd (z % 256 / 16), hexd (z % 256 % 16)]⟩ = .string (hexT t.data.toList) from by
        unfold hexT
        rw [← HK.out, show z % 256 / 16 = z / 16 % 16 by omega, show z % 256 % 16 = z % 16 by omega])
      obtain ⟨y, hy⟩ : ∃ y, y = z % 256 := ⟨_, rfl⟩
      have hy1 : 0 ≤ y ∧ y < 256 := by omega
      rw [← hy] at HF ⊢
      clear hy
      obtain ⟨y1, y2⟩ := hy1
      have hq : Int.tdiv y 16 = y / 16 := Int.tdiv_eq_ediv_of_nonneg y1
      have hr : Int.tmod y 16 = y % 16 := Int.tmod_eq_emod_of_nonneg y1
      have H1 := Lib.hid (hexd_any (y / 16) wr (by omega) (by omega))
      have H2 := Lib.hid (hexd_any (y % 16) wr (by omega) (by omega))
      go_wp2_with fail
      refine H1.out.mono ?_
      rintro e w1 ⟨rfl, rfl⟩
      go_wp2_with fail
      refine H2.out.mono ?_
      rintro e w2 ⟨rfl, rfl⟩
      have hcv := conv_two w2 _ rfl (hexd (y / 16)) (hexd (y % 16)) (0, 0)
      go_wp2_with fail
      go_ret
      exact ⟨congrArg Ending.returned HF.out, below_alloc _ _⟩
set_option maxHeartbeats 8000000 in
set_option maxRecDepth 100000 in
theorem hasmark_any (t : ByteArray) (w : World) (ht : t.size ≤ 140737488355328) : Calls Try.prog 20 #[.string t] w fun e w' => e = .returned (.bool (Lib.containsAny t.data.toList marks.data.toList)) ∧ w' = w := by
  go_enter Try.func20, Try.ntmps20
  go_wp2_with fail
  go_loopg [3] t.size (fun gh s3 wr => ∃ k : Nat, k ≤ t.size ∧ gh = t.size - k ∧ s3 = .int .i64 k ∧ wr = w ∧ Hid (Lib.NoAny t.data.toList marks.data.toList k))
  case atStart => exact ⟨0, Nat.zero_le _, by omega, rfl, rfl, Lib.hid (Lib.NoAny.zero _ _)⟩
  case round =>
    obtain ⟨k, hk, rfl, rfl, rfl, HN⟩ := hrel
    by_cases hlt : k < t.size
    · have hb : t[k].toNat < 256 := t[k].toNat_lt
      have HX := Lib.hid (Lib.data_getElem? t k hlt)
      have HM := Lib.hid (marks_has t[k])
      have HS := Lib.hid (fun h => HN.out.succ HX.out h)
      have HH := Lib.hid (fun h => Lib.indexAny_hit HN.out HX.out h)
      obtain ⟨x, hx⟩ : ∃ x, t[k] = x := ⟨_, rfl⟩
      rw [hx] at hb HX HM HS HH
      by_cases h36 : (x.toNat : Int) = 36
      · have HC : Hid (Lib.containsAny t.data.toList marks.data.toList = true) := Lib.hid (by
          unfold Lib.containsAny
          rw [HH.out (by rw [HM.out]; simp [h36])]
          exact decide_eq_true (by omega))
        go_wp2_with fail
        all_goals first | (exfalso; omega; done) | skip
        go_ret
        exact ⟨ret_bool HC.out.symm, rfl⟩
      · by_cases h35 : (x.toNat : Int) = 35
        · have HC : Hid (Lib.containsAny t.data.toList marks.data.toList = true) := Lib.hid (by
            unfold Lib.containsAny
            rw [HH.out (by rw [HM.out]; simp [h35])]
            exact decide_eq_true (by omega))
          go_wp2_with fail
          all_goals first | (exfalso; omega; done) | skip
          go_ret
          exact ⟨ret_bool HC.out.symm, rfl⟩
        · have HNN := Lib.hid (HS.out (by rw [HM.out]; simp [h36, h35]))
          have e36 : ((x.toNat : Int) == 36) = false := beq_eq_false_iff_ne.2 h36
          have e35 : ((x.toNat : Int) == 35) = false := beq_eq_false_iff_ne.2 h35
          go_wp2_with fail
          all_goals first | (exfalso; omega; done) | skip
          go_roundg (t.size - (k + 1))
          case measure => omega
          case rel => exact ⟨k + 1, by omega, rfl, by go_num, rfl, HNN⟩
    · have HC : Hid (Lib.containsAny t.data.toList marks.data.toList = false) := Lib.hid (by
        unfold Lib.containsAny
        rw [Lib.indexAny_none (by rw [← Lib.size_eq, show t.size = k by omega]; exact HN.out)]
        rfl)
      go_wp2_with fail
      go_ret
      exact ⟨ret_bool HC.out.symm, rfl⟩
end Go.Proofs.Ytnbeamdiepghoaa
