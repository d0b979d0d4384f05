/- The contracts of the reference's sevens, zigs and SumOf. No condition beyond those of each row. -/
import Derived.Test.YtiekilpddmdhnaaDoorNu
import Derived.Test.YtiekilpddmdhnaaDoorMc
namespace Go.Proofs.YtiekilpddmdhnaaDoor
open Go Go.RowKit Go.ChangeShapes Go.WideShapes Go.Deep
set_option linter.unusedVariables false

/-- New bytes are handed back. -/
def NewB (w : World) (bs : List UInt8) (e : Ending) (w' : World) : Prop := ∃ a c, e = .returned (.slice a bs.length c) ∧ w'.ownsRow w.heap.size 5 1 (.slice a bs.length c) bs.length (bv bs) ∧ Below w.heap.size w w'
theorem own_bytes {w : World} {g base : Nat} {bs : List UInt8} (h : w.heap[g]? = some (.cells (bv bs).toArray 5 (0, 0))) (hb : base ≤ g) (hm : bs.length ≤ 1000000) : w.ownsRow base 5 1 (.slice (some ⟨g, 0, none⟩) bs.length bs.length) bs.length (bv bs) :=
  ⟨by simp [bv_len], .inr ⟨g, bs.length, _, rfl, hb, h, Nat.le_refl _, by unfold maxLen; omega, by simp [bv_len], by rw [← bv_len]; simp [List.take_of_length_le]⟩⟩
theorem slv_of_owns {w : World} {base m : Nat} {t : TypeId} {v : Value} {vs : List Value} (h : w.ownsRow base t 1 v vs.length vs) (hm : vs.length ≤ m) : SlV m w.heap.size w v vs :=
  sl1_of_owns h hm (fun i hi hv => rfl)
theorem NewB.slv {w w' : World} {bs : List UInt8} {a : Option Addr} {c : Nat} (h : w'.ownsRow w.heap.size 5 1 (.slice a bs.length c) bs.length (bv bs)) (hl : bs.length ≤ 100000000) : SlV 100000000 w'.heap.size w' (.slice a bs.length c) (bv bs) :=
  slv_of_owns (by rw [bv_len]; exact h) (by rw [bv_len]; exact hl)

theorem sevens_len (k : Nat) : (sevens k).length ≤ k + 1 := by
  induction k using Nat.strongRecOn with
  | _ k ih =>
    by_cases h : k < 128
    · rw [sevens_small h]; simp
    · rw [sevens_more (by omega), List.length_cons]
      have := ih (k / 128) (by omega)
      omega

theorem bv1 {c : UInt8} {z : Int} (h : (c.toNat : Int) = z) : (bv [c]).toArray = #[.int .u8 z] := by rw [← h]; rfl

set_option maxHeartbeats 4000000 in
theorem sevens_any (k : Nat) : ∀ (w : World), k < 9223372036854775808 → (sevens k).length ≤ 1000000 → Calls Tryd.prog 70 #[.int .i64 k] w (NewB w (sevens k)) := by
  induction k using Nat.strongRecOn with
  | _ k ih =>
    intro w hk hlen
    by_cases h : k < 128
    · have e := sevens_small h
      have h' : (k : Int) < 128 := by omega
      have hc : ((UInt8.ofNat k).toNat : Int) = (k : Int) := by rw [u8_nat (by omega)]
      rw [e]
      clear e ih
      generalize UInt8.ofNat k = c at *
      have HB := Lib.hid (own_bytes (base := w.heap.size) (w := w.alloc (.cells #[.int .u8 (k : Int)] 5)) (bs := [c]) (by rw [bv1 hc]; exact alloc_at rfl) (Nat.le_refl _) (by simp))
      clear hc
      go_enter Tryd.func70, Tryd.ntmps70
      go_wp2
      go_ret
      exact ⟨some ⟨w.heap.size, 0, none⟩, 1, rfl, HB.out, below_alloc _ _⟩
    · have e := sevens_more (n := k) (by omega)
      have hl : (sevens (k / 128)).length + 1 ≤ 1000000 := by rw [e, List.length_cons] at hlen; exact hlen
      have HI := Lib.hid (fun w => ih (k / 128) (by omega) w (by omega) (by omega))
      have h' : ¬ (k : Int) < 128 := by omega
      have hc : ((UInt8.ofNat (128 + k % 128)).toNat : Int) = 128 + (k : Int) % 128 := by rw [u8_nat (by omega)]; omega
      rw [e]
      clear e ih hlen
      generalize hr : sevens (k / 128) = r at *
      generalize UInt8.ofNat (128 + k % 128) = c at *
      clear hr
      have hb0 := own_bytes (base := w.heap.size) (w := w.alloc (.cells #[.int .u8 (128 + (k : Int) % 128)] 5)) (bs := [c]) (by rw [bv1 hc]; exact alloc_at rfl) (Nat.le_refl _) (by simp)
      have HB := Lib.hid hb0
      clear hc hb0
      go_enter Tryd.func70, Tryd.ntmps70
      go_wp2_with fail
      refine (HI.out _).mono ?_
      rintro e w1 ⟨a, c1, rfl, hown, hb1⟩
      have hs := hb1.size
      simp only [World.size_alloc] at hs
      have HB1 := Lib.hid (own_below HB.out hb1 (Nat.le_refl _))
      have HS := Lib.hid (NewB.slv hown (by omega))
      have HBB := Lib.hid ((below_alloc w (.cells #[.int .u8 (128 + (k : Int) % 128)] 5)).trans (hb1.mono (by simp)))
      clear hown hb1
      go_wp2_with (at_builtin; go_loud (refine wpList_append_all w1 rfl (.tmp 12) (.tmp 15) 22 rfl w.heap.size 5 (.int .u8 0) 1 Tryd.underlying22 info_u8 rfl _ 1 _ (by rfl) HB1.out _ 100000000 w1.heap.size (bv r) (by rfl) HS.out (bv_one r) (by rw [bv_len]; unfold maxLen; omega) (by rw [bv_len]; omega) (by omega) ?_); intro a2 c2 w2 hown2 hgrow2 hat2)
      go_ret
      rw [bv_len] at hown2
      have e2 : bv [c] ++ bv r = bv (c :: r) := by rw [← bv_app]; rfl
      rw [e2, Nat.add_comm] at hown2
      exact ⟨a2, c2, by simp [bv_len, Nat.add_comm], hown2, HBB.out.grown hgrow2 (by omega) (fun k hk => (HB1.out.lt k hk).1)⟩
theorem zigs_any (z : Int) (w : World) (hz : -4398046511104 ≤ z ∧ z ≤ 4398046511104) (hlen : (sevens (zig z)).length ≤ 1000000) : Calls Tryd.prog 71 #[.int .i64 z] w (NewB w (sevens (zig z))) := by
  obtain ⟨hz1, hz2⟩ := hz
  by_cases h0 : 0 ≤ z
  · have e : ((zig z : Nat) : Int) = z + z := by unfold zig; rw [if_neg (by omega)]; omega
    have HN := Lib.hid (sevens_any (zig z) w (by omega) hlen)
    rw [e] at HN
    clear e hlen
    generalize sevens (zig z) = out at *
    go_enter Tryd.func71, Tryd.ntmps71
    go_wp2_with fail
    refine HN.out.mono ?_
    rintro e w1 ⟨a, c, rfl, h1, h2⟩
    go_wp2
    go_ret
    exact ⟨a, c, rfl, h1, h2⟩
  · have e : ((zig z : Nat) : Int) = -z - z - 1 := by unfold zig; rw [if_pos (by omega)]; omega
    have HN := Lib.hid (sevens_any (zig z) w (by omega) hlen)
    rw [e] at HN
    clear e hlen
    generalize sevens (zig z) = out at *
    go_enter Tryd.func71, Tryd.ntmps71
    go_wp2_with fail
    refine HN.out.mono ?_
    rintro e w1 ⟨a, c, rfl, h1, h2⟩
    go_wp2
    go_ret
    exact ⟨a, c, rfl, h1, h2⟩

theorem bv4 {a b c d : UInt8} {x y z u : Int} (h1 : (a.toNat : Int) = x) (h2 : (b.toNat : Int) = y) (h3 : (c.toNat : Int) = z) (h4 : (d.toNat : Int) = u) : (bv [a, b, c, d]).toArray = #[.int .u8 x, .int .u8 y, .int .u8 z, .int .u8 u] := by rw [← h1, ← h2, ← h3, ← h4]; rfl

set_option maxHeartbeats 4000000 in
theorem sumOf_any (v : Value) (bs : List UInt8) (w : World) (hf : BytesR w.heap.size w v bs) : Calls Tryd.prog 23 #[v] w (NewB w (sumB bs)) := by
  obtain ⟨a, cap, rfl, hl, hl2, hc⟩ := hf
  have HC := Lib.hid hc
  clear hc
  go_enter Tryd.func23, Tryd.ntmps23
  go_wp2
  go_loop [3, 4, 5] (fun s3 s4 s5 => ∃ k x y : Nat, k ≤ bs.length ∧ s5 = .int .i64 k ∧ s3 = .int .i64 x ∧ s4 = .int .i64 y ∧ Hid (sumS 1 0 (bs.take k) = (x, y)) ∧ x < 65521 ∧ y < 65521) (fun _ _ s5 => bs.length - (intOf s5).toNat)
  case atStart => exact ⟨0, 1, 0, Nat.zero_le _, rfl, rfl, rfl, Lib.hid rfl, by omega, by omega⟩
  case round =>
    obtain ⟨k, x, y, hk, rfl, rfl, rfl, S, hx, hy⟩ := hrel
    by_cases hlt : k < bs.length
    · obtain ⟨b, off, vi, ha, hb, hcell, hvi⟩ := HC.out k hlt
      subst ha
      unfold ByteV at hvi
      subst hvi
      have hstep := sum_step bs k hlt
      rw [S.out] at hstep
      have HS := Lib.hid hstep
      have hc := u8_lt bs[k]
      generalize bs[k].toNat = z at *
      clear hstep
      go_wp2
      go_round
      case rel => exact ⟨k + 1, (x + z) % 65521, (y + (x + z) % 65521) % 65521, by omega, by go_num, by go_num, by go_num, HS, Nat.mod_lt _ (by decide), Nat.mod_lt _ (by decide)⟩
      case measure => simp [intOf]; omega
    · obtain rfl : k = bs.length := by omega
      have hS : sumS 1 0 bs = (x, y) := by have := S.out; rwa [List.take_length] at this
      have h1 : sum1 bs = x := by unfold sum1; rw [hS]
      have h2 : sum2 bs = y := by unfold sum2; rw [hS]
      have hB : sumB bs = [UInt8.ofNat (y / 256), UInt8.ofNat (y % 256), UInt8.ofNat (x / 256), UInt8.ofNat (x % 256)] := by unfold sumB; rw [h1, h2]
      have c1 : ((UInt8.ofNat (y / 256)).toNat : Int) = (y : Int) / 256 := by rw [u8_nat (by omega)]; omega
      have c2 : ((UInt8.ofNat (y % 256)).toNat : Int) = (y : Int) % 256 := by rw [u8_nat (by omega)]; omega
      have c3 : ((UInt8.ofNat (x / 256)).toNat : Int) = (x : Int) / 256 := by rw [u8_nat (by omega)]; omega
      have c4 : ((UInt8.ofNat (x % 256)).toNat : Int) = (x : Int) % 256 := by rw [u8_nat (by omega)]; omega
      have HB := Lib.hid (own_bytes (base := w.heap.size) (w := w.alloc (.cells #[.int .u8 ((y : Int) / 256), .int .u8 ((y : Int) % 256), .int .u8 ((x : Int) / 256), .int .u8 ((x : Int) % 256)] 5)) (bs := [UInt8.ofNat (y / 256), UInt8.ofNat (y % 256), UInt8.ofNat (x / 256), UInt8.ofNat (x % 256)]) (by rw [bv4 c1 c2 c3 c4]; exact alloc_at rfl) (Nat.le_refl _) (by simp))
      have HE := Lib.hid hB
      clear hB c1 c2 c3 c4 h1 h2 hS S
      go_wp2
      refine bodyPost_ret (v := .slice (some ⟨w.heap.size, 0, none⟩) 4 4) (by simp [results, Tryd.results23, go_sem]) rfl ?_
      rw [HE.out]
      exact ⟨some ⟨w.heap.size, 0, none⟩, 4, rfl, HB.out, below_alloc _ _⟩
end Go.Proofs.YtiekilpddmdhnaaDoor
