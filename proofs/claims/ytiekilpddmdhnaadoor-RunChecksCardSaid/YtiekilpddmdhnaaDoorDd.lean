/- The contract of evlog.Decode, bytes that are too many, too few or of another sum. No condition beyond the readings and the table's cells. -/
import Derived.Test.YtiekilpddmdhnaaDoorDe
namespace Go.Proofs.YtiekilpddmdhnaaDoor
open Go Go.RowKit Go.ChangeShapes Go.WideShapes Go.Deep
set_option linter.unusedVariables false

/-- What Decode answers. -/
def DecPost (b : List UInt8) (w : World) (en : Ending) (w' : World) : Prop := ∃ c l vo, DecR b c l ∧ en = .returned (.tuple #[vo, .int .i64 c]) ∧ EvsR w'.heap.size w' vo l ∧ Below w.heap.size w w'
theorem DecPost.no {b : List UInt8} {w w' : World} {c : Int} (h : DecR b c []) (hb : Below w.heap.size w w') : DecPost b w (.returned (.tuple #[.slice none 0 0, .int .i64 c])) w' := ⟨c, [], _, h, rfl, SlN.nil _ _ _ _ _, hb⟩

theorem decode_big (v : Value) (b : List UInt8) (w : World) (hf : BytesR w.heap.size w v b) (h : 60000 < b.length) : Calls Tryd.prog 7 #[v] w (DecPost b w) := by
  have HR := Lib.hid (show DecR b 1 [] from Or.inl ⟨h, rfl, rfl⟩)
  obtain ⟨a, cap, rfl, hl, hl2, hc⟩ := hf
  clear hc
  have hi : (60000 : Int) < (b.length : Int) := by omega
  go_enter Tryd.func7, Tryd.ntmps7
  go_wp2
  go_ret2
  exact DecPost.no HR.out (Below.refl _ _)
theorem decode_short (v : Value) (b : List UInt8) (w : World) (hf : BytesR w.heap.size w v b) (h : b.length < 5) : Calls Tryd.prog 7 #[v] w (DecPost b w) := by
  have HR := Lib.hid (show DecR b 5 [] from Or.inr (Or.inl ⟨h, rfl, rfl⟩))
  obtain ⟨a, cap, rfl, hl, hl2, hc⟩ := hf
  clear hc
  have hi : (b.length : Int) < 5 := by omega
  go_enter Tryd.func7, Tryd.ntmps7
  go_wp2
  go_ret2
  exact DecPost.no HR.out (Below.refl _ _)

theorem bytes_last4 {B : Nat} {w : World} {ad : Option Addr} {n cap : Nat} {p : List UInt8} {d0 d1 d2 d3 : UInt8} (hf : BytesR B w (.slice ad (n + 4) cap) (p ++ [d0, d1, d2, d3])) (hp : p.length = n) : ∃ bb off, ad = some ⟨bb, off, none⟩ ∧ bb < B ∧ n + 4 ≤ cap ∧ w.cell? ⟨bb, off + n, none⟩ = some (.int .u8 (d0.toNat : Int)) ∧ w.cell? ⟨bb, off + (n + 1), none⟩ = some (.int .u8 (d1.toNat : Int)) ∧ w.cell? ⟨bb, off + (n + 2), none⟩ = some (.int .u8 (d2.toNat : Int)) ∧ w.cell? ⟨bb, off + (n + 3), none⟩ = some (.int .u8 (d3.toNat : Int)) := by
  subst hp
  obtain ⟨a', c', hv, hl, hl2, hc⟩ := hf
  injection hv with h1 h2 h3
  subst h1 h3
  rw [List.length_append] at hl2
  simp only [List.length_cons, List.length_nil] at hl2
  have key : ∀ j (hj : j < 4), ∃ bb off, ad = some ⟨bb, off, none⟩ ∧ bb < B ∧ w.cell? ⟨bb, off + (p.length + j), none⟩ = some (.int .u8 ((([d0, d1, d2, d3] : List UInt8)[j]'(by simpa using hj)).toNat : Int)) := by
    intro j hj
    obtain ⟨bb, off, vi, ha, hbb, q, hvi⟩ := hc (p.length + j) (by rw [List.length_append]; simp; omega)
    unfold ByteV at hvi
    refine ⟨bb, off, ha, hbb, ?_⟩
    rw [q, hvi, List.getElem_append_right (by omega)]
    simp
  obtain ⟨bb, off, ha, hbb, q0⟩ := key 0 (by decide)
  obtain ⟨b1, o1, ha1, _, q1⟩ := key 1 (by decide)
  obtain ⟨b2, o2, ha2, _, q2⟩ := key 2 (by decide)
  obtain ⟨b3, o3, ha3, _, q3⟩ := key 3 (by decide)
  rw [ha] at ha1 ha2 ha3
  injection ha1 with ha1; injection ha1 with x1 y1; subst x1 y1
  injection ha2 with ha2; injection ha2 with x1 y1; subst x1 y1
  injection ha3 with ha3; injection ha3 with x1 y1; subst x1 y1
  exact ⟨bb, off, ha, hbb, by omega, q0, q1, q2, q3⟩

theorem sum_iff (p : List UInt8) (d0 d1 d2 d3 : UInt8) : sumB p = [d0, d1, d2, d3] ↔ (sum2 p : Int) * 65536 + (sum1 p : Int) = (d0.toNat : Int) * 16777216 + (d1.toNat : Int) * 65536 + (d2.toNat : Int) * 256 + (d3.toNat : Int) := by
  obtain ⟨hx, hy⟩ := sumS_lt p 1 0 (by decide) (by decide)
  change sum1 p < 65521 at hx
  change sum2 p < 65521 at hy
  have u0 := u8_lt d0
  have u1 := u8_lt d1
  have u2 := u8_lt d2
  have u3 := u8_lt d3
  unfold sumB
  generalize sum1 p = x at *
  generalize sum2 p = y at *
  constructor
  · intro h
    simp only [List.cons.injEq, and_true] at h
    obtain ⟨h0, h1, h2, h3⟩ := h
    have k0 := congrArg UInt8.toNat h0
    have k1 := congrArg UInt8.toNat h1
    have k2 := congrArg UInt8.toNat h2
    have k3 := congrArg UInt8.toNat h3
    rw [u8_nat (by omega)] at k0 k1 k2 k3
    omega
  · intro h
    have k0 : y / 256 = d0.toNat := by omega
    have k1 : y % 256 = d1.toNat := by omega
    have k2 : x / 256 = d2.toNat := by omega
    have k3 : x % 256 = d3.toNat := by omega
    rw [k0, k1, k2, k3, UInt8.ofNat_toNat, UInt8.ofNat_toNat, UInt8.ofNat_toNat, UInt8.ofNat_toNat]
theorem parts4 {n : Nat} {p : List UInt8} {d0 d1 d2 d3 : UInt8} (hp : p.length = n) : (p ++ [d0, d1, d2, d3]).length = n + 4 ∧ (p ++ [d0, d1, d2, d3]).take ((p ++ [d0, d1, d2, d3]).length - 4) = p ∧ (p ++ [d0, d1, d2, d3]).drop ((p ++ [d0, d1, d2, d3]).length - 4) = [d0, d1, d2, d3] := by
  subst hp
  refine ⟨by simp, ?_, ?_⟩
  · rw [show (p ++ [d0, d1, d2, d3]).length - 4 = p.length by simp]; simp
  · rw [show (p ++ [d0, d1, d2, d3]).length - 4 = p.length by simp]; simp
theorem DecR.sum {n : Nat} {p : List UInt8} {d0 d1 d2 d3 : UInt8} (hp : p.length = n) (h1 : 1 ≤ n) (h2 : n ≤ 59996) (hs : sumB p ≠ [d0, d1, d2, d3]) : DecR (p ++ [d0, d1, d2, d3]) 10 [] := by
  obtain ⟨k1, k2, k3⟩ := parts4 (d0 := d0) (d1 := d1) (d2 := d2) (d3 := d3) hp
  exact Or.inr (Or.inr (Or.inl ⟨by omega, by omega, by rw [k2, k3]; exact hs, rfl, rfl⟩))
theorem DecR.body {n : Nat} {p : List UInt8} {d0 d1 d2 d3 : UInt8} {c : Int} {l : List Ev} (hp : p.length = n) (h1 : 1 ≤ n) (h2 : n ≤ 59996) (hs : sumB p = [d0, d1, d2, d3]) (h : BodyR p c l) : DecR (p ++ [d0, d1, d2, d3]) c l := by
  obtain ⟨k1, k2, k3⟩ := parts4 (d0 := d0) (d1 := d1) (d2 := d2) (d3 := d3) hp
  exact Or.inr (Or.inr (Or.inr ⟨by omega, by omega, by rw [k2, k3]; exact hs, by rw [k2]; exact h⟩))

set_option maxHeartbeats 8000000 in
set_option maxRecDepth 100000 in
theorem decode_sum (ad : Option Addr) (N n cap : Nat) (p : List UInt8) (d0 d1 d2 d3 : UInt8) (w : World) (ht : Tab w) (hf : BytesR w.heap.size w (.slice ad N cap) (p ++ [d0, d1, d2, d3])) (hp : p.length = n) (hN : N = n + 4) (hn : 1 ≤ n) (hn2 : n ≤ 59996) (hs : sumB p ≠ [d0, d1, d2, d3]) : Calls Tryd.prog 7 #[.slice ad N cap] w (DecPost (p ++ [d0, d1, d2, d3]) w) := by
  have HT := Lib.hid ht
  clear ht
  have hb := bytes_take hf (k := n) (by rw [List.length_append]; omega)
  rw [show (p ++ [d0, d1, d2, d3]).take n = p by rw [← hp]; simp] at hb
  rw [← hp] at hb
  have HSM := Lib.hid (sum_any _ p w hb)
  have HBP := Lib.hid hb
  rw [hp] at HSM
  clear hb
  rw [hN] at hf
  obtain ⟨bb, off, rfl, hbb, hcap, q0, q1, q2, q3⟩ := bytes_last4 hf hp
  have hiff := sum_iff p d0 d1 d2 d3
  obtain ⟨S, hS⟩ : ∃ S : Int, S = (d0.toNat : Int) * 16777216 + (d1.toNat : Int) * 65536 + (d2.toNat : Int) * 256 + (d3.toNat : Int) := ⟨_, rfl⟩
  rw [← hS] at hiff
  obtain ⟨hx, hy⟩ := sumS_lt p 1 0 (by decide) (by decide)
  change sum1 p < 65521 at hx
  change sum2 p < 65521 at hy
  have u0 := u8_lt d0
  have u1 := u8_lt d1
  have u2 := u8_lt d2
  have u3 := u8_lt d3
  generalize sum1 p = x at *
  generalize sum2 p = y at *
  have HS := Lib.hid hs
  have hbool : (((y : Int) * 65536 + (x : Int)) != S) = true := by rw [bne_iff_ne]; exact fun e => hs (hiff.2 e)
  clear hs hiff
  generalize d0.toNat = c0 at *
  generalize d1.toNat = c1 at *
  generalize d2.toNat = c2 at *
  generalize d3.toNat = c3 at *
  have o1 : bits .or .i64 ((c0 : Int) * 16777216) ((c1 : Int) * 65536) = (c0 : Int) * 16777216 + (c1 : Int) * 65536 := i64_or_join 24 (by decide) _ _ (by omega) (by unfold I64; omega) (by omega) (by omega)
  have o2 : bits .or .i64 ((c0 : Int) * 16777216 + (c1 : Int) * 65536) ((c2 : Int) * 256) = (c0 : Int) * 16777216 + (c1 : Int) * 65536 + (c2 : Int) * 256 := i64_or_join 16 (by decide) _ _ (by omega) (by unfold I64; omega) (by omega) (by omega)
  have o3 : bits .or .i64 ((c0 : Int) * 16777216 + (c1 : Int) * 65536 + (c2 : Int) * 256) (c3 : Int) = S := by rw [hS]; exact i64_or_join 8 (by decide) _ _ (by omega) (by unfold I64; omega) (by omega) (by omega)
  clear hf hS
  have HP := Lib.hid hp
  clear hp
  have hN1 : (N : Int) - 4 = (n : Int) := by omega
  have hN2 : (N : Int) ≤ 60000 := by omega
  have hN3 : (5 : Int) ≤ (N : Int) := by omega
  have hN4 : n ≤ N := by omega
  have hN5 : N ≤ cap := by omega
  have hN6 : n ≤ cap := by omega
  clear hN hcap
  go_enter Tryd.func7, Tryd.ntmps7
  go_wp2_with fail
  refine HSM.out.mono ?_
  rintro en w1 ⟨rfl, rfl⟩
  go_wp2_with fail
  go_quiet (fail)
  go_wp2
  go_ret2
  exact DecPost.no (DecR.sum HP.out hn hn2 HS.out) (below_drewN (Below.refl _ _) _)

end Go.Proofs.YtiekilpddmdhnaaDoor
