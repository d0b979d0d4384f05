/- The contracts of evlog.number and evlog.signed: bytes of the call's own grow by a number. No condition beyond those of each row. -/
import Derived.Test.YtiekilpddmdhnaaDoorAp
import Derived.Test.YtiekilpddmdhnaaDoorEc
import Derived.Test.YtiekilpddmdhnaaDoorBits
namespace Go.Proofs.YtiekilpddmdhnaaDoor
open Go Go.RowKit Go.ChangeShapes Go.WideShapes Go.Deep
set_option linter.unusedVariables false

/-- Bytes as values. -/
def bv (bs : List UInt8) : List Value := bs.map (fun b => Value.int .u8 (b.toNat : Int))
theorem bv_len (bs : List UInt8) : (bv bs).length = bs.length := by simp [bv]
theorem bv_app (a b : List UInt8) : bv (a ++ b) = bv a ++ bv b := by simp [bv]
theorem bv_one (bs : List UInt8) : ∀ u ∈ bv bs, u.oneCell' = true := by
  intro u hu
  obtain ⟨z, _, rfl⟩ := List.mem_map.1 hu
  rfl
theorem info_u8 : (Tryd.prog.info? 5).map (fun i => (i.zero, i.size, i.bytes)) = some (some (.int .u8 0), 1, 1) := by kernel_rfl

/-- A row lies where another one lay, or in a block that was not there. -/
def Lies (w : World) (r r' : Option Nat) : Prop := r' = r ∨ ∃ g, r' = some g ∧ w.heap.size ≤ g
theorem grown_alloc {w wr : World} {r : Option Nat} (h : w.grownBy wr r) (O : Obj) : w.grownBy (wr.alloc O) r :=
  ⟨h.os, h.tape, h.output, by have := h.size; simp; omega, fun k hk hne => (alloc_lt (by have := h.size; omega)).trans (h.block k hk hne)⟩
theorem grown_trans {w w1 w2 : World} {r r1 : Option Nat} (h : w.grownBy w1 r) (h2 : w1.grownBy w2 r1) (hl : Lies w r r1) : w.grownBy w2 r := by
  refine ⟨h2.os.trans h.os, h2.tape.trans h.tape, h2.output.trans h.output, Nat.le_trans h.size h2.size, fun k hk hne => ?_⟩
  rw [h2.block k (Nat.lt_of_lt_of_le hk h.size) ?_, h.block k hk hne]
  rcases hl with e | ⟨g, e, hg⟩
  · rw [e]; exact hne
  · rw [e]; intro e'; injection e' with e'; omega
theorem Lies.step {w w1 : World} {r r1 r2 : Option Nat} (h : Lies w r r1) (hs : w.heap.size ≤ w1.heap.size) (h2 : Lies w1 r1 r2) : Lies w r r2 := by
  rcases h2 with e | ⟨g, e, hg⟩
  · rw [e]; exact h
  · exact Or.inr ⟨g, e, by omega⟩

def NumPost (base : Nat) (w : World) (r : Option Nat) (bs : List UInt8) (e : Ending) (w' : World) : Prop := ∃ a c, e = .returned (.slice a bs.length c) ∧ w'.ownsRow base 5 1 (.slice a bs.length c) bs.length (bv bs) ∧ w.grownBy w' r ∧ Lies w r (Value.slice a bs.length c).ownBlock

theorem or_comm64 (a b : Int) : bits .or .i64 a b = bits .or .i64 b a := by
  show IntKind.i64.wrap ((BitVec.ofInt 64 a ||| BitVec.ofInt 64 b).toNat : Int) = IntKind.i64.wrap ((BitVec.ofInt 64 b ||| BitVec.ofInt 64 a).toNat : Int)
  rw [BitVec.or_comm]
theorem or128 (m : Nat) : bits .or .i64 ((m : Int) % 128) 128 = 128 + (m : Int) % 128 := by
  rw [or_comm64, i64_or_join 7 (by decide) 128 ((m : Int) % 128) (by omega) (by unfold I64; omega) (by omega) (by omega)]
theorem byte_of {n : Nat} (h : n < 256) : IntKind.u8.wrap (n : Int) = ((UInt8.ofNat n).toNat : Int) := by
  rw [u8_nat h, IntKind.wrap_u8]
  omega

set_option maxHeartbeats 4000000 in
theorem number_any (base : Nat) (v : Value) (bs : List UInt8) (k : Nat) (w : World) (hv : w.ownsRow base 5 1 v bs.length (bv bs)) (hbase : base ≤ w.heap.size) (hk : k < 9223372036854775808) (hlen : (bs ++ sevens k).length ≤ 100000000) :
    Calls Tryd.prog 65 #[v, .int .i64 k] w (NumPost base w v.ownBlock (bs ++ sevens k)) := by
  have HV := Lib.hid hv
  clear hv
  go_enter Tryd.func65, Tryd.ntmps65
  go_wp2
  go_loopw [0, 1] (fun s0 s1 wr => ∃ (b' : List UInt8) (m : Nat) (a : Option Addr) (c : Nat), s0 = .slice a b'.length c ∧ s1 = .int .i64 m ∧ m ≤ k ∧ Hid (bs ++ sevens k = b' ++ sevens m) ∧ Hid (wr.ownsRow base 5 1 (.slice a b'.length c) b'.length (bv b')) ∧ Hid (w.grownBy wr v.ownBlock) ∧ Hid (Lies w v.ownBlock (Value.slice a b'.length c).ownBlock)) (fun _ s1 _ => (intOf s1).toNat)
  case atStart =>
    obtain ⟨a, c, rfl⟩ := own_shape HV.out
    exact ⟨bs, k, a, c, rfl, rfl, Nat.le_refl _, Lib.hid rfl, HV, Lib.hid (World.grownBy.refl _ _), Lib.hid (Or.inl rfl)⟩
  case round =>
    obtain ⟨b', m, a, c, rfl, rfl, hmk, E, O, G, L⟩ := hrel
    have hs := G.out.size
    have hbl : b'.length ≤ 100000000 := by
      have h : (b' ++ sevens m).length ≤ 100000000 := by rw [← E.out]; exact hlen
      rw [List.length_append] at h
      omega
    obtain ⟨i0, hi0, hz0, hz1, hz2⟩ := info_parts info_u8
    by_cases hm : 127 < m
    · have hm' : (127 : Int) < (m : Int) := by omega
      have e1 : bits .and .i64 (m : Int) 127 = (m : Int) % 128 := i64_and127 _
      have e2 := or128 m
      have e3 : IntKind.u8.wrap (128 + (m : Int) % 128) = ((UInt8.ofNat (128 + m % 128)).toNat : Int) := by
        rw [← byte_of (by omega)]; congr 1 <;> omega
      go_wp2_with (at_builtin; go_loud (refine wpList_append_lies _ rfl (.tmp 7) (.tmp 12) 22 rfl base 5 i0 (.int .u8 0) 1 1 Tryd.underlying22 hi0 hz0 hz1 hz2 rfl (by decide) (.slice a b'.length c) b'.length _ (by rfl) (O.out.alloc _) ⟨wr.heap.size, 0, none⟩ 1 1 [.int .u8 ((UInt8.ofNat (128 + m % 128)).toNat : Int)] (by rfl) rfl (World.news_of_block (heap_alloc_new wr _)) (by simp [Value.oneCell']) (by omega) (by unfold maxLen; omega) (by omega) (by simp; omega) _ rfl ?_); intro g4 cp4 w4 hown4 hgrow4 hat4 hlt4)
      have hbv : bv b' ++ [.int .u8 ((UInt8.ofNat (128 + m % 128)).toNat : Int)] = bv (b' ++ [UInt8.ofNat (128 + m % 128)]) := by rw [bv_app]; rfl
      have E2 := Lib.hid (show bs ++ sevens k = (b' ++ [UInt8.ofNat (128 + m % 128)]) ++ sevens (m / 128) by rw [E.out, sevens_more (by omega), List.append_assoc]; rfl)
      have O2 := Lib.hid (hbv ▸ hown4)
      have G2 := Lib.hid (grown_trans (grown_alloc G.out _) hgrow4 L.out)
      have L2 := Lib.hid (Lies.step (w1 := wr) L.out hs (r2 := some g4) (by rcases hat4 with e | e; exact Or.inl e.symm; exact Or.inr ⟨g4, rfl, by simp at e; omega⟩))
      go_roundw
      case rel => exact ⟨b' ++ [UInt8.ofNat (128 + m % 128)], m / 128, some ⟨g4, 0, none⟩, cp4, by simp, by go_num, by omega, E2, by simpa using O2, G2, L2⟩
      case measure => simp [intOf]; omega
    · have hm' : ¬ (127 : Int) < (m : Int) := by omega
      have e3 : IntKind.u8.wrap (m : Int) = ((UInt8.ofNat m).toNat : Int) := byte_of (by omega)
      go_wp2_with (at_builtin; go_loud (refine wpList_append_lies _ rfl (.tmp 16) (.tmp 19) 22 rfl base 5 i0 (.int .u8 0) 1 1 Tryd.underlying22 hi0 hz0 hz1 hz2 rfl (by decide) (.slice a b'.length c) b'.length _ (by rfl) (O.out.alloc _) ⟨wr.heap.size, 0, none⟩ 1 1 [.int .u8 ((UInt8.ofNat m).toNat : Int)] (by rfl) rfl (World.news_of_block (heap_alloc_new wr _)) (by simp [Value.oneCell']) (by omega) (by unfold maxLen; omega) (by omega) (by simp; omega) _ rfl ?_); intro g4 cp4 w4 hown4 hgrow4 hat4 hlt4)
      have hfin : bs ++ sevens k = b' ++ [UInt8.ofNat m] := by rw [E.out, sevens_small (by omega)]
      have hbv : bv b' ++ [.int .u8 ((UInt8.ofNat m).toNat : Int)] = bv (b' ++ [UInt8.ofNat m]) := by rw [bv_app]; rfl
      have O2 := Lib.hid (hbv ▸ hown4)
      have G2 := Lib.hid (grown_trans (grown_alloc G.out _) hgrow4 L.out)
      have L2 := Lib.hid (Lies.step (w1 := wr) L.out hs (r2 := some g4) (by rcases hat4 with e | e; exact Or.inl e.symm; exact Or.inr ⟨g4, rfl, by simp at e; omega⟩))
      rw [hfin]
      go_ret
      exact ⟨some ⟨g4, 0, none⟩, cp4, by simp, by simpa using O2.out, G2.out, L2.out⟩

/-- A signed number. -/
theorem signed_any (base : Nat) (v : Value) (bs : List UInt8) (z : Int) (w : World) (hv : w.ownsRow base 5 1 v bs.length (bv bs)) (hbase : base ≤ w.heap.size) (hz : -4611686018427387000 ≤ z ∧ z ≤ 4611686018427387000) (hlen : (bs ++ sevens (zig z)).length ≤ 100000000) :
    Calls Tryd.prog 66 #[v, .int .i64 z] w (NumPost base w v.ownBlock (bs ++ sevens (zig z))) := by
  have HV := Lib.hid hv
  clear hv
  obtain ⟨hz1, hz2⟩ := hz
  by_cases h0 : z < 0
  · have e : ((zig z : Nat) : Int) = -2 * z - 1 := by unfold zig; rw [if_pos h0]; omega
    have HN := Lib.hid (number_any base v bs (zig z) w HV.out hbase (by omega) hlen)
    rw [e] at HN
    clear e
    generalize bs ++ sevens (zig z) = out at *
    go_enter Tryd.func66, Tryd.ntmps66
    go_wp2_with fail
    refine HN.out.mono ?_
    rintro e w1 ⟨a, c, rfl, h1, h2, h3⟩
    go_wp2
    go_ret
    exact ⟨a, c, rfl, h1, h2, h3⟩
  · have e : ((zig z : Nat) : Int) = 2 * z := by unfold zig; rw [if_neg h0]; omega
    have HN := Lib.hid (number_any base v bs (zig z) w HV.out hbase (by omega) hlen)
    rw [e] at HN
    clear e
    generalize bs ++ sevens (zig z) = out at *
    go_enter Tryd.func66, Tryd.ntmps66
    go_wp2_with fail
    refine HN.out.mono ?_
    rintro e w1 ⟨a, c, rfl, h1, h2, h3⟩
    go_wp2
    go_ret
    exact ⟨a, c, rfl, h1, h2, h3⟩

/-! ### The sum -/
/-- The two sums of bytes. -/
def sumS (x y : Nat) : List UInt8 → Nat × Nat
  | [] => (x, y)
  | c :: bs => sumS ((x + c.toNat) % 65521) ((y + (x + c.toNat) % 65521) % 65521) bs
theorem sumS_app (a b : List UInt8) : ∀ x y, sumS x y (a ++ b) = sumS (sumS x y a).1 (sumS x y a).2 b := by
  induction a with
  | nil => intro x y; rfl
  | cons c a ih => intro x y; exact ih _ _
theorem sumS_lt (bs : List UInt8) : ∀ x y, x < 65521 → y < 65521 → (sumS x y bs).1 < 65521 ∧ (sumS x y bs).2 < 65521 := by
  induction bs with
  | nil => intro x y h1 h2; exact ⟨h1, h2⟩
  | cons c bs ih => intro x y _ _; exact ih _ _ (Nat.mod_lt _ (by decide)) (Nat.mod_lt _ (by decide))
def sum1 (bs : List UInt8) : Nat := (sumS 1 0 bs).1
def sum2 (bs : List UInt8) : Nat := (sumS 1 0 bs).2
/-- The sum's four bytes. -/
def sumB (bs : List UInt8) : List UInt8 := [UInt8.ofNat (sum2 bs / 256), UInt8.ofNat (sum2 bs % 256), UInt8.ofNat (sum1 bs / 256), UInt8.ofNat (sum1 bs % 256)]
theorem take_snoc (bs : List UInt8) (k : Nat) (h : k < bs.length) : bs.take (k + 1) = bs.take k ++ [bs[k]] := by rw [List.take_add_one, List.getElem?_eq_getElem h]; rfl
theorem sum_step (bs : List UInt8) (k : Nat) (h : k < bs.length) : sumS 1 0 (bs.take (k + 1)) = (((sumS 1 0 (bs.take k)).1 + bs[k].toNat) % 65521, ((sumS 1 0 (bs.take k)).2 + ((sumS 1 0 (bs.take k)).1 + bs[k].toNat) % 65521) % 65521) := by
  rw [take_snoc bs k h, sumS_app]
  rfl

set_option maxHeartbeats 4000000 in
theorem sum_any (v : Value) (bs : List UInt8) (w : World) (hf : BytesR w.heap.size w v bs) : Calls Tryd.prog 18 #[v] w fun e w' => e = .returned (.int .i64 ((sum2 bs : Int) * 65536 + sum1 bs)) ∧ w = w' := by
  obtain ⟨a, cap, rfl, hl, hl2, hc⟩ := hf
  have HC := Lib.hid hc
  clear hc
  go_enter Tryd.func18, Tryd.ntmps18
  go_wp2
  go_loop [3, 4, 9] (fun s3 s4 s9 => ∃ k x y : Nat, k ≤ bs.length ∧ s9 = .int .i64 k ∧ s3 = .int .i64 x ∧ s4 = .int .i64 y ∧ Hid (sumS 1 0 (bs.take k) = (x, y)) ∧ x < 65521 ∧ y < 65521) (fun _ _ s9 => bs.length - (intOf s9).toNat)
  case atStart => exact ⟨0, 1, 0, Nat.zero_le _, rfl, rfl, rfl, Lib.hid rfl, by omega, by omega⟩
  case round =>
    obtain ⟨k, x, y, hk, rfl, rfl, rfl, S, hx, hy⟩ := hrel
    by_cases hlt : k < bs.length
    · obtain ⟨b, off, vi, ha, hb, hcell, hvi⟩ := HC.out k hlt
      subst ha
      unfold ByteV at hvi
      subst hvi
      have hstep := sum_step bs k hlt
      rw [S.out] at hstep
      have HS := Lib.hid hstep
      have hc := u8_lt bs[k]
      generalize bs[k].toNat = z at *
      clear hstep
      go_wp2
      go_round
      case rel => exact ⟨k + 1, (x + z) % 65521, (y + (x + z) % 65521) % 65521, by omega, by go_num, by go_num, by go_num, HS, Nat.mod_lt _ (by decide), Nat.mod_lt _ (by decide)⟩
      case measure => simp [intOf]; omega
    · obtain rfl : k = bs.length := by omega
      have hS : sumS 1 0 bs = (x, y) := by have := S.out; rwa [List.take_length] at this
      have h1 : sum1 bs = x := by unfold sum1; rw [hS]
      have h2 : sum2 bs = y := by unfold sum2; rw [hS]
      have H1 := Lib.hid h1
      have H2 := Lib.hid h2
      clear h1 h2 hS
      have hj := i64_or_join 16 (by decide) ((y : Int) * 65536) (x : Int) (by omega) (by unfold I64; omega) (by omega) (by omega)
      have hw : IntKind.i64.wrap ((y : Int) * 65536) = (y : Int) * 65536 := IntWalk.i64_in _ (by omega)
      go_wp2
      go_ret
      exact ⟨ret_int (by rw [H1.out, H2.out]), rfl⟩
end Go.Proofs.YtiekilpddmdhnaaDoor
