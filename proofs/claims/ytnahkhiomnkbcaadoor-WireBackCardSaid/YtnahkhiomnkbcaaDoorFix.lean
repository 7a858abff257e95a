/-
  Contracts: wire.Fixed, Size, Tag (refusals), Zig, Zag.
-/
import Derived.Test.YtnahkhiomnkbcaaDoorRefs
namespace Go.Own.Wire
open Go.Own
/-- So many bytes of a number, the lowest first. -/
def fixE : Nat → Nat → List UInt8
  | 0, _ => []
  | k + 1, u => UInt8.ofNat (u % 256) :: fixE k (u / 256)
theorem fixE_len (k u : Nat) : (fixE k u).length = k := by
  induction k generalizing u with
  | zero => rfl
  | succ k ih => simp [fixE, ih]
theorem byte_mod (u : Nat) : (u : Int) % 256 = ((UInt8.ofNat (u % 256)).toNat : Int) := by
  rw [byte_u8 _ (by omega)]; omega

theorem xor_ones (a : Nat) (h : a < 18446744073709551616) : a ^^^ 18446744073709551615 = 18446744073709551615 - a := by
  have h1 : (BitVec.ofNat 64 a ^^^ BitVec.allOnes 64).toNat = (~~~ BitVec.ofNat 64 a).toNat := by rw [BitVec.xor_allOnes]
  rw [BitVec.toNat_xor, BitVec.toNat_not, BitVec.toNat_allOnes, BitVec.toNat_ofNat, Nat.mod_eq_of_lt (by simpa using h)] at h1
  simpa using h1
def zigN (n : Int) : Nat := if 0 ≤ n then (2 * n).toNat else (-2 * n - 1).toNat
def zagI (u : Nat) : Int := if u % 2 = 0 then ((u / 2 : Nat) : Int) else -((u / 2 : Nat) : Int) - 1
theorem zig_bits (n : Int) (h1 : -9223372036854775808 ≤ n) (h2 : n ≤ 9223372036854775807) :
    bits .xor .u64 (IntKind.u64.wrap (IntKind.u64.wrap n * 2)) (IntKind.u64.wrap (n / 9223372036854775808)) = (zigN n : Int) := by
  unfold zigN
  by_cases h : 0 ≤ n
  · rw [if_pos h]
    have e1 : IntKind.u64.wrap (IntKind.u64.wrap n * 2) = (((2 * n).toNat : Nat) : Int) := by rw [IntKind.wrap_u64, IntKind.wrap_u64]; omega
    have e2 : IntKind.u64.wrap (n / 9223372036854775808) = ((0 : Nat) : Int) := by rw [IntKind.wrap_u64]; omega
    rw [e1, e2, u64_xor_nat _ _ (by omega) (by omega), Nat.xor_zero]
  · rw [if_neg h]
    have e1 : IntKind.u64.wrap (IntKind.u64.wrap n * 2) = (((2 * n + 18446744073709551616).toNat : Nat) : Int) := by rw [IntKind.wrap_u64, IntKind.wrap_u64]; omega
    have e2 : IntKind.u64.wrap (n / 9223372036854775808) = ((18446744073709551615 : Nat) : Int) := by rw [IntKind.wrap_u64]; omega
    rw [e1, e2, u64_xor_nat _ _ (by omega) (by omega), xor_ones _ (by omega)]
    omega
theorem zig_lt (n : Int) (h1 : -9223372036854775808 ≤ n) (h2 : n ≤ 9223372036854775807) : zigN n < 18446744073709551616 := by unfold zigN; split <;> omega
theorem zag_zig (n : Int) : zagI (zigN n) = n := by
  unfold zagI zigN
  split <;> split <;> omega
theorem zag_bits (u : Nat) (hu : u < 18446744073709551616) :
    bits .xor .i64 ((u : Int) / 2) (RowKit.wrap64 (-RowKit.wrap64 (bits .and .u64 (u : Int) 1))) = zagI u := by
  have ha : bits .and .u64 (u : Int) 1 = ((u % 2 : Nat) : Int) := by
    have := u64_and_nat u 1 hu (by decide)
    rw [show ((1 : Nat) : Int) = 1 from rfl] at this
    rw [this, show u &&& 1 = u % 2 from Nat.and_two_pow_sub_one_eq_mod u 1]
  have hw : RowKit.wrap64 ((u % 2 : Nat) : Int) = ((u % 2 : Nat) : Int) := by unfold RowKit.wrap64; omega
  have hh : (u : Int) / 2 = ((u / 2 : Nat) : Int) := by omega
  rw [ha, hw, hh]
  unfold zagI
  have hx : (BitVec.ofInt 64 ((u / 2 : Nat) : Int)).toNat = u / 2 := by
    rw [BitVec.ofInt_natCast, BitVec.toNat_ofNat]; exact Nat.mod_eq_of_lt (by omega)
  by_cases h : u % 2 = 0
  · rw [if_pos h, h]
    have e : RowKit.wrap64 (-((0 : Nat) : Int)) = 0 := by unfold RowKit.wrap64; omega
    rw [e]
    show IntKind.i64.wrap ((BitVec.ofInt 64 ((u / 2 : Nat) : Int) ^^^ BitVec.ofInt 64 0).toNat : Int) = _
    rw [BitVec.toNat_xor, hx, show (BitVec.ofInt 64 0).toNat = 0 by decide, Nat.xor_zero, IntKind.wrap_i64]
    omega
  · rw [if_neg h, show u % 2 = 1 by omega]
    have e : RowKit.wrap64 (-((1 : Nat) : Int)) = -1 := by unfold RowKit.wrap64; omega
    rw [e]
    show IntKind.i64.wrap ((BitVec.ofInt 64 ((u / 2 : Nat) : Int) ^^^ BitVec.ofInt 64 (-1)).toNat : Int) = _
    rw [BitVec.toNat_xor, hx, show (BitVec.ofInt 64 (-1)).toNat = 18446744073709551615 by decide, xor_ones _ (by omega), IntKind.wrap_i64]
    omega
end Go.Own.Wire
namespace Go.Proofs.YtnahkhiomnkbcaaDoor
open Go.RowKit Go.Own Go.Own.Wire

def FixRel (w : World) (n K : Nat) (l : List UInt8) (u : Nat) (out v i : Value) (wr : World) : Prop :=
  ∃ (j u' : Nat) (pre : List UInt8), j ≤ K ∧ i = .int .i64 (j : Int) ∧ out = .slice (some ⟨w.heap.size, 0, none⟩) (n + j) (n + 8) ∧ v = .int .u64 (u' : Int) ∧ u' < 18446744073709551616 ∧
    fixE K u = pre ++ fixE (K - j) u' ∧ pre.length = j ∧ Ow wr w.heap.size 5 (.slice (some ⟨w.heap.size, 0, none⟩) (n + j) (n + 8)) (n + j) (l ++ pre) ∧ Below w.heap.size w wr

set_option maxHeartbeats 400000 in
set_option maxRecDepth 100000 in
theorem fixed_4 (A : Option Addr) (n c u : Nat) (l : List UInt8) (w : World) (B : Nat) (hr : Rd w B A n l) (hB : B ≤ w.heap.size) (hn : n ≤ 1000000000000) (hu : u < 18446744073709551616) :
    Calls Tryd.prog 21 #[.slice A n c, .int .u64 (u : Int), .int .i64 4] w fun e w' => e = .returned (.slice (some ⟨w.heap.size, 0, none⟩) (n + 4) (n + 8)) ∧
      Ow w' w.heap.size 5 (.slice (some ⟨w.heap.size, 0, none⟩) (n + 4) (n + 8)) (n + 4) (l ++ fixE 4 u) ∧ Below w.heap.size w w' := by
  have HR := Lib.hid hr; clear hr
  go_enter Tryd.func21, Tryd.ntmps21
  go_wp2_with fail
  refine (copied_any A n c 8 l _ B HR.out hB hn (by omega)).mono ?_
  rintro e w1 ⟨rfl, ho1, hb1⟩
  go_wp2_with fail
  go_loopw [7, 1, 18] (fun out v i wr => FixRel w n 4 l u out v i wr) (fun _ _ i _ => 4 - (intOf i).toNat)
  case atStart => exact ⟨0, u, [], by omega, rfl, rfl, rfl, hu, rfl, rfl, by simpa using ho1, hb1⟩
  case round =>
    obtain ⟨j, u', pre, hj, rfl, rfl, rfl, hu', hv, hpl, ho, hb⟩ := hrel
    have HV := Lib.hid hv
    have HPL := Lib.hid hpl
    have HB1 := Lib.hid hb
    have HO := Lib.hid ho
    clear hv hpl ho hb ho1 hb1
    by_cases hlt : j < 4
    · have HY := Lib.hid (byte_mod u')
      go_wp2_with (first
        | (at_builtin
           refine wpList_app_fits _ byteP rfl (.tmp 20) (.tmp 23) rfl w.heap.size w.heap.size (n + j) (n + 8) (l ++ pre) rfl (HO.out.alloc _) _ _ 1 1 _ rfl (Rd.one _ _ (UInt8.ofNat (u' % 256)) _ HY.out) ?_ ?_
           · omega
           intro w2 ho2 hg2
           have HB2 := Lib.hid ((HB1.out.alloc (HB1.out.size) _).grown hg2 (by simp; have := HB1.out.size; omega) (by simp))
           have HO2 := Lib.hid ho2; clear ho2))
      go_roundw
      case rel =>
        refine ⟨j + 1, u' / 256, pre ++ [UInt8.ofNat (u' % 256)], by omega, by go_num, rfl, by go_num, by omega, ?_, by simp [HPL.out], ?_, HB2.out⟩
        · rw [HV.out, show 4 - j = (4 - (j + 1)) + 1 by omega, fixE]; simp
        · rw [← List.append_assoc]; exact HO2.out
      case measure => simp [intOf]; omega
    · obtain rfl : j = 4 := by omega
      go_wp2
      go_ret
      have hvl : fixE 4 u = pre := by rw [HV.out]; simp [fixE]
      rw [hvl]
      exact ⟨rfl, HO.out, HB1.out⟩

set_option maxHeartbeats 400000 in
set_option maxRecDepth 100000 in
theorem fixed_8 (A : Option Addr) (n c u : Nat) (l : List UInt8) (w : World) (B : Nat) (hr : Rd w B A n l) (hB : B ≤ w.heap.size) (hn : n ≤ 1000000000000) (hu : u < 18446744073709551616) :
    Calls Tryd.prog 21 #[.slice A n c, .int .u64 (u : Int), .int .i64 8] w fun e w' => e = .returned (.slice (some ⟨w.heap.size, 0, none⟩) (n + 8) (n + 8)) ∧
      Ow w' w.heap.size 5 (.slice (some ⟨w.heap.size, 0, none⟩) (n + 8) (n + 8)) (n + 8) (l ++ fixE 8 u) ∧ Below w.heap.size w w' := by
  have HR := Lib.hid hr; clear hr
  go_enter Tryd.func21, Tryd.ntmps21
  go_wp2_with fail
  refine (copied_any A n c 8 l _ B HR.out hB hn (by omega)).mono ?_
  rintro e w1 ⟨rfl, ho1, hb1⟩
  go_wp2_with fail
  go_loopw [7, 1, 18] (fun out v i wr => FixRel w n 8 l u out v i wr) (fun _ _ i _ => 8 - (intOf i).toNat)
  case atStart => exact ⟨0, u, [], by omega, rfl, rfl, rfl, hu, rfl, rfl, by simpa using ho1, hb1⟩
  case round =>
    obtain ⟨j, u', pre, hj, rfl, rfl, rfl, hu', hv, hpl, ho, hb⟩ := hrel
    have HV := Lib.hid hv
    have HPL := Lib.hid hpl
    have HB1 := Lib.hid hb
    have HO := Lib.hid ho
    clear hv hpl ho hb ho1 hb1
    by_cases hlt : j < 8
    · have HY := Lib.hid (byte_mod u')
      go_wp2_with (first
        | (at_builtin
           refine wpList_app_fits _ byteP rfl (.tmp 20) (.tmp 23) rfl w.heap.size w.heap.size (n + j) (n + 8) (l ++ pre) rfl (HO.out.alloc _) _ _ 1 1 _ rfl (Rd.one _ _ (UInt8.ofNat (u' % 256)) _ HY.out) ?_ ?_
           · omega
           intro w2 ho2 hg2
           have HB2 := Lib.hid ((HB1.out.alloc (HB1.out.size) _).grown hg2 (by simp; have := HB1.out.size; omega) (by simp))
           have HO2 := Lib.hid ho2; clear ho2))
      go_roundw
      case rel =>
        refine ⟨j + 1, u' / 256, pre ++ [UInt8.ofNat (u' % 256)], by omega, by go_num, rfl, by go_num, by omega, ?_, by simp [HPL.out], ?_, HB2.out⟩
        · rw [HV.out, show 8 - j = (8 - (j + 1)) + 1 by omega, fixE]; simp
        · rw [← List.append_assoc]; exact HO2.out
      case measure => simp [intOf]; omega
    · obtain rfl : j = 8 := by omega
      go_wp2
      go_ret
      have hvl : fixE 8 u = pre := by rw [HV.out]; simp [fixE]
      rw [hvl]
      exact ⟨rfl, HO.out, HB1.out⟩

set_option maxHeartbeats 400000 in
set_option maxRecDepth 100000 in
theorem size_any (u : Nat) (w : World) (hu : u < 18446744073709551616) :
    Calls Tryd.prog 22 #[.int .u64 (u : Int)] w fun e w' => e = .returned (.int .i64 ((venc u).length : Int)) ∧ Below w.heap.size w w' := by
  go_enter Tryd.func22, Tryd.ntmps22
  go_wp2_with fail
  refine (varint_any none 0 0 u [] _ w.heap.size ⟨rfl, fun h => absurd h (by omega)⟩ (Nat.le_refl _) (by omega) hu).mono ?_
  rintro e w1 ⟨rfl, ho1, hb1⟩
  have HB := Lib.hid hb1
  clear ho1 hb1
  go_wp2
  go_ret
  exact ⟨by simp, HB.out⟩

set_option maxHeartbeats 400000 in
set_option maxRecDepth 100000 in
theorem tag_no (f k : Int) (w : World) (ea : Nat → Addr) (he : Env w ea) (h : ¬ (1 ≤ f ∧ f ≤ 536870911 ∧ 0 ≤ k ∧ k ≤ 5)) :
    Calls Tryd.prog 25 #[.int .i64 f, .int .i64 k] w fun e w' => e = .returned (.tuple #[.int .u64 0, .iface 88 (.pointer (some (ea 103)))]) ∧ ∃ m, w' = w.drewN m := by
  have h1 := he.tag
  clear he
  go_enter Tryd.func25, Tryd.ntmps25
  go_wp2
  all_goals first
    | (go_region; go_wp2; go_ret2; exact ⟨rfl, 1, rfl⟩)
    | (exfalso; omega)

set_option maxHeartbeats 400000 in
set_option maxRecDepth 100000 in
theorem zig_any (n : Int) (w : World) (h1 : -9223372036854775808 ≤ n) (h2 : n ≤ 9223372036854775807) :
    Calls Tryd.prog 24 #[.int .i64 n] w fun e w' => e = .returned (.int .u64 (zigN n : Int)) ∧ w = w' := by
  have HZ := Lib.hid (zig_bits n h1 h2)
  clear h1 h2
  go_enter Tryd.func24, Tryd.ntmps24
  go_wp2
  go_ret
  rw [← HZ.out]
  exact ⟨rfl, rfl⟩
set_option maxHeartbeats 400000 in
set_option maxRecDepth 100000 in
theorem zag_any (u : Nat) (w : World) (hu : u < 18446744073709551616) :
    Calls Tryd.prog 23 #[.int .u64 (u : Int)] w fun e w' => e = .returned (.int .i64 (zagI u)) ∧ w = w' := by
  have HZ := Lib.hid (zag_bits u hu)
  go_enter Tryd.func23, Tryd.ntmps23
  go_wp2
  go_ret
  rw [← HZ.out]
  exact ⟨rfl, rfl⟩
end Go.Proofs.YtnahkhiomnkbcaaDoor
