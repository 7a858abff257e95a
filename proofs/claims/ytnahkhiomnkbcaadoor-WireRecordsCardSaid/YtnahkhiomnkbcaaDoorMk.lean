/-
  Contracts: wire.copied, Varint: bytes in new memory.
-/
import Derived.Test.YtnahkhiomnkbcaaDoorProg
import Derived.Test.YtnahkhiomnkbcaaDoorWire
namespace Go.Proofs.YtnahkhiomnkbcaaDoor
open Go.RowKit Go.Own Go.Own.Wire

theorem byteInfo : (Tryd.prog.info? 5).map (fun i => (i.zero, i.size, i.bytes)) = some (some (.int .u8 0), 1, 1) := by kernel_rfl
theorem byteP : ByteP Tryd.prog 23 5 := ⟨Tryd.underlying23, info_parts byteInfo⟩

set_option maxHeartbeats 400000 in
set_option maxRecDepth 100000 in
theorem copied_any (A : Option Addr) (n c r : Nat) (l : List UInt8) (w : World) (B : Nat) (hr : Rd w B A n l) (hB : B ≤ w.heap.size) (hn : n ≤ 1000000000000) (hrr : r ≤ 1000) :
    Calls Tryd.prog 30 #[.slice A n c, .int .i64 (r : Int)] w fun e w' => e = .returned (.slice (some ⟨w.heap.size, 0, none⟩) n (n + r)) ∧
      Ow w' w.heap.size 5 (.slice (some ⟨w.heap.size, 0, none⟩) n (n + r)) n l ∧ Below w.heap.size w w' := by
  have HR := Lib.hid hr; clear hr
  go_enter Tryd.func30, Tryd.ntmps30
  go_wp2_with (first
    | (at_make
       refine wpList_mk _ byteP rfl _ _ rfl w.heap.size .i64 .i64 _ (n + r) rfl rfl ?_ ?_ (Nat.le_refl _) ?_
       · simp
       · omega
       intro w1 ho1 hg1
       have hb1 : Below w.heap.size w w1 := (Below.refl _ _).grown hg1 (Nat.le_refl _) (by simp)
       have HR1 := Lib.hid ((HR.out.more hB).below hb1))
    | (at_builtin
       refine wpList_app_fits _ byteP rfl (.tmp 9) (.tmp 10) rfl w.heap.size w.heap.size 0 (n + r) [] rfl ho1 w.heap.size A n c l rfl HR1.out ?_ ?_
       · omega
       intro w2 ho2 hg2
       have hb2 : Below w.heap.size w w2 := hb1.grown hg2 hb1.size (by simp)))
  go_ret
  simp only [Nat.zero_add, List.nil_append] at ho2 ⊢
  exact ⟨rfl, ho2, hb2⟩

/-- What Varint's loop holds: k bytes are written, u' is left. -/
def VarRel (w : World) (n : Nat) (l : List UInt8) (u : Nat) (out v : Value) (wr : World) : Prop :=
  ∃ (k u' : Nat) (pre : List UInt8), k ≤ 9 ∧ out = .slice (some ⟨w.heap.size, 0, none⟩) (n + k) (n + 10) ∧ v = .int .u64 (u' : Int) ∧ u' < 18446744073709551616 ∧ u' < 2 ^ (7 * (9 - k) + 1) ∧
    venc u = pre ++ vencF (9 - k) u' ∧ pre.length = k ∧ Ow wr w.heap.size 5 (.slice (some ⟨w.heap.size, 0, none⟩) (n + k) (n + 10)) (n + k) (l ++ pre) ∧ Below w.heap.size w wr

theorem shr7_lt (u' k : Nat) (hk : k ≤ 8) (h : u' < 2 ^ (7 * (9 - k) + 1)) : u' / 128 < 2 ^ (7 * (9 - (k + 1)) + 1) := by
  have e : 7 * (9 - k) + 1 = 7 * (9 - (k + 1)) + 1 + 7 := by omega
  rw [e, Nat.pow_add] at h
  exact Nat.div_lt_of_lt_mul (by rw [Nat.mul_comm]; exact h)

set_option maxHeartbeats 400000 in
set_option maxRecDepth 100000 in
theorem varint_any (A : Option Addr) (n c u : Nat) (l : List UInt8) (w : World) (B : Nat) (hr : Rd w B A n l) (hB : B ≤ w.heap.size) (hn : n ≤ 1000000000000) (hu : u < 18446744073709551616) :
    Calls Tryd.prog 16 #[.slice A n c, .int .u64 (u : Int)] w fun e w' => e = .returned (.slice (some ⟨w.heap.size, 0, none⟩) (n + (venc u).length) (n + 10)) ∧
      Ow w' w.heap.size 5 (.slice (some ⟨w.heap.size, 0, none⟩) (n + (venc u).length) (n + 10)) (n + (venc u).length) (l ++ venc u) ∧ Below w.heap.size w w' := by
  have HR := Lib.hid hr; clear hr
  go_enter Tryd.func16, Tryd.ntmps16
  go_wp2_with fail
  refine (copied_any A n c 10 l _ B HR.out hB hn (by omega)).mono ?_
  rintro e w1 ⟨rfl, ho1, hb1⟩
  go_wp2_with fail
  go_loopw [5, 1] (fun out v wr => VarRel w n l u out v wr) (fun _ v _ => (intOf v).toNat)
  case atStart => exact ⟨0, u, [], by omega, rfl, rfl, hu, by simpa using hu, rfl, rfl, by simpa using ho1, hb1⟩
  case round =>
    obtain ⟨k, u', pre, hk, rfl, rfl, hu', hp, hv, hpl, ho, hb⟩ := hrel
    have HP := Lib.hid hp; clear hp
    have HV := Lib.hid hv; clear hv
    have HPL := Lib.hid hpl; clear hpl
    have HB1 := Lib.hid hb; clear hb
    have HO := Lib.hid ho; clear ho ho1 hb1
    by_cases hlt : u' < 128
    · have hlt' : ¬ (128 : Int) ≤ (u' : Int) := by omega
      have hby := byte_low u' hlt
      go_wp2_with (first
        | (at_builtin
           refine wpList_app_fits _ byteP rfl (.tmp 18) (.tmp 21) rfl w.heap.size w.heap.size (n + k) (n + 10) (l ++ pre) rfl (HO.out.alloc _) _ _ 1 1 _ rfl (Rd.one _ _ (UInt8.ofNat u') _ rfl) ?_ ?_
           · omega
           intro w2 ho2 hg2
           have HB2 := Lib.hid ((HB1.out.alloc (HB1.out.size) _).grown hg2 (by simp; have := HB1.out.size; omega) (by simp))))
      go_ret
      have hvl : venc u = pre ++ [UInt8.ofNat u'] := by rw [HV.out, vencF_small _ _ hlt]
      have hl1 : (venc u).length = k + 1 := by rw [hvl]; simp [HPL.out]
      rw [hl1, hvl]
      rw [List.append_assoc] at ho2
      exact ⟨rfl, ho2, HB2.out⟩
    · have hlt' : (128 : Int) ≤ (u' : Int) := by omega
      have hk8 : k ≤ 8 := by
        rcases Nat.lt_or_ge 8 k with h | h
        · have := HP.out; rw [show 7 * (9 - k) + 1 = 1 by omega] at this; omega
        · exact h
      have HY := Lib.hid (byte_or' u' (byte_or u'))
      have HQ := Lib.hid (shr7_lt u' k hk8 HP.out)
      go_wp2_with (first
        | (at_builtin
           refine wpList_app_fits _ byteP rfl (.tmp 12) (.tmp 16) rfl w.heap.size w.heap.size (n + k) (n + 10) (l ++ pre) rfl (HO.out.alloc _) _ _ 1 1 _ rfl (Rd.one _ _ (UInt8.ofNat (u' % 128 + 128)) _ HY.out) ?_ ?_
           · omega
           intro w2 ho2 hg2
           have HB2 := Lib.hid ((HB1.out.alloc (HB1.out.size) _).grown hg2 (by simp; have := HB1.out.size; omega) (by simp))
           have HO2 := Lib.hid ho2; clear ho2))
      go_roundw
      case rel =>
        refine ⟨k + 1, u' / 128, pre ++ [UInt8.ofNat (u' % 128 + 128)], by omega, rfl, by go_num, by omega, HQ.out, ?_, by simp [HPL.out], ?_, HB2.out⟩
        · have := vencF_big (9 - (k + 1)) u' hlt
          rw [show 9 - (k + 1) + 1 = 9 - k by omega] at this
          rw [HV.out, this]; simp
        · rw [← List.append_assoc]; exact HO2.out
      case measure => simp [intOf]; omega
end Go.Proofs.YtnahkhiomnkbcaaDoor
