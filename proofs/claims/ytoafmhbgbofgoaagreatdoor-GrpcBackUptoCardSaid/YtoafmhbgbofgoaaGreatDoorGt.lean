/-
  Contracts: head.Get; grpc.isTyped where the type is the chapter's.
-/
import Derived.Test.YtoafmhbgbofgoaaGreatDoorGs
namespace Go.Proofs.YtoafmhbgbofgoaaGreatDoor
open Go.RowKit Go.Own Go.Own.Hd Go.Own.Gb Go.WideShapes
attribute [local go_sem] Oper.semAt_some
def GetPost (r : Option ByteArray) (w : World) (e : Ending) (w' : World) : Prop :=
  Below w.heap.size w w' ∧ e = .returned (.tuple #[.string (r.getD ⟨#[]⟩), .bool r.isSome])
theorem eq_tx (a b : ByteArray) : (a.toList == b.toList) = decide (tx a = tx b) := by
  rw [Lib.toList_data, Lib.toList_data, Bool.eq_iff_iff, beq_iff_eq, decide_eq_true_iff]
  exact Iff.rfl
set_option maxHeartbeats 2000000 in
set_option maxRecDepth 100000 in
theorem get_any (A : Option Addr) (n c : Nat) (l : List HdrV) (N : ByteArray) (w : World) (hn : n ≤ 1000000) (hr : Hr w A n l) :
    Calls Tryz.prog 31 #[.slice A n c, .string N] w (GetPost (getV (tx N) l) w) := by
  have HR := Lib.hid hr
  have HL := Lib.hid hr.1
  clear hr
  go_enter Tryz.func31, Tryz.ntmps31
  go_wp2
  go_loopw [10] (fun i wr => ∃ k : Nat, k ≤ n ∧ i = .int .i64 (k : Int) ∧ Hid (Below w.heap.size w wr ∧ getV (tx N) (l.drop k) = getV (tx N) l)) (fun i _ => n - (intOf i).toNat)
  case atStart => exact ⟨0, by omega, rfl, Lib.hid ⟨Below.refl _ _, rfl⟩⟩
  case round =>
    obtain ⟨k, hk, rfl, hh⟩ := hrel
    by_cases hlt : k < n
    · obtain ⟨ad, rfl, a0, a1, a2⟩ := (HR.out.below hh.out.1).at_ hlt
      obtain ⟨y, hy⟩ : ∃ y, l.getD k ⟨⟨#[]⟩, ⟨#[]⟩, false⟩ = y := ⟨_, rfl⟩
      have hdr : getV (tx N) l = if tx y.name = tx N then some y.value else getV (tx N) (l.drop (k + 1)) := by
        have h := hh.out.2
        have hkl : k < l.length := by rw [HL.out]; exact hlt
        rw [List.drop_eq_getElem_cons hkl] at h
        have : l.getD k ⟨⟨#[]⟩, ⟨#[]⟩, false⟩ = l[k] := by simp [List.getD, hkl]
        rw [← this, hy, getV] at h
        exact h.symm
      rw [hy] at a0 a1 a2
      clear hy
      obtain ⟨xn, xv, xb⟩ := y
      simp only at a0 a1 a2 hdr
      have i0 : (0 : Int) ≤ (k : Int) := by omega
      have i1 : (k : Int) < (n : Int) := by omega
      have HB1 := Lib.hid (hh.out.1.alloc hh.out.1.size (.cells #[.string xn, .string xv, .bool xb] 67))
      have heq := eq_tx xn N
      by_cases hq : tx xn = tx N
      · rw [decide_eq_true hq] at heq
        rw [if_pos hq] at hdr
        have HD := Lib.hid hdr
        clear hdr hq
        go_wp2
        go_ret2
        exact ⟨HB1.out, by rw [HD.out]; rfl⟩
      · rw [decide_eq_false hq] at heq
        rw [if_neg hq] at hdr
        have HD := Lib.hid hdr
        clear hdr hq
        go_wp2
        go_roundw
        case rel => exact ⟨k + 1, hlt, by go_num, Lib.hid ⟨HB1.out, HD.out.symm⟩⟩
        case measure => simp [intOf]; omega
    · obtain rfl : k = n := by omega
      have hg := hh.out.2
      rw [List.drop_eq_nil_of_le (by rw [HL.out]; exact Nat.le_refl _)] at hg
      have HG := Lib.hid hg
      have HB := Lib.hid hh.out.1
      clear hg hh
      go_wp2
      go_ret2
      exact ⟨HB.out, by rw [← HG.out]; rfl⟩
def apT : ByteArray := ⟨#[97, 112, 112, 108, 105, 99, 97, 116, 105, 111, 110, 47, 103, 114, 112, 99]⟩
set_option maxHeartbeats 1000000 in
set_option maxRecDepth 100000 in
theorem typed_yes (A : Option Addr) (n c : Nat) (l : List HdrV) (w : World) (hn : n ≤ 1000000) (hr : Hr w A n l) (hg : getV ctS l = some apT) :
    Calls Tryz.prog 29 #[.slice A n c] w fun e w' => e = .returned (.bool true) ∧ Below w.heap.size w w' := by
  have h1 := get_any A n c l ⟨#[99, 111, 110, 116, 101, 110, 116, 45, 116, 121, 112, 101]⟩ w hn hr
  rw [show tx ⟨#[99, 111, 110, 116, 101, 110, 116, 45, 116, 121, 112, 101]⟩ = ctS from rfl, hg] at h1
  have H1 := Lib.hid h1
  have h2 := fun W => Tryz.strings_CutPrefix apT ⟨#[97, 112, 112, 108, 105, 99, 97, 116, 105, 111, 110, 47, 103, 114, 112, 99]⟩ W
  have et : (Lib.trimPrefix apT.data.toList (⟨#[97, 112, 112, 108, 105, 99, 97, 116, 105, 111, 110, 47, 103, 114, 112, 99]⟩ : ByteArray).data.toList).toArray = #[] := by decide +kernel
  have eh : Lib.hasPrefix apT.data.toList (⟨#[97, 112, 112, 108, 105, 99, 97, 116, 105, 111, 110, 47, 103, 114, 112, 99]⟩ : ByteArray).data.toList = true := by decide +kernel
  simp only [et, eh] at h2
  have H2 := Lib.hid h2
  have hne : (⟨#[]⟩ : ByteArray).toList == (⟨#[]⟩ : ByteArray).toList := by simp
  clear h1 h2 hr hg et eh
  go_enter Tryz.func29, Tryz.ntmps29
  go_wp2_with (first
    | (go_at_call 31; refine H1.out.mono ?_; rintro e w1 ⟨g1, rfl⟩; have G1 := Lib.hid g1; clear g1)
    | (go_at_call 59; refine (H2.out _).mono ?_; rintro e w2 ⟨rfl, rfl⟩))
  all_goals
    go_ret
    exact ⟨rfl, G1.out⟩
end Go.Proofs.YtoafmhbgbofgoaaGreatDoor
