/-
  compat.none, Wire, JSON; the document's None, Same.
-/
import Derived.Test.YtcjcpkjdhagofaaRg
namespace Go.Own.Cm
/-- No break of that sort. -/
def noneB (l : List BrkV) (j : Bool) : Bool := !(l.any fun b => b.js == j)
end Go.Own.Cm
namespace Go.Proofs.Ytcjcpkjdhagofaa
open Go.RowKit Go.Own Go.Own.Cm Go.Shelf
attribute [local go_sem] Oper.semAt_some
theorem any_of {α : Type} {l : List α} {p : α → Bool} {k : Nat} {x : α} (hx : l[k]? = some x) (hp : p x = true) : l.any p = true :=
  List.any_eq_true.2 ⟨x, List.mem_of_getElem? hx, hp⟩
set_option maxHeartbeats 2000000 in
set_option maxRecDepth 100000 in
theorem none_any (A : Option Addr) (n c : Nat) (l : List BrkV) (j : Bool) (B : Nat) (w : World) (hn : n ≤ 1000000) (hr : RS BrkV.cells 5 w B A n l) (hB : B ≤ w.heap.size) :
    Calls Try.prog 25 #[.slice A n c, .bool j] w (AskP (noneB l j) w) := by
  have HR := Lib.hid hr
  have HBs := Lib.hid hB
  clear hr hB
  go_enter Try.func25, Try.ntmps25
  go_wp2
  go_loopw [9] (fun i wr => ∃ k : Nat, k ≤ n ∧ i = .int .i64 (k : Int) ∧ Hid (Below w.heap.size w wr ∧ (l.take k).any (fun b => b.js == j) = false)) (fun i _ => n - (intOf i).toNat)
  case atStart => exact ⟨0, by omega, rfl, Lib.hid ⟨Below.refl _ _, by simp⟩⟩
  case round =>
    obtain ⟨k, hk, rfl, hh⟩ := hrel
    have HBw := Lib.hid hh.out.1
    have HRw := Lib.hid (HR.out.below (HBw.out.mono HBs.out))
    by_cases hlt : k < n
    · obtain ⟨ad, x, e, hx, a0, a1, a2, a3, a4⟩ := HRw.out.atB hlt
      have e : A = some ad := e
      subst e
      have HX := Lib.hid (show l[k]? = some x from hx)
      clear hx
      obtain ⟨x0, x1, x2, x3, x4⟩ := x
      simp only at a0 a1 a2 a3 a4
      have i0 : (0 : Int) ≤ (k : Int) := by omega
      have i1 : (k : Int) < (n : Int) := by omega
      obtain ⟨b, hb⟩ : ∃ b, (x4 == j) = b := ⟨_, rfl⟩
      have HP := Lib.hid hb
      have HB2 : Hid (Below w.heap.size w (wr.alloc (.cells #[.string x0, .string x1, .int .i64 x2, .int .i64 x3, .bool x4] 46))) := Lib.hid (HBw.out.alloc HBw.out.size _)
      rcases b with _ | _
      · have HN := Lib.hid (any_next l (fun b => b.js == j) k _ HX.out hh.out.2 HP.out)
        go_wp2
        exact ⟨⟨k + 1, hlt, by go_num, Lib.hid ⟨HB2.out, HN.out⟩⟩, by simp [intOf]; omega⟩
      · have HA := Lib.hid (any_of (p := fun b : BrkV => b.js == j) HX.out HP.out)
        go_wp2
        go_ret
        exact ⟨by unfold noneB; rw [HA.out]; rfl, HB2.out⟩
    · obtain rfl : k = n := by omega
      have HF : Hid (l.any (fun b => b.js == j) = false) := Lib.hid (by
        have h := hh.out.2
        rw [List.take_of_length_le (by rw [HR.out.1]; exact Nat.le_refl _)] at h
        exact h)
      go_wp2
      go_ret
      exact ⟨by unfold noneB; rw [HF.out]; rfl, HBw.out⟩
set_option maxHeartbeats 2000000 in
set_option maxRecDepth 100000 in
theorem noneR_any (A : Option Addr) (n c : Nat) (l : List BrkV) (j : Bool) (B : Nat) (w : World) (hn : n ≤ 1000000) (hr : RS BrkV.cells 5 w B A n l) (hB : B ≤ w.heap.size) :
    Calls Try.prog 12 #[.slice A n c, .bool j] w (AskP (noneB l j) w) := by
  have HR := Lib.hid hr
  have HBs := Lib.hid hB
  clear hr hB
  go_enter Try.func12, Try.ntmps12
  go_wp2
  go_loopw [5] (fun i wr => ∃ k : Nat, k ≤ n ∧ i = .int .i64 (k : Int) ∧ Hid (Below w.heap.size w wr ∧ (l.take k).any (fun b => b.js == j) = false)) (fun i _ => n - (intOf i).toNat)
  case atStart => exact ⟨0, by omega, rfl, Lib.hid ⟨Below.refl _ _, by simp⟩⟩
  case round =>
    obtain ⟨k, hk, rfl, hh⟩ := hrel
    have HBw := Lib.hid hh.out.1
    have HRw := Lib.hid (HR.out.below (HBw.out.mono HBs.out))
    by_cases hlt : k < n
    · obtain ⟨ad, x, e, hx, a0, a1, a2, a3, a4⟩ := HRw.out.atB hlt
      have e : A = some ad := e
      subst e
      have HX := Lib.hid (show l[k]? = some x from hx)
      clear hx
      obtain ⟨x0, x1, x2, x3, x4⟩ := x
      simp only at a0 a1 a2 a3 a4
      have i0 : (0 : Int) ≤ (k : Int) := by omega
      have i1 : (k : Int) < (n : Int) := by omega
      obtain ⟨b, hb⟩ : ∃ b, (x4 == j) = b := ⟨_, rfl⟩
      have HP := Lib.hid hb
      rcases b with _ | _
      · have HN := Lib.hid (any_next l (fun b => b.js == j) k _ HX.out hh.out.2 HP.out)
        go_wp2
        exact ⟨⟨k + 1, hlt, by go_num, Lib.hid ⟨HBw.out, HN.out⟩⟩, by simp [intOf]; omega⟩
      · have HA := Lib.hid (any_of (p := fun b : BrkV => b.js == j) HX.out HP.out)
        go_wp2
        go_ret
        exact ⟨by unfold noneB; rw [HA.out]; rfl, HBw.out⟩
    · obtain rfl : k = n := by omega
      have HF : Hid (l.any (fun b => b.js == j) = false) := Lib.hid (by
        have h := hh.out.2
        rw [List.take_of_length_le (by rw [HR.out.1]; exact Nat.le_refl _)] at h
        exact h)
      go_wp2
      go_ret
      exact ⟨by unfold noneB; rw [HF.out]; rfl, HBw.out⟩
end Go.Proofs.Ytcjcpkjdhagofaa
