/-
  Contract: parleylaw16.light: a list that it lets in is short.
-/
import Derived.Test.YtoafmhbgbofgoaaGreatDoorWr
namespace Go.Proofs.YtoafmhbgbofgoaaGreatDoor
open Go.RowKit Go.Own Go.Own.Hd Go.Own.Fn Go.WideShapes
def sumS : List HdrV → Nat
  | [] => 0
  | x :: l => min x.name.size 30000 + min x.value.size 30000 + sumS l
theorem sum_app : ∀ a b : List HdrV, sumS (a ++ b) = sumS a + sumS b
  | [], b => by simp [sumS]
  | x :: a, b => by rw [List.cons_append, sumS, sum_app a b, sumS]; omega
theorem sum_succ (l : List HdrV) (d : HdrV) (k : Nat) (hk : k < l.length) : sumS (l.take (k + 1)) = sumS (l.take k) + (min (l.getD k d).name.size 30000 + min (l.getD k d).value.size 30000) := by
  rw [List.take_succ_eq_append_getElem hk, sum_app]
  have : l.getD k d = l[k] := by simp [List.getD, hk]
  rw [this]
  simp only [sumS]
  omega
theorem sum_szk : ∀ l : List HdrV, sumS l ≤ 20000 → Szk l
  | [], _ => fun h hh => nomatch hh
  | x :: l, h => fun y hy => by
    rw [sumS] at h
    rcases List.mem_cons.1 hy with rfl | hy
    · constructor <;> omega
    · exact sum_szk l (by omega) y hy
def LightPost (n : Nat) (l : List HdrV) (w : World) (e : Ending) (w' : World) : Prop := ∃ b, e = .returned (.bool b) ∧ (b = true → n ≤ 60 ∧ Szk l) ∧ ∃ k, w' = w.drewN k
set_option maxHeartbeats 2000000 in
set_option maxRecDepth 100000 in
/-- parleylaw16.light: it looks, and says yes or no. -/
theorem light_any (A : Option Addr) (n c : Nat) (l : List HdrV) (w : World) (hn : n ≤ 100000000) (hr : Hr w A n l) (hz : Szs l) :
    Calls Tryz.prog 5 #[.slice A n c] w (LightPost n l w) := by
  have HR := Lib.hid hr
  have HZ := Lib.hid hz
  clear hr hz
  go_enter Tryz.func5, Tryz.ntmps5
  go_wp2
  go_loopw [3, 4] (fun s i wr => ∃ k : Nat, k ≤ n ∧ k ≤ 61 ∧ i = .int .i64 (k : Int) ∧ (∃ t : Nat, t ≤ k * 60000 ∧ s = .int .i64 (t : Int) ∧ t = sumS (l.take k)) ∧ Hid (∃ q, wr = w.drewN q)) (fun _ i _ => n - (intOf i).toNat)
  case atStart => exact ⟨0, Nat.zero_le _, by omega, rfl, ⟨0, by omega, rfl, rfl⟩, Lib.hid ⟨0, rfl⟩⟩
  case round =>
    obtain ⟨k, hk, hk61, rfl, ⟨t, ht, rfl, hts⟩, hh⟩ := hrel
    have HTS := Lib.hid hts
    clear hts
    obtain ⟨q, hq⟩ := hh.out
    subst hq
    by_cases hlt : k < n
    · by_cases h60 : k ≤ 60
      · obtain ⟨ad, rfl, a0, a1, a2⟩ := HR.out.at_ hlt
        obtain ⟨s1, s2⟩ := HZ.out.at_ k
        obtain ⟨x, hx⟩ : ∃ x, l.getD k ⟨⟨#[]⟩, ⟨#[]⟩, false⟩ = x := ⟨_, rfl⟩
        have hsm := sum_succ l ⟨⟨#[]⟩, ⟨#[]⟩, false⟩ k (by rw [HR.out.1]; exact hlt)
        rw [hx] at a0 a1 a2 s1 s2 hsm
        obtain ⟨xn, xv, xb⟩ := x
        simp only at a0 a1 a2 s1 s2 hsm
        have HSM := Lib.hid hsm
        clear hx a2 hsm
        have i0 : (0 : Int) ≤ (k : Int) := by omega
        have i1 : (k : Int) < (n : Int) := by omega
        have t0 : (t : Int) ≤ 4000000 := by omega
        go_wp2
        go_quiet (fail)
        go_wp2
        exact ⟨⟨k + 1, by omega, by omega, by go_num, ⟨t + min xn.size 30000 + min xv.size 30000, by omega, congrArg (Value.int .i64) (by omega), by rw [HSM.out, HTS.out]; omega⟩, Lib.hid ⟨_, rfl⟩⟩, by simp [intOf]; omega⟩
      · have h60' : 60 < k := by omega
        by_cases hn60 : n ≤ 60
        · omega
        · have hn6 : 60 < n := by omega
          go_wp2
          go_ret
          exact ⟨false, rfl, (fun h => Bool.noConfusion h), _, rfl⟩
    · obtain rfl : k = n := by omega
      by_cases hn60 : k ≤ 60
      · by_cases h3 : t ≤ 20000
        · have h3d : decide ((t : Int) ≤ 20000) = true := decide_eq_true (by omega)
          go_wp2
          go_ret
          exact ⟨true, rfl, fun _ => ⟨hn60, sum_szk l (by have := HTS.out; rw [List.take_of_length_le (by rw [HR.out.1]; exact Nat.le_refl _)] at this; omega)⟩, _, rfl⟩
        · have h3d : decide ((t : Int) ≤ 20000) = false := decide_eq_false (by omega)
          go_wp2
          go_ret
          exact ⟨false, rfl, (fun h => Bool.noConfusion h), _, rfl⟩
      · have hn6 : 60 < k := by omega
        go_wp2
        go_ret
        exact ⟨false, rfl, (fun h => Bool.noConfusion h), _, rfl⟩
end Go.Proofs.YtoafmhbgbofgoaaGreatDoor
