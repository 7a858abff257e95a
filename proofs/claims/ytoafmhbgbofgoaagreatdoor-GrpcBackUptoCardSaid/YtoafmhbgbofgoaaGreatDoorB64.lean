/-
  The text of bytes by 64 letters, without its filling, and back: plain.
-/
import Derived.Test.YtoafmhbgbofgoaaGreatDoorBase
namespace Go.Own.B64
def ltrs : List UInt8 := [65, 66, 67, 68, 69, 70, 71, 72, 73, 74, 75, 76, 77, 78, 79, 80, 81, 82, 83, 84, 85, 86, 87, 88, 89, 90, 97, 98, 99, 100, 101, 102, 103, 104, 105, 106, 107, 108, 109, 110, 111, 112, 113, 114, 115, 116, 117, 118, 119, 120, 121, 122, 48, 49, 50, 51, 52, 53, 54, 55, 56, 57, 43, 47]
def lt (k : Nat) : UInt8 := ltrs.getD k 65
/-- The letters of up to three bytes: n the three as a number, m the bytes that there are. -/
def four (n m : Nat) : List UInt8 := ([lt (n / 262144 % 64), lt (n / 4096 % 64), lt (n / 64 % 64), lt (n % 64)]).take (m + 1)
def num3 (l : List UInt8) : Nat := (l.getD 0 0).toNat * 65536 + (l.getD 1 0).toNat * 256 + (l.getD 2 0).toNat
def b64 : List UInt8 → List UInt8
  | [] => []
  | [a] => four (num3 [a]) 1
  | [a, b] => four (num3 [a, b]) 2
  | a :: b :: c :: r => four (num3 [a, b, c]) 3 ++ b64 r
def idx (c : UInt8) : Option Nat := ltrs.idxOf? c
/-- What is read of letters: have: the bits at hand, many: how many. -/
def ub : Nat → Nat → List UInt8 → Option (List UInt8)
  | h, _, [] => if h = 0 then some [] else none
  | h, m, c :: r => match idx c with
    | none => none
    | some k => if 8 ≤ m + 6 then (ub ((h * 64 + k) % 2 ^ (m + 6 - 8)) (m + 6 - 8) r).map (UInt8.ofNat ((h * 64 + k) / 2 ^ (m + 6 - 8)) :: ·) else ub (h * 64 + k) (m + 6) r
theorem idx_lt : ∀ k < 64, idx (lt k) = some k := by decide +kernel
theorem lt_ok : ∀ k < 64, (lt k) ∈ ltrs := by decide +kernel
theorem ub_lt (h m k : Nat) (r : List UInt8) (hk : k < 64) : ub h m (lt k :: r) = if 8 ≤ m + 6 then (ub ((h * 64 + k) % 2 ^ (m + 6 - 8)) (m + 6 - 8) r).map (UInt8.ofNat ((h * 64 + k) / 2 ^ (m + 6 - 8)) :: ·) else ub (h * 64 + k) (m + 6) r := by
  rw [ub, idx_lt k hk]
theorem of_nat_toNat (a : UInt8) (n : Nat) (h : n = a.toNat) : UInt8.ofNat n = a := by rw [h]; exact UInt8.ofNat_toNat
theorem ub_b64 (l : List UInt8) : ub 0 0 (b64 l) = some l := by
  induction l using b64.induct with
  | case1 => rfl
  | case2 a =>
    have ha := a.toNat_lt
    have e : num3 [a] = a.toNat * 65536 := by simp [num3]
    simp only [b64, four, List.take_succ_cons, List.take_zero, e]
    rw [ub_lt _ _ _ _ (by omega), if_neg (by omega), ub_lt _ _ _ _ (by omega), if_pos (by omega)]
    simp only [Nat.reduceAdd, Nat.reduceSub, Nat.reducePow, Nat.zero_mul, Nat.zero_add]
    have h1 : (a.toNat * 65536 / 262144 % 64 * 64 + a.toNat * 65536 / 4096 % 64) % 16 = 0 := by omega
    rw [h1]
    simp only [ub, if_true, Option.map_some]
    rw [of_nat_toNat a _ (by omega)]
  | case3 a b =>
    have ha := a.toNat_lt
    have hb := b.toNat_lt
    have e : num3 [a, b] = a.toNat * 65536 + b.toNat * 256 := by simp [num3]
    simp only [b64, four, List.take_succ_cons, List.take_zero, e]
    rw [ub_lt _ _ _ _ (by omega), if_neg (by omega), ub_lt _ _ _ _ (by omega), if_pos (by omega), ub_lt _ _ _ _ (by omega), if_pos (by omega)]
    simp only [Nat.reduceAdd, Nat.reduceSub, Nat.reducePow, Nat.zero_mul, Nat.zero_add]
    have h1 : (((a.toNat * 65536 + b.toNat * 256) / 262144 % 64 * 64 + (a.toNat * 65536 + b.toNat * 256) / 4096 % 64) % 16 * 64 + (a.toNat * 65536 + b.toNat * 256) / 64 % 64) % 4 = 0 := by omega
    rw [h1]
    simp only [ub, if_true, Option.map_some]
    congr 1
    rw [of_nat_toNat a _ (by omega), of_nat_toNat b _ (by omega)]
  | case4 a b c r ih =>
    have ha := a.toNat_lt
    have hb := b.toNat_lt
    have hc := c.toNat_lt
    have e : num3 [a, b, c] = a.toNat * 65536 + b.toNat * 256 + c.toNat := by simp [num3]
    simp only [b64, four, List.take_succ_cons, List.take_zero, e, List.cons_append, List.nil_append]
    rw [ub_lt _ _ _ _ (by omega), if_neg (by omega), ub_lt _ _ _ _ (by omega), if_pos (by omega), ub_lt _ _ _ _ (by omega), if_pos (by omega), ub_lt _ _ _ _ (by omega), if_pos (by omega)]
    simp only [Nat.reduceAdd, Nat.reduceSub, Nat.reducePow, Nat.zero_mul, Nat.zero_add, Nat.mod_one, Nat.div_one]
    rw [ih]
    simp only [Option.map_some]
    rw [of_nat_toNat a _ (by omega), of_nat_toNat b _ (by omega), of_nat_toNat c _ (by omega)]
theorem four_mem {n m : Nat} {c : UInt8} (h : c ∈ four n m) : c ∈ ltrs := by
  have h := List.mem_of_mem_take h
  simp only [List.mem_cons, List.not_mem_nil, or_false] at h
  rcases h with rfl | rfl | rfl | rfl <;> exact lt_ok _ (by omega)
theorem b64_mem (l : List UInt8) : ∀ c ∈ b64 l, c ∈ ltrs := by
  induction l using b64.induct with
  | case1 => intro c h; cases h
  | case2 a => intro c h; exact four_mem h
  | case3 a b => intro c h; exact four_mem h
  | case4 a b c r ih =>
    intro x h
    rw [b64, List.mem_append] at h
    rcases h with h | h
    · exact four_mem h
    · exact ih x h
theorem b64_len (l : List UInt8) : (b64 l).length = (l.length * 4 + 2) / 3 := by
  induction l using b64.induct with
  | case1 => rfl
  | case2 a => simp only [b64, four, List.take_succ_cons, List.take_zero, List.length_cons, List.length_nil]
  | case3 a b => simp only [b64, four, List.take_succ_cons, List.take_zero, List.length_cons, List.length_nil]
  | case4 a b c r ih =>
    rw [b64, List.length_append, ih]
    simp only [four, List.take_succ_cons, List.take_zero, List.length_cons, List.length_nil]
    omega
end Go.Own.B64
