/-
  Runes in plain words: what is read at a place of any text; how a rune beyond the plain ones is written.
-/
import Derived.Lib.OthersKept
import Derived.Lib.IndexAny
import Derived.Lib.IndexBytes
import Derived.Lib.Strings
import Derived.Lib.Walk
namespace Go.Own.Rn
open Go
theorem get_getD (s : ByteArray) (j : Nat) : s.get! j = s.data.toList.getD j 0 := by
  show s.data.get!Internal j = _
  simp only [Array.get!Internal_eq_getElem!, getElem!_def, List.getD, Array.getElem?_toList]
  cases s.data[j]? <;> rfl
/-- What is read at a place. -/
theorem decode_any (s : ByteArray) (i : Nat) (hi : i < s.size) :
    ((s.data.toList.getD i 0).toNat < 128 ∧ Utf8.decode s i = ((s.data.toList.getD i 0).toNat, 1)) ∨
    (128 ≤ (Utf8.decode s i).1 ∧ (Utf8.decode s i).1 ≤ 1114111 ∧ 1 ≤ (Utf8.decode s i).2 ∧ i + (Utf8.decode s i).2 ≤ s.size ∧ ∀ j, j < (Utf8.decode s i).2 → 128 ≤ (s.data.toList.getD (i + j) 0).toNat) := by
  have hb : ∀ k, (s.get! (i + k)).toNat < 256 := fun k => (s.get! (i + k)).toNat_lt
  have h0 := hb 0; have h1 := hb 1; have h2 := hb 2; have h3 := hb 3
  by_cases hlt : (s.get! (i + 0)).toNat < 128
  · left
    rw [← get_getD]
    refine ⟨hlt, ?_⟩
    simp only [Utf8.decode]
    rw [if_pos hlt]
    rfl
  · right
    have hb0 : 128 ≤ (s.data.toList.getD (i + 0) 0).toNat := by rw [← get_getD]; omega
    have one : ∀ j, j < 1 → 128 ≤ (s.data.toList.getD (i + j) 0).toNat := fun j hj => by
      obtain rfl : j = 0 := by omega
      exact hb0
    have err : (128 ≤ Utf8.runeError ∧ Utf8.runeError ≤ 1114111 ∧ 1 ≤ 1 ∧ i + 1 ≤ s.size ∧ ∀ j, j < 1 → 128 ≤ (s.data.toList.getD (i + j) 0).toNat) := ⟨by decide, by decide, Nat.le_refl _, hi, one⟩
    have big : ∀ k, (s.get! (i + k)).toNat / 64 = 2 → 128 ≤ (s.data.toList.getD (i + k) 0).toNat := fun k hk => by rw [← get_getD]; omega
    simp only [Utf8.decode]
    rw [if_neg hlt]
    split
    · rename_i hc
      simp only [Bool.and_eq_true, decide_eq_true_eq, beq_iff_eq] at hc
      split
      · refine ⟨by omega, by omega, by omega, by omega, fun j hj => ?_⟩
        have : j = 0 ∨ j = 1 := by omega
        rcases this with rfl | rfl
        · exact hb0
        · exact big 1 hc.2.2
      · exact err
    · split
      · rename_i hc
        simp only [Bool.and_eq_true, decide_eq_true_eq, beq_iff_eq] at hc
        split
        · rename_i hv
          simp only [Bool.and_eq_true, decide_eq_true_eq] at hv
          refine ⟨by omega, by omega, by omega, by omega, fun j hj => ?_⟩
          have : j = 0 ∨ j = 1 ∨ j = 2 := by omega
          rcases this with rfl | rfl | rfl
          · exact hb0
          · exact big 1 hc.1.2.2
          · exact big 2 hc.2.2
        · exact err
      · split
        · rename_i hc
          simp only [Bool.and_eq_true, decide_eq_true_eq, beq_iff_eq] at hc
          split
          · rename_i hv
            simp only [Bool.and_eq_true, decide_eq_true_eq, Utf8.valid, Bool.or_eq_true] at hv
            refine ⟨by omega, by omega, by omega, by omega, fun j hj => ?_⟩
            have : j = 0 ∨ j = 1 ∨ j = 2 ∨ j = 3 := by omega
            rcases this with rfl | rfl | rfl | rfl
            · exact hb0
            · exact big 1 hc.1.1.2.2
            · exact big 2 hc.1.2.2
            · exact big 3 hc.2.2
          · exact err
        · exact err
/-- A rune beyond the plain ones is written with two to four bytes, the last of them beyond the plain ones. -/
theorem encode_big (r : Int) (h : 128 ≤ r) : 2 ≤ (Utf8.encode r).size ∧ (Utf8.encode r).size ≤ 4 ∧ 128 ≤ ((Utf8.encode r).data.toList.getD ((Utf8.encode r).size - 1) 0).toNat := by
  unfold Utf8.encode
  simp only
  generalize hc : (if Utf8.valid r = true then r.toNat else Utf8.runeError) = c
  have h1 : 128 ≤ c := by
    rw [← hc]
    split
    · omega
    · decide
  have h2 : c ≤ 1114111 := by
    rw [← hc]
    split
    · rename_i hv
      simp only [Utf8.valid, Bool.or_eq_true, Bool.and_eq_true, decide_eq_true_eq] at hv
      omega
    · decide
  rw [if_neg (show ¬ c < 0x80 by omega)]
  have m : ∀ x, x < 64 → (UInt8.ofNat (128 + x)).toNat = 128 + x := fun x hx => by
    rw [UInt8.toNat_ofNat_of_lt' (show 128 + x < UInt8.size by have : UInt8.size = 256 := rfl; omega)]
  have hm := m (c % 64) (by omega)
  split
  · refine ⟨by simp [ByteArray.size], by simp [ByteArray.size], ?_⟩
    show 128 ≤ (UInt8.ofNat (128 + c % 64)).toNat
    omega
  · split
    · refine ⟨by simp [ByteArray.size], by simp [ByteArray.size], ?_⟩
      show 128 ≤ (UInt8.ofNat (128 + c % 64)).toNat
      omega
    · refine ⟨by simp [ByteArray.size], by simp [ByteArray.size], ?_⟩
      show 128 ≤ (UInt8.ofNat (128 + c % 64)).toNat
      omega
def crl : List UInt8 := [0, 13, 10]
theorem crl_big (c : UInt8) (h : 128 ≤ c.toNat) : crl.contains c = false := by
  rw [Bool.eq_false_iff]
  intro hc
  simp [crl] at hc
  rcases hc with rfl | rfl | rfl <;> exact absurd h (by decide)
theorem noAny_more {s : List UInt8} {i : Nat} (h : Lib.NoAny s crl i) : ∀ k, (∀ j, j < k → i + j < s.length → 128 ≤ (s.getD (i + j) 0).toNat) → Lib.NoAny s crl (i + k)
  | 0, _ => h
  | k + 1, hk => by
    have ih := noAny_more h k fun j hj => hk j (by omega)
    intro j b hj hb
    rcases Nat.lt_or_ge j (i + k) with hlt | hge
    · exact ih j b hlt hb
    · obtain rfl : j = i + k := by omega
      have hl := (List.getElem?_eq_some_iff.1 hb).1
      have := hk k (by omega) hl
      rw [List.getD, hb] at this
      exact crl_big b this
end Go.Own.Rn
