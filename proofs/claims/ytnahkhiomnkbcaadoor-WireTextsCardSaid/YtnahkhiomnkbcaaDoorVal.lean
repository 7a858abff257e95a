/-
  Texts of UTF-8, plain: two texts together are one; what is left of a text behind a text is one. No program.
-/
import Derived.Lib.ValidLaws
namespace Go.Own.Val
open Go.Lib

theorem check_iff (n b1 b2 b3 sz lo hi k : Nat) : checkN n b1 b2 b3 sz lo hi = some k ↔
    (sz = 2 ∧ k = 2 ∧ 2 ≤ n ∧ lo ≤ b1 ∧ b1 ≤ hi) ∨ (sz = 3 ∧ k = 3 ∧ 3 ≤ n ∧ lo ≤ b1 ∧ b1 ≤ hi ∧ 128 ≤ b2 ∧ b2 ≤ 191) ∨
    (sz = 4 ∧ k = 4 ∧ 4 ≤ n ∧ lo ≤ b1 ∧ b1 ≤ hi ∧ 128 ≤ b2 ∧ b2 ≤ 191 ∧ 128 ≤ b3 ∧ b3 ≤ 191) := by
  unfold checkN
  by_cases h2 : sz = 2
  · rw [if_pos h2]
    by_cases h : n < 2 ∨ b1 < lo ∨ hi < b1
    · rw [if_pos h]; simp; omega
    · rw [if_neg h]; simp; omega
  rw [if_neg h2]
  by_cases h3 : sz = 3
  · rw [if_pos h3]
    by_cases h : n < 3 ∨ b1 < lo ∨ hi < b1 ∨ b2 < 128 ∨ 191 < b2
    · rw [if_pos h]; simp; omega
    · rw [if_neg h]; simp; omega
  rw [if_neg h3]
  by_cases h4 : sz = 4
  · rw [if_pos h4]
    by_cases h : n < 4 ∨ b1 < lo ∨ hi < b1 ∨ b2 < 128 ∨ 191 < b2 ∨ b3 < 128 ∨ 191 < b3
    · rw [if_pos h]; simp; omega
    · rw [if_neg h]; simp; omega
  rw [if_neg h4]
  simp; omega

def szOf (b : Nat) : Nat := firstT b % 8
def loOf (b : Nat) : Nat := accLo (firstT b / 16)
def hiOf (b : Nat) : Nat := accHi (firstT b / 16)

theorem lohi : ∀ b : Fin 256, szOf b.val = 2 ∨ szOf b.val = 3 ∨ szOf b.val = 4 → 128 ≤ loOf b.val ∧ hiOf b.val ≤ 191 := by decide +kernel
theorem cont : ∀ b : Fin 256, 128 ≤ b.val → b.val ≤ 191 → szOf b.val = 1 := by decide +kernel

/-- How many bytes the first letter has. -/
def stepU (l : List UInt8) : Option Nat :=
  if (l.getD 0 0).toNat < 128 then some 1
  else checkN l.length (l.getD 1 0).toNat (l.getD 2 0).toNat (l.getD 3 0).toNat (szOf (l.getD 0 0).toNat) (loOf (l.getD 0 0).toNat) (hiOf (l.getD 0 0).toNat)

theorem step_val (l : List UInt8) (hne : l ≠ []) : validD l = match stepU l with | none => false | some k => validD (l.drop k) := by
  unfold stepU
  by_cases h : (l.getD 0 0).toNat < 128
  · rw [if_pos h]
    match l, hne with
    | b :: t, _ => exact validD_cons b t (by simpa using h)
  · rw [if_neg h]
    exact validD_lead l hne (by omega)

/-- What is known of a step. -/
theorem step_iff (l : List UInt8) (k : Nat) : stepU l = some k ↔
    ((l.getD 0 0).toNat < 128 ∧ k = 1) ∨ (128 ≤ (l.getD 0 0).toNat ∧
    ((szOf (l.getD 0 0).toNat = 2 ∧ k = 2 ∧ 2 ≤ l.length ∧ loOf (l.getD 0 0).toNat ≤ (l.getD 1 0).toNat ∧ (l.getD 1 0).toNat ≤ hiOf (l.getD 0 0).toNat) ∨
     (szOf (l.getD 0 0).toNat = 3 ∧ k = 3 ∧ 3 ≤ l.length ∧ loOf (l.getD 0 0).toNat ≤ (l.getD 1 0).toNat ∧ (l.getD 1 0).toNat ≤ hiOf (l.getD 0 0).toNat ∧ 128 ≤ (l.getD 2 0).toNat ∧ (l.getD 2 0).toNat ≤ 191) ∨
     (szOf (l.getD 0 0).toNat = 4 ∧ k = 4 ∧ 4 ≤ l.length ∧ loOf (l.getD 0 0).toNat ≤ (l.getD 1 0).toNat ∧ (l.getD 1 0).toNat ≤ hiOf (l.getD 0 0).toNat ∧ 128 ≤ (l.getD 2 0).toNat ∧ (l.getD 2 0).toNat ≤ 191 ∧ 128 ≤ (l.getD 3 0).toNat ∧ (l.getD 3 0).toNat ≤ 191))) := by
  unfold stepU
  by_cases h : (l.getD 0 0).toNat < 128
  · rw [if_pos h]
    constructor
    · intro e; exact .inl ⟨h, (Option.some.inj e).symm⟩
    · rintro (⟨_, rfl⟩ | ⟨h', _⟩)
      · rfl
      · omega
  · rw [if_neg h, check_iff]
    constructor
    · intro e; exact .inr ⟨by omega, e⟩
    · rintro (⟨h', _⟩ | ⟨_, e⟩)
      · omega
      · exact e

theorem get_app (a b : List UInt8) (i : Nat) (h : i < a.length) : ((a ++ b).getD i 0).toNat = (a.getD i 0).toNat := by
  simp [List.getD, List.getElem?_append_left h]
theorem get_app_last (a b : List UInt8) : ((a ++ b).getD a.length 0).toNat = (b.getD 0 0).toNat := by
  simp [List.getD, List.getElem?_append_right]

theorem step_app (a b : List UInt8) (k : Nat) (hne : a ≠ []) (h : stepU a = some k) : 1 ≤ k ∧ k ≤ a.length ∧ stepU (a ++ b) = some k := by
  have hl : 0 < a.length := List.length_pos_iff.2 hne
  rw [step_iff] at h ⊢
  have e := get_app a b
  rw [e 0 hl]
  have e1 := e 1
  have e2 := e 2
  have e3 := e 3
  rw [List.length_append]
  generalize ((a ++ b).getD 1 0).toNat = c1 at *
  generalize ((a ++ b).getD 2 0).toNat = c2 at *
  generalize ((a ++ b).getD 3 0).toNat = c3 at *
  clear e
  rcases h with ⟨h0, rfl⟩ | ⟨h0, ⟨h1, rfl, h2, h3⟩ | ⟨h1, rfl, h2, h3⟩ | ⟨h1, rfl, h2, h3⟩⟩
  · exact ⟨by omega, by omega, .inl ⟨h0, rfl⟩⟩
  · have f1 := e1 (by omega)
    exact ⟨by omega, by omega, .inr ⟨h0, .inl ⟨h1, rfl, by omega, by omega⟩⟩⟩
  · have f1 := e1 (by omega)
    have f2 := e2 (by omega)
    exact ⟨by omega, by omega, .inr ⟨h0, .inr (.inl ⟨h1, rfl, by omega, by omega⟩)⟩⟩
  · have f1 := e1 (by omega)
    have f2 := e2 (by omega)
    have f3 := e3 (by omega)
    exact ⟨by omega, by omega, .inr ⟨h0, .inr (.inr ⟨h1, rfl, by omega, by omega⟩)⟩⟩

theorem step_back (a b : List UInt8) (k : Nat) (hne : a ≠ []) (h : stepU (a ++ b) = some k) (hk : k ≤ a.length) : stepU a = some k := by
  have hl : 0 < a.length := List.length_pos_iff.2 hne
  rw [step_iff] at h ⊢
  have e := get_app a b
  rw [e 0 hl] at h
  have e1 := e 1
  have e2 := e 2
  have e3 := e 3
  rw [List.length_append] at h
  generalize ((a ++ b).getD 1 0).toNat = c1 at *
  generalize ((a ++ b).getD 2 0).toNat = c2 at *
  generalize ((a ++ b).getD 3 0).toNat = c3 at *
  clear e
  rcases h with ⟨h0, rfl⟩ | ⟨h0, ⟨h1, rfl, h2, h3⟩ | ⟨h1, rfl, h2, h3⟩ | ⟨h1, rfl, h2, h3⟩⟩
  · exact .inl ⟨h0, rfl⟩
  · have f1 := e1 (by omega)
    exact .inr ⟨h0, .inl ⟨h1, rfl, by omega, by omega⟩⟩
  · have f1 := e1 (by omega)
    have f2 := e2 (by omega)
    exact .inr ⟨h0, .inr (.inl ⟨h1, rfl, by omega, by omega⟩)⟩
  · have f1 := e1 (by omega)
    have f2 := e2 (by omega)
    have f3 := e3 (by omega)
    exact .inr ⟨h0, .inr (.inr ⟨h1, rfl, by omega, by omega⟩)⟩

theorem cont_bad (b : List UInt8) (hne : b ≠ []) (h1 : 128 ≤ (b.getD 0 0).toNat) (h2 : (b.getD 0 0).toNat ≤ 191) : validD b = false := by
  rw [step_val b hne]
  have hc := cont ⟨(b.getD 0 0).toNat, (b.getD 0 0).toNat_lt⟩ h1 h2
  simp only at hc
  cases hs : stepU b with
  | none => rfl
  | some k =>
    rw [step_iff] at hs
    omega

theorem step_over (a b : List UInt8) (k : Nat) (hne : a ≠ []) (h : stepU (a ++ b) = some k) (hk : a.length < k) : validD b = false := by
  have hl : 0 < a.length := List.length_pos_iff.2 hne
  rw [step_iff] at h
  rw [get_app a b 0 hl, List.length_append] at h
  have hlo := lohi ⟨(a.getD 0 0).toNat, (a.getD 0 0).toNat_lt⟩
  simp only at hlo
  have hlast := get_app_last a b
  have hb : b ≠ [] := by
    intro e
    subst e
    simp only [List.length_nil] at h
    omega
  refine cont_bad b hb ?_ ?_
  all_goals
    rcases h with ⟨h0, rfl⟩ | ⟨h0, ⟨h1, rfl, h2, h3⟩ | ⟨h1, rfl, h2, h3⟩ | ⟨h1, rfl, h2, h3⟩⟩
    · omega
    all_goals
      have hlo' := hlo (by omega)
      rcases (show a.length = 1 ∨ a.length = 2 ∨ a.length = 3 by omega) with e | e | e
      all_goals (rw [e] at hlast; omega)

theorem texts : ∀ (m : Nat) (a b : List UInt8), a.length ≤ m → (validD a = true → validD (a ++ b) = validD b) ∧ (validD a = false → validD (a ++ b) = true → validD b = false) := by
  intro m
  induction m with
  | zero =>
    intro a b h
    obtain rfl : a = [] := List.eq_nil_of_length_eq_zero (by omega)
    exact ⟨fun _ => rfl, fun h => by cases h⟩
  | succ m ih =>
    intro a b h
    by_cases hne : a = []
    · subst hne
      exact ⟨fun _ => rfl, fun h => by cases h⟩
    have hab : a ++ b ≠ [] := by simp [hne]
    rw [step_val a hne, step_val (a ++ b) hab]
    cases hs : stepU a with
    | some k =>
      obtain ⟨h1, h2, h3⟩ := step_app a b k hne hs
      rw [h3]
      simp only
      rw [List.drop_append_of_le_length h2]
      exact ih _ b (by rw [List.length_drop]; omega)
    | none =>
      refine ⟨fun h => (by cases h), fun _ h => ?_⟩
      cases hs2 : stepU (a ++ b) with
      | none => rw [hs2] at h; cases h
      | some k =>
        by_cases hk : k ≤ a.length
        · rw [step_back a b k hne hs2 hk] at hs; cases hs
        · exact step_over a b k hne hs2 (by omega)

theorem texts_yes (a b : List UInt8) (h : validD a = true) : validD (a ++ b) = validD b := (texts _ a b (Nat.le_refl _)).1 h
theorem texts_no (a b : List UInt8) (h : validD a = false) : (!validD (a ++ b) || !validD b) = true := by
  have := (texts _ a b (Nat.le_refl _)).2 h
  cases h1 : validD (a ++ b) <;> cases h2 : validD b <;> simp_all

end Go.Own.Val
