/-
  The calendar, plain: years, months, days; a date's number and that it has but one. No program.
-/
namespace Go.Own.Cal

def lp (y : Int) : Int := if y % 4 = 0 ∧ y % 100 ≠ 0 ∨ y % 400 = 0 then 1 else 0
def mlen (y m : Int) : Int := if m = 2 then 28 + lp y else if m = 4 ∨ m = 6 ∨ m = 9 ∨ m = 11 then 30 else 31
def ahead (y : Int) : Int := 365 * (y - 1) + (y - 1) / 4 - (y - 1) / 100 + (y - 1) / 400
def cum (y m : Int) : Int :=
  if m ≤ 1 then 0 else if m = 2 then 31 else if m = 3 then 59 + lp y else if m = 4 then 90 + lp y else if m = 5 then 120 + lp y else if m = 6 then 151 + lp y
  else if m = 7 then 181 + lp y else if m = 8 then 212 + lp y else if m = 9 then 243 + lp y else if m = 10 then 273 + lp y else if m = 11 then 304 + lp y
  else if m = 12 then 334 + lp y else 365 + lp y
/-- A date's number. -/
def dn (y m d : Int) : Int := ahead y + cum y m + (d - 1)

theorem lp_01 (y : Int) : 0 ≤ lp y ∧ lp y ≤ 1 := by unfold lp; split <;> omega
theorem mlen_bd (y m : Int) : 28 ≤ mlen y m ∧ mlen y m ≤ 31 := by
  have := lp_01 y
  unfold mlen; repeat' split
  all_goals omega
theorem ahead_succ (y : Int) : ahead (y + 1) = ahead y + 365 + lp y := by
  unfold ahead lp
  split <;> omega
theorem ahead_mono (a b : Int) (_h0 : 1 ≤ a) (h : a ≤ b) : ahead a ≤ ahead b := by unfold ahead; omega
theorem ahead_one : ahead 1 = 0 := by decide
theorem ahead_nonneg (a : Int) (h0 : 1 ≤ a) : 0 ≤ ahead a := by have := ahead_mono 1 a (by omega) h0; rw [ahead_one] at this; exact this
theorem ahead_max : ahead 10000 = 3652059 := by decide
theorem ahead_bd (a : Int) (h0 : 1 ≤ a) (h : a ≤ 10000) : 0 ≤ ahead a ∧ ahead a ≤ 3652059 := by
  have h1 := ahead_mono 1 a (by omega) h0
  have h2 := ahead_mono a 10000 h0 h
  rw [ahead_one] at h1
  rw [ahead_max] at h2
  exact ⟨h1, h2⟩
theorem ahead_guess (d : Int) (h : 0 ≤ d) : ahead (1 + d / 366) ≤ d := by unfold ahead; omega
theorem cum_succ (y m : Int) (h1 : 1 ≤ m) (h2 : m ≤ 12) : cum y (m + 1) = cum y m + mlen y m := by
  have hm : m = 1 ∨ m = 2 ∨ m = 3 ∨ m = 4 ∨ m = 5 ∨ m = 6 ∨ m = 7 ∨ m = 8 ∨ m = 9 ∨ m = 10 ∨ m = 11 ∨ m = 12 := by omega
  rcases hm with rfl | rfl | rfl | rfl | rfl | rfl | rfl | rfl | rfl | rfl | rfl | rfl <;> simp [cum, mlen] <;> omega
theorem cum_one (y : Int) : cum y 1 = 0 := by simp [cum]
theorem cum_end (y : Int) : cum y 13 = 365 + lp y := by simp [cum]
theorem bd_ite {c : Prop} [Decidable c] {a b : Int} {P : Int → Prop} (ha : P a) (hb : P b) : P (if c then a else b) := by split <;> assumption
theorem cum_bd (y m : Int) : 0 ≤ cum y m ∧ cum y m ≤ 366 := by
  have := lp_01 y
  unfold cum
  generalize lp y = l at *
  iterate 12 (refine bd_ite (P := fun x => 0 ≤ x ∧ x ≤ 366) (by omega) ?_)
  omega
theorem cum_mono (y a b : Int) (h1 : 1 ≤ a) (h2 : a ≤ b) (h3 : b ≤ 13) : cum y a ≤ cum y b := by
  obtain ⟨k, hk⟩ : ∃ k : Nat, b = a + k := ⟨(b - a).toNat, by omega⟩
  subst hk
  induction k with
  | zero => simp
  | succ k ih =>
    have h := ih (by omega) (by omega)
    have hs := cum_succ y (a + k) (by omega) (by omega)
    have hm := mlen_bd y (a + k)
    rw [show a + ((k + 1 : Nat) : Int) = a + k + 1 by omega, hs]
    omega

/-- A date that there is. -/
structure IsDate (y m d : Int) : Prop where
  y1 : 1 ≤ y
  y2 : y ≤ 9999
  m1 : 1 ≤ m
  m2 : m ≤ 12
  d1 : 1 ≤ d
  d2 : d ≤ mlen y m

theorem IsDate.lt {y m d : Int} (h : IsDate y m d) : ahead y ≤ dn y m d ∧ dn y m d < ahead (y + 1) := by
  have h1 := cum_bd y m
  have h2 := cum_succ y m h.m1 h.m2
  have h3 := cum_mono y (m + 1) 13 (by have := h.m1; omega) (by have := h.m2; omega) (by omega)
  rw [cum_end] at h3
  rw [ahead_succ]
  have h4 := h.d1
  have h5 := h.d2
  unfold dn
  omega
theorem IsDate.lt_month {y m d : Int} (h : IsDate y m d) : cum y m ≤ dn y m d - ahead y ∧ dn y m d - ahead y < cum y (m + 1) := by
  have h2 := cum_succ y m h.m1 h.m2
  have h4 := h.d1
  have h5 := h.d2
  unfold dn
  omega
theorem IsDate.bd {y m d : Int} (h : IsDate y m d) : 0 ≤ dn y m d ∧ dn y m d < 3652059 := by
  have h1 := h.lt
  have h2 := ahead_bd y h.y1 (by have := h.y2; omega)
  have h3 := ahead_bd (y + 1) (by have := h.y1; omega) (by have := h.y2; omega)
  omega

theorem IsDate.unique {y m d y' m' d' : Int} (h : IsDate y m d) (h' : IsDate y' m' d') (e : dn y m d = dn y' m' d') : y = y' ∧ m = m' ∧ d = d' := by
  have a1 := h.lt
  have a2 := h'.lt
  have hy : y = y' := by
    rcases Int.lt_trichotomy y y' with hlt | heq | hgt
    · have := ahead_mono (y + 1) y' (by have := h.y1; omega) (by omega); omega
    · exact heq
    · have := ahead_mono (y' + 1) y (by have := h'.y1; omega) (by omega); omega
  subst hy
  have b1 := h.lt_month
  have b2 := h'.lt_month
  have hm : m = m' := by
    rcases Int.lt_trichotomy m m' with hlt | heq | hgt
    · have := cum_mono y (m + 1) m' (by have := h.m1; omega) (by omega) (by have := h'.m2; omega); omega
    · exact heq
    · have := cum_mono y (m' + 1) m (by have := h'.m1; omega) (by omega) (by have := h.m2; omega); omega
  subst hm
  refine ⟨rfl, rfl, ?_⟩
  unfold dn at e
  omega

/-- A time's date and time of day. -/
structure DateOf (s y m d h i e : Int) : Prop where
  date : IsDate y m d
  h1 : 0 ≤ h
  h2 : h < 24
  i1 : 0 ≤ i
  i2 : i < 60
  e1 : 0 ≤ e
  e2 : e < 60
  sum : s + 62135596800 = 86400 * dn y m d + 3600 * h + 60 * i + e

theorem DateOf.unique {s y m d h i e y' m' d' h' i' e' : Int} (a : DateOf s y m d h i e) (b : DateOf s y' m' d' h' i' e') : y = y' ∧ m = m' ∧ d = d' ∧ h = h' ∧ i = i' ∧ e = e' := by
  obtain ⟨aD, a1, a2, a3, a4, a5, a6, a7⟩ := a
  obtain ⟨bD, b1, b2, b3, b4, b5, b6, b7⟩ := b
  have hd : dn y m d = dn y' m' d' := by omega
  obtain ⟨r1, r2, r3⟩ := aD.unique bD hd
  rw [hd] at a7
  exact ⟨r1, r2, r3, by omega, by omega, by omega⟩
theorem DateOf.bd {s y m d h i e : Int} (a : DateOf s y m d h i e) : -62135596800 ≤ s ∧ s ≤ 253402300799 := by
  obtain ⟨aD, a1, a2, a3, a4, a5, a6, a7⟩ := a
  have := aD.bd
  omega

/-- The day behind a day. -/
theorem next_day {y m d y' m' d' : Int} (a : IsDate y m d) (b : IsDate y' m' d') (e : dn y' m' d' = dn y m d + 1) :
    (y' = y ∧ m' = m ∧ d' = d + 1 ∧ d' ≤ 31) ∨ (y' = y ∧ m' = m + 1 ∧ d' = 1 ∧ 28 ≤ d) ∨ (y' = y + 1 ∧ m = 12 ∧ m' = 1 ∧ d = 31 ∧ d' = 1) := by
  have hb := mlen_bd y m
  by_cases h : d + 1 ≤ mlen y m
  · have hn : IsDate y m (d + 1) := ⟨a.y1, a.y2, a.m1, a.m2, by have := a.d1; omega, h⟩
    obtain ⟨r1, r2, r3⟩ := b.unique hn (by rw [e]; unfold dn; omega)
    exact .inl ⟨r1, r2, r3, by omega⟩
  · have hd : d = mlen y m := by have := a.d2; omega
    by_cases hm : m < 12
    · have hb' := mlen_bd y (m + 1)
      have hn : IsDate y (m + 1) 1 := ⟨a.y1, a.y2, by have := a.m1; omega, by omega, by omega, by omega⟩
      have hs := cum_succ y m a.m1 a.m2
      obtain ⟨r1, r2, r3⟩ := b.unique hn (by rw [e]; unfold dn; omega)
      exact .inr (.inl ⟨r1, r2, r3, by omega⟩)
    · have hm12 : m = 12 := by have := a.m2; omega
      subst hm12
      have h31 : mlen y 12 = 31 := by simp [mlen]
      have hs := cum_succ y 12 (by omega) (by omega)
      rw [show (12 : Int) + 1 = 13 from rfl, cum_end] at hs
      have hy : y + 1 ≤ 9999 := by
        by_cases hy : y ≤ 9998
        · omega
        · exfalso
          have hy9 : y = 9999 := by have := a.y2; omega
          have hlt := b.bd
          have hdn : dn y 12 d + 1 = ahead (y + 1) := by rw [ahead_succ]; unfold dn; omega
          rw [hy9] at hdn
          rw [show (9999 : Int) + 1 = 10000 from rfl, ahead_max] at hdn
          rw [hy9] at e
          omega
      have hb' := mlen_bd (y + 1) 1
      have hn : IsDate (y + 1) 1 1 := ⟨by have := a.y1; omega, hy, by omega, by omega, by omega, by omega⟩
      obtain ⟨r1, r2, r3⟩ := b.unique hn (by rw [e]; unfold dn; rw [ahead_succ, cum_one]; omega)
      exact .inr (.inr ⟨r1, rfl, r2, by omega, r3⟩)

end Go.Own.Cal
