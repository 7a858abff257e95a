/-
  Texts of times of one length rise as the times do, plain. No program.
-/
import Derived.Test.YtacmlpgakibdgaaDoorDig
import GoSem.Op.String
namespace Go.Own.Dig
open Go.Lib

theorem less_app : ∀ (a b x y : List UInt8), a.length = b.length → Op.bytesLess (a ++ x) (b ++ y) = (Op.bytesLess a b || (decide (a = b) && Op.bytesLess x y))
  | [], [], x, y, _ => by simp [Op.bytesLess]
  | a :: as, b :: bs, x, y, h => by
    have ih := less_app as bs x y (by simpa using h)
    simp only [List.cons_append, Op.bytesLess, ih]
    by_cases e : a = b
    · subst e; simp
    · have e' : (a == b) = false := by simpa using e
      simp [e, e']
theorem less_same (c : UInt8) (x y : List UInt8) : Op.bytesLess (c :: x) (c :: y) = Op.bytesLess x y := by simp [Op.bytesLess]
theorem less_self : ∀ x : List UInt8, Op.bytesLess x x = false
  | [] => rfl
  | a :: x => by rw [less_same]; exact less_self x

theorem dg_inj (k n m : Nat) (hn : n < 10 ^ k) (hm : m < 10 ^ k) (h : dg k n = dg k m) : n = m := by
  have h1 := rdl_dg k 0 n [] 0 0 hn
  have h2 := rdl_dg k 0 m [] 0 0 hm
  rw [h, h2] at h1
  simp [rdl] at h1
  omega
theorem dg_less : ∀ k n m, n < 10 ^ k → m < 10 ^ k → Op.bytesLess (dg k n) (dg k m) = decide (n < m)
  | 0, n, m, hn, hm => by
    have e1 : n = 0 := by simpa using hn
    have e2 : m = 0 := by simpa using hm
    subst e1 e2; rfl
  | k + 1, n, m, hn, hm => by
    have hn' : n / 10 < 10 ^ k := by rw [Nat.pow_succ] at hn; omega
    have hm' : m / 10 < 10 ^ k := by rw [Nat.pow_succ] at hm; omega
    rw [dg, dg, less_app _ _ _ _ (by rw [dg_len, dg_len]), dg_less k _ _ hn' hm']
    have e1 : decide (dg k (n / 10) = dg k (m / 10)) = decide (n / 10 = m / 10) := by
      rw [Bool.eq_iff_iff]; simp only [decide_eq_true_eq]
      exact ⟨dg_inj k _ _ hn' hm', fun h => by rw [h]⟩
    have e2 : Op.bytesLess [UInt8.ofNat (48 + n % 10)] [UInt8.ofNat (48 + m % 10)] = decide (n % 10 < m % 10) := by
      simp only [Op.bytesLess, Bool.and_false, Bool.or_false]
      rw [Bool.eq_iff_iff]
      simp only [decide_eq_true_eq, UInt8.lt_iff_toNat_lt, digit_toNat]
      omega
    rw [e1, e2, Bool.eq_iff_iff]
    simp only [Bool.or_eq_true, Bool.and_eq_true, decide_eq_true_eq]
    omega
theorem less_blk (k n m : Nat) (x y : List UInt8) (hn : n < 10 ^ k) (hm : m < 10 ^ k) : Op.bytesLess (dg k n ++ x) (dg k m ++ y) = true ↔ n < m ∨ n = m ∧ Op.bytesLess x y = true := by
  rw [less_app _ _ _ _ (by rw [dg_len, dg_len]), dg_less k n m hn hm]
  simp only [Bool.or_eq_true, Bool.and_eq_true, decide_eq_true_eq]
  constructor
  · rintro (h | ⟨h, h'⟩)
    · exact .inl h
    · exact .inr ⟨dg_inj k n m hn hm h, h'⟩
  · rintro (h | ⟨h, h'⟩)
    · exact .inl h
    · exact .inr ⟨by rw [h], h'⟩
theorem less_part (c : UInt8) (n m : Nat) (x y : List UInt8) (hn : n < 100) (hm : m < 100) : Op.bytesLess ([c] ++ dg 2 n ++ x) ([c] ++ dg 2 m ++ y) = true ↔ n < m ∨ n = m ∧ Op.bytesLess x y = true := by
  simp only [List.cons_append, List.nil_append, less_same]
  exact less_blk 2 n m x y hn hm

theorem fracT_len (n : Nat) : (fracT n).length = if n = 0 then 0 else if n % 1000000 = 0 then 4 else if n % 1000 = 0 then 7 else 10 := by
  unfold fracT
  repeat' split
  all_goals simp [dg_len]
theorem less_frac (n m : Nat) (hn : n < 1000000000) (hm : m < 1000000000) (hl : (fracT n).length = (fracT m).length) : Op.bytesLess (fracT n ++ [90]) (fracT m ++ [90]) = true ↔ n < m := by
  rw [fracT_len, fracT_len] at hl
  unfold fracT
  by_cases h0 : n = 0
  · rw [if_pos h0] at hl ⊢
    by_cases k0 : m = 0
    · rw [if_pos k0]; simp [Op.bytesLess, h0, k0]
    · rw [if_neg k0] at hl
      split at hl
      · omega
      · split at hl <;> omega
  rw [if_neg h0] at hl ⊢
  by_cases h1 : n % 1000000 = 0
  · rw [if_pos h1] at hl ⊢
    by_cases k0 : m = 0
    · rw [if_pos k0] at hl; simp at hl
    rw [if_neg k0] at hl ⊢
    by_cases k1 : m % 1000000 = 0
    · rw [if_pos k1, List.cons_append, List.cons_append, less_same, less_blk 3 _ _ _ _ (by omega) (by omega), less_self]
      simp; omega
    · rw [if_neg k1] at hl
      split at hl <;> omega
  rw [if_neg h1] at hl ⊢
  by_cases h2 : n % 1000 = 0
  · rw [if_pos h2] at hl ⊢
    by_cases k0 : m = 0
    · rw [if_pos k0] at hl; simp at hl
    rw [if_neg k0] at hl ⊢
    by_cases k1 : m % 1000000 = 0
    · rw [if_pos k1] at hl; simp at hl
    rw [if_neg k1] at hl ⊢
    by_cases k2 : m % 1000 = 0
    · rw [if_pos k2, List.cons_append, List.cons_append, less_same, less_blk 6 _ _ _ _ (by omega) (by omega), less_self]
      simp; omega
    · rw [if_neg k2] at hl; simp at hl
  rw [if_neg h2] at hl ⊢
  by_cases k0 : m = 0
  · rw [if_pos k0] at hl; simp at hl
  rw [if_neg k0] at hl ⊢
  by_cases k1 : m % 1000000 = 0
  · rw [if_pos k1] at hl; simp at hl
  rw [if_neg k1] at hl ⊢
  by_cases k2 : m % 1000 = 0
  · rw [if_pos k2] at hl; simp at hl
  rw [if_neg k2, List.cons_append, List.cons_append, less_same, less_blk 9 _ _ _ _ (by omega) (by omega), less_self]
  simp

/-- Which date is ahead. -/
theorem dn_lt {y m d y' m' d' : Int} (a : Cal.IsDate y m d) (b : Cal.IsDate y' m' d') (h : y < y' ∨ y = y' ∧ (m < m' ∨ m = m' ∧ d < d')) : Cal.dn y m d < Cal.dn y' m' d' := by
  rcases h with h | ⟨rfl, h | ⟨rfl, h⟩⟩
  · have h1 := a.lt
    have h2 := b.lt
    have := Cal.ahead_mono (y + 1) y' (by have := a.y1; omega) (by omega)
    omega
  · have h1 := a.lt_month
    have h2 := b.lt_month
    have := Cal.cum_mono y (m + 1) m' (by have := a.m1; omega) (by omega) (by have := b.m2; omega)
    omega
  · unfold Cal.dn; omega

def LexL (y m d h i e n y' m' d' h' i' e' n' : Nat) : Prop := y < y' ∨ y = y' ∧ (m < m' ∨ m = m' ∧ (d < d' ∨ d = d' ∧ (h < h' ∨ h = h' ∧ (i < i' ∨ i = i' ∧ (e < e' ∨ e = e' ∧ n < n')))))

theorem lex_lt {s s' : Int} {y m d h i e n y' m' d' h' i' e' n' : Nat} (a : Cal.DateOf s y m d h i e) (b : Cal.DateOf s' y' m' d' h' i' e') (l : LexL y m d h i e n y' m' d' h' i' e' n') : s < s' ∨ s = s' ∧ n < n' := by
  obtain ⟨aD, a1, a2, a3, a4, a5, a6, a7⟩ := a
  obtain ⟨bD, b1, b2, b3, b4, b5, b6, b7⟩ := b
  unfold LexL at l
  by_cases hd : y = y' ∧ m = m' ∧ d = d'
  · obtain ⟨rfl, rfl, rfl⟩ := hd
    have l' : h < h' ∨ h = h' ∧ (i < i' ∨ i = i' ∧ (e < e' ∨ e = e' ∧ n < n')) := by
      rcases l with l | ⟨_, l | ⟨_, l | ⟨_, l⟩⟩⟩
      · omega
      · omega
      · omega
      · exact l
    generalize Cal.dn y m d = D at *
    omega
  · have := dn_lt aD bD (by omega)
    generalize Cal.dn y m d = D at *
    generalize Cal.dn y' m' d' = D' at *
    clear l
    omega

theorem less_time {s s' : Int} {y m d h i e n y' m' d' h' i' e' n' : Nat} (a : Cal.DateOf s y m d h i e) (b : Cal.DateOf s' y' m' d' h' i' e') (hn : n < 1000000000) (hn' : n' < 1000000000)
    (hl : (timeB y m d h i e n ++ [90]).length = (timeB y' m' d' h' i' e' n' ++ [90]).length) :
    Op.bytesLess (timeB y m d h i e n ++ [90]) (timeB y' m' d' h' i' e' n' ++ [90]) = decide (s < s' ∨ s = s' ∧ n < n') := by
  have hfl : (fracT n).length = (fracT n').length := by
    simp only [timeB, List.length_append, dg_len, List.length_cons, List.length_nil] at hl
    omega
  have aD := a.date
  have bD := b.date
  have hm1 := Cal.mlen_bd (y : Int) (m : Int)
  have hm2 := Cal.mlen_bd (y' : Int) (m' : Int)
  have e1 : Op.bytesLess (timeB y m d h i e n ++ [90]) (timeB y' m' d' h' i' e' n' ++ [90]) = true ↔ LexL y m d h i e n y' m' d' h' i' e' n' := by
    have e0 : ∀ y m d h i e n : Nat, timeB y m d h i e n ++ [90] = dg 4 y ++ ([45] ++ dg 2 m ++ ([45] ++ dg 2 d ++ ([84] ++ dg 2 h ++ ([58] ++ dg 2 i ++ ([58] ++ dg 2 e ++ (fracT n ++ [90])))))) := fun y m d h i e n => by
      simp only [timeB, List.append_assoc]
    rw [e0, e0, less_blk 4 y y' _ _ (by have := aD.y2; omega) (by have := bD.y2; omega), less_part 45 m m' _ _ (by have := aD.m2; omega) (by have := bD.m2; omega), less_part 45 d d' _ _ (by have := aD.d2; omega) (by have := bD.d2; omega),
      less_part 84 h h' _ _ (by have := a.h2; omega) (by have := b.h2; omega), less_part 58 i i' _ _ (by have := a.i2; omega) (by have := b.i2; omega), less_part 58 e e' _ _ (by have := a.e2; omega) (by have := b.e2; omega), less_frac n n' hn hn' hfl]
    exact Iff.rfl
  rw [Bool.eq_iff_iff, e1, decide_eq_true_eq]
  refine ⟨lex_lt a b, fun hlt => ?_⟩
  by_cases hx : LexL y m d h i e n y' m' d' h' i' e' n'
  · exact hx
  · exfalso
    by_cases hy : LexL y' m' d' h' i' e' n' y m d h i e n
    · have := lex_lt b a hy; omega
    · have he : y = y' ∧ m = m' ∧ d = d' ∧ h = h' ∧ i = i' ∧ e = e' ∧ n = n' := by
        unfold LexL at hx hy
        omega
      obtain ⟨rfl, rfl, rfl, rfl, rfl, rfl, rfl⟩ := he
      have h1 := a.sum
      have h2 := b.sum
      omega

theorem same_time {s s' : Int} {y m d h i e n y' m' d' h' i' e' n' : Nat} (a : Cal.DateOf s y m d h i e) (b : Cal.DateOf s' y' m' d' h' i' e') (hn : n < 1000000000) (hn' : n' < 1000000000) :
    timeB y m d h i e n ++ [90] = timeB y' m' d' h' i' e' n' ++ [90] ↔ s = s' ∧ n = n' := by
  constructor
  · intro hh
    have h1 := parse_back a hn
    rw [hh, parse_back b hn'] at h1
    simp only [Option.some.injEq, Prod.mk.injEq] at h1
    omega
  · rintro ⟨rfl, rfl⟩
    obtain ⟨r1, r2, r3, r4, r5, r6⟩ := a.unique b
    rw [show y = y' by omega, show m = m' by omega, show d = d' by omega, show h = h' by omega, show i = i' by omega, show e = e' by omega]

end Go.Own.Dig
