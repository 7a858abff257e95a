/-
  Digits and the texts of times and spans, plain: written, and read back. No program.
-/
import Derived.Lib.ItoaNum
import Derived.Lib.Repeat
import Derived.Lib.Strings
import Derived.Test.YtacmlpgakibdgaaDoorCal
namespace Go.Own.Dig
open Go.Lib

/-- So many digits of a number. -/
def dg : Nat → Nat → List UInt8
  | 0, _ => []
  | k + 1, n => dg k (n / 10) ++ [UInt8.ofNat (48 + n % 10)]

theorem dg_len : ∀ k n, (dg k n).length = k
  | 0, _ => rfl
  | k + 1, n => by simp [dg, dg_len k]
theorem dg_zero : ∀ k, dg k 0 = List.replicate k 48
  | 0 => rfl
  | k + 1 => by rw [dg, show 0 / 10 = 0 from rfl, dg_zero k, List.replicate_succ']; rfl
theorem dg_more : ∀ k j n, n < 10 ^ k → dg (k + j) n = List.replicate j 48 ++ dg k n
  | 0, j, n, h => by
    obtain rfl : n = 0 := by simpa using h
    simp [dg, dg_zero]
  | k + 1, j, n, h => by
    have := dg_more k j (n / 10) (by rw [Nat.pow_succ] at h; omega)
    rw [show k + 1 + j = (k + j) + 1 by omega, dg, this, dg, List.append_assoc]
theorem dec_dg (n : Nat) : decDigits n = dg (nDigits n) n := by
  induction n using Nat.strongRecOn with
  | _ n ih =>
    rw [decDigits, nDigits]
    by_cases h : n < 10
    · rw [dif_pos h, dif_pos h]; simp [dg, Nat.mod_eq_of_lt h]
    · rw [dif_neg h, dif_neg h, dg, ih (n / 10) (by omega)]
theorem nDigits_lt (n : Nat) : n < 10 ^ nDigits n := by
  induction n using Nat.strongRecOn with
  | _ n ih =>
    rw [nDigits]
    by_cases h : n < 10
    · rw [dif_pos h]; simpa using h
    · rw [dif_neg h, Nat.pow_succ]; have := ih (n / 10) (by omega); omega
theorem nDigits_le : ∀ k n, n < 10 ^ (k + 1) → nDigits n ≤ k + 1
  | 0, n, h => by rw [nDigits, dif_pos (by simpa using h)]; exact Nat.le_refl _
  | k + 1, n, h => by
    rw [nDigits]
    by_cases h' : n < 10
    · rw [dif_pos h']; omega
    · rw [dif_neg h']; have := nDigits_le k (n / 10) (by rw [Nat.pow_succ] at h; omega); omega
theorem nDigits_pos (n : Nat) : 1 ≤ nDigits n := by
  rw [nDigits]; split <;> omega
theorem repeat_one : ∀ k, repeatL [48] k = List.replicate k 48
  | 0 => rfl
  | k + 1 => by rw [repeatL, repeat_one k]; rfl
/-- With so many digits at least. -/
theorem padded_dg (n k : Nat) (h : n < 10 ^ (k + 1)) : repeatL [48] (k + 1 - (decDigits n).length) ++ decDigits n = dg (k + 1) n := by
  have h1 := nDigits_le k n h
  rw [decDigits_length, dec_dg, repeat_one, ← dg_more _ _ _ (nDigits_lt n)]
  congr 1; omega

/-- The reader's digits: as many as there are, so many at most. -/
def isD (b : UInt8) : Bool := decide (48 ≤ b.toNat ∧ b.toNat ≤ 57)
def rdl : Nat → List UInt8 → Nat → Nat → Nat × Nat × List UInt8
  | 0, s, n, c => (n, c, s)
  | _ + 1, [], n, c => (n, c, [])
  | k + 1, b :: r, n, c => if isD b = true then rdl k r (10 * n + (b.toNat - 48)) (c + 1) else (n, c, b :: r)

theorem digit_toNat (n : Nat) : (UInt8.ofNat (48 + n % 10)).toNat = 48 + n % 10 := by
  rw [UInt8.toNat_ofNat_of_lt' (by show _ < 256; omega)]
theorem digit_isD (n : Nat) : isD (UInt8.ofNat (48 + n % 10)) = true := by
  unfold isD; rw [digit_toNat]; simp; omega
theorem rdl_dg : ∀ k j n rest a c, n < 10 ^ k → rdl (k + j) (dg k n ++ rest) a c = rdl j rest (a * 10 ^ k + n) (c + k)
  | 0, j, n, rest, a, c, h => by
    obtain rfl : n = 0 := by simpa using h
    simp [dg]
  | k + 1, j, n, rest, a, c, h => by
    have ih := rdl_dg k (j + 1) (n / 10) (UInt8.ofNat (48 + n % 10) :: rest) a c (by rw [Nat.pow_succ] at h; omega)
    rw [show k + 1 + j = k + (j + 1) by omega, dg, List.append_assoc, List.singleton_append, ih, rdl, if_pos (digit_isD n), digit_toNat]
    have e : 10 * (a * 10 ^ k + n / 10) + (48 + n % 10 - 48) = a * 10 ^ (k + 1) + n := by
      have e1 : 10 * (a * 10 ^ k + n / 10) = a * 10 ^ (k + 1) + 10 * (n / 10) := by
        rw [Nat.mul_add, Nat.pow_succ, ← Nat.mul_assoc a, Nat.mul_comm (a * 10 ^ k) 10]
      omega
    rw [e]
    congr 1
/-- What stands behind digits. -/
def Stops (l : List UInt8) : Prop := ∀ b r, l = b :: r → isD b = false
theorem rdl_stop (j : Nat) (l : List UInt8) (n c : Nat) (h : Stops l) : rdl j l n c = (n, c, l) := by
  cases j with
  | zero => rfl
  | succ j =>
    cases l with
    | nil => rfl
    | cons b r => rw [rdl, if_neg (by rw [h b r rfl]; decide)]

/-- The reader: what is left, and whether something was bad. -/
abbrev St := List UInt8 × Bool
def rMust (p : List UInt8) (x : St) : St := (trimPrefix x.1 p, !hasPrefix x.1 p || x.2)
def rDig (lo hi : Nat) (x : St) : Nat × Nat × St := ((rdl hi x.1 0 0).1, (rdl hi x.1 0 0).2.1, ((rdl hi x.1 0 0).2.2, x.2 || decide ((rdl hi x.1 0 0).2.1 < lo)))
def rTwo (x : St) : Nat × St := ((rDig 2 2 x).1, (rDig 2 2 x).2.2)
def rFrac (x : St) : Nat × St :=
  if hasPrefix x.1 [46] = true then ((rDig 1 9 (trimPrefix x.1 [46], x.2)).1 * 10 ^ (9 - (rDig 1 9 (trimPrefix x.1 [46], x.2)).2.1), (rDig 1 9 (trimPrefix x.1 [46], x.2)).2.2)
  else (0, x)

theorem has_cons (b : UInt8) (r : List UInt8) : hasPrefix (b :: r) [b] = true := by simp [hasPrefix]
theorem trim_cons (b : UInt8) (r : List UInt8) : trimPrefix (b :: r) [b] = r := by simp [trimPrefix, has_cons]
theorem has_other (b c : UInt8) (r : List UInt8) (h : c ≠ b) : hasPrefix (b :: r) [c] = false := by simp [hasPrefix, List.isPrefixOf, h]
theorem trim_other (b c : UInt8) (r : List UInt8) (h : c ≠ b) : trimPrefix (b :: r) [c] = b :: r := by simp [trimPrefix, has_other b c r h]
theorem must_yes (b : UInt8) (r : List UInt8) (bad : Bool) : rMust [b] (b :: r, bad) = (r, bad) := by simp [rMust, has_cons, trim_cons]
theorem dig_dg (lo k n : Nat) (rest : List UInt8) (bad : Bool) (h : n < 10 ^ k) (hl : lo ≤ k) : rDig lo k (dg k n ++ rest, bad) = (n, k, (rest, bad)) := by
  have := rdl_dg k 0 n rest 0 0 h
  rw [Nat.add_zero] at this
  simp only [rDig, this, rdl]
  simp [Nat.not_lt.2 hl]
theorem two_dg (n : Nat) (rest : List UInt8) (bad : Bool) (h : n < 100) : rTwo (dg 2 n ++ rest, bad) = (n, (rest, bad)) := by
  simp [rTwo, dig_dg 2 2 n rest bad h (Nat.le_refl _)]
theorem dig_some (lo hi k n : Nat) (rest : List UInt8) (bad : Bool) (h : n < 10 ^ k) (hl : lo ≤ k) (hk : k ≤ hi) (hs : Stops rest) : rDig lo hi (dg k n ++ rest, bad) = (n, k, (rest, bad)) := by
  have := rdl_dg k (hi - k) n rest 0 0 h
  rw [show k + (hi - k) = hi by omega, rdl_stop _ _ _ _ hs] at this
  simp only [rDig, this]
  simp [Nat.not_lt.2 hl]

/-- Billionths as text. -/
def fracT (n : Nat) : List UInt8 := if n = 0 then [] else if n % 1000000 = 0 then 46 :: dg 3 (n / 1000000) else if n % 1000 = 0 then 46 :: dg 6 (n / 1000) else 46 :: dg 9 n
theorem frac_back (n : Nat) (rest : List UInt8) (bad : Bool) (h : n < 1000000000) (hs : Stops rest) (hd : hasPrefix rest [46] = false) : rFrac (fracT n ++ rest, bad) = (n, (rest, bad)) := by
  unfold fracT
  by_cases h0 : n = 0
  · rw [if_pos h0]; subst h0; simp [rFrac, hd]
  rw [if_neg h0]
  by_cases h1 : n % 1000000 = 0
  · rw [if_pos h1]
    simp only [rFrac, List.cons_append, has_cons, trim_cons, if_true]
    rw [dig_some 1 9 3 _ rest bad (by omega) (by omega) (by omega) hs]
    simp; omega
  rw [if_neg h1]
  by_cases h2 : n % 1000 = 0
  · rw [if_pos h2]
    simp only [rFrac, List.cons_append, has_cons, trim_cons, if_true]
    rw [dig_some 1 9 6 _ rest bad (by omega) (by omega) (by omega) hs]
    simp; omega
  rw [if_neg h2]
  simp only [rFrac, List.cons_append, has_cons, trim_cons, if_true]
  rw [dig_some 1 9 9 _ rest bad (by omega) (by omega) (by omega) hs]
  simp

/-- A time's text up to its zone. -/
def timeB (y m d h i e n : Nat) : List UInt8 :=
  dg 4 y ++ ([45] ++ dg 2 m) ++ ([45] ++ dg 2 d) ++ ([84] ++ dg 2 h) ++ ([58] ++ dg 2 i) ++ ([58] ++ dg 2 e) ++ fracT n

/-- One part of a date. -/
def rPart (sg : UInt8) (x : St) : Nat × St := rTwo (rMust [sg] x)
theorem part_dg (sg : UInt8) (n : Nat) (rest : List UInt8) (bad : Bool) (h : n < 100) : rPart sg ([sg] ++ dg 2 n ++ rest, bad) = (n, (rest, bad)) := by
  rw [List.singleton_append, List.cons_append, rPart, must_yes, two_dg n rest bad h]

/-- The zone. -/
def rSign (x : St) : Int × St := if hasPrefix x.1 [45] = true then (1, (trimPrefix x.1 [45], x.2)) else (-1, rMust [43] x)
def rZone2 (a : Int × St) : Int × St :=
  (a.1 * (((rTwo a.2).1 : Int) * 3600 + ((rTwo (rMust [58] ((rTwo a.2).2.1, (rTwo a.2).2.2 || decide (23 < (rTwo a.2).1)))).1 : Int) * 60),
    ((rTwo (rMust [58] ((rTwo a.2).2.1, (rTwo a.2).2.2 || decide (23 < (rTwo a.2).1)))).2.1,
     (rTwo (rMust [58] ((rTwo a.2).2.1, (rTwo a.2).2.2 || decide (23 < (rTwo a.2).1)))).2.2 || decide (59 < (rTwo (rMust [58] ((rTwo a.2).2.1, (rTwo a.2).2.2 || decide (23 < (rTwo a.2).1)))).1)))
def rZone (x : St) : Int × St := if hasPrefix x.1 [90] = true then (0, (trimPrefix x.1 [90], x.2)) else rZone2 (rSign x)

/-- What is read of a time's text. -/
structure Raw where
  y : Nat
  m : Nat
  d : Nat
  h : Nat
  i : Nat
  e : Nat
  n : Nat
  off : Int
  rest : St
def rRaw (s : List UInt8) : Raw :=
  let a0 := rDig 4 4 (s, false)
  let a1 := rPart 45 a0.2.2
  let a2 := rPart 45 a1.2
  let a3 := rPart 84 a2.2
  let a4 := rPart 58 a3.2
  let a5 := rPart 58 a4.2
  let a6 := rFrac a5.2
  let a7 := rZone a6.2
  ⟨a0.1, a1.1, a2.1, a3.1, a4.1, a5.1, a6.1, a7.1, a7.2⟩

def ofD (y m d h i e : Int) : Option Int :=
  if 1 ≤ y ∧ y ≤ 9999 ∧ 1 ≤ m ∧ m ≤ 12 ∧ 1 ≤ d ∧ d ≤ Cal.mlen y m ∧ 0 ≤ h ∧ h < 24 ∧ 0 ≤ i ∧ i < 60 ∧ 0 ≤ e ∧ e < 60 then some (86400 * Cal.dn y m d - 62135596800 + 3600 * h + 60 * i + e) else none
def okT (s n : Int) : Bool := decide (-62135596800 ≤ s ∧ s ≤ 253402300799 ∧ 0 ≤ n ∧ n < 1000000000)
def parseT (s : List UInt8) : Option (Int × Int) :=
  match ofD (rRaw s).y (rRaw s).m (rRaw s).d (rRaw s).h (rRaw s).i (rRaw s).e with
  | none => none
  | some t => if (rRaw s).rest.2 = false ∧ (rRaw s).rest.1 = [] ∧ okT (t + (rRaw s).off) (rRaw s).n = true then some (t + (rRaw s).off, ((rRaw s).n : Int)) else none

theorem raw_of (y m d h i e n : Nat) (off : Int) (tl : List UInt8) (hy : y < 10000) (hm : m < 100) (hd : d < 100) (hh : h < 100) (hi : i < 100) (he : e < 100) (hn : n < 1000000000)
    (hs : Stops tl) (hp : hasPrefix tl [46] = false) (hz : rZone (tl, false) = (off, ([], false))) : rRaw (timeB y m d h i e n ++ tl) = ⟨y, m, d, h, i, e, n, off, ([], false)⟩ := by
  have e0 : timeB y m d h i e n ++ tl = dg 4 y ++ ([45] ++ dg 2 m ++ ([45] ++ dg 2 d ++ ([84] ++ dg 2 h ++ ([58] ++ dg 2 i ++ ([58] ++ dg 2 e ++ (fracT n ++ tl)))))) := by
    simp only [timeB, List.append_assoc]
  unfold rRaw
  rw [e0]
  simp only [dig_dg 4 4 y _ false hy (Nat.le_refl _), part_dg 45 m _ false hm, part_dg 45 d _ false hd, part_dg 84 h _ false hh, part_dg 58 i _ false hi, part_dg 58 e _ false he, frac_back n tl false hn hs hp, hz]

theorem ofD_date {s y m d h i e : Int} (a : Cal.DateOf s y m d h i e) : ofD y m d h i e = some s := by
  obtain ⟨⟨b1, b2, b3, b4, b5, b6⟩, a1, a2, a3, a4, a5, a6, a7⟩ := a
  unfold ofD
  rw [if_pos ⟨b1, b2, b3, b4, b5, b6, a1, a2, a3, a4, a5, a6⟩]
  congr 1; omega

/-- A text with a zone, read. -/
theorem parse_zone {s : Int} {y m d h i e n : Nat} (a : Cal.DateOf s y m d h i e) (hn : n < 1000000000) (off : Int) (tl : List UInt8)
    (hs : Stops tl) (hp : hasPrefix tl [46] = false) (hz : rZone (tl, false) = (off, ([], false))) :
    parseT (timeB y m d h i e n ++ tl) = if okT (s + off) n = true then some (s + off, (n : Int)) else none := by
  have b := a.date
  have hl := Cal.mlen_bd (y : Int) (m : Int)
  have hr := raw_of y m d h i e n off tl (by have := b.y2; omega) (by have := b.m2; omega) (by have := b.d2; omega) (by have := a.h2; omega) (by have := a.i2; omega) (by have := a.e2; omega) hn hs hp hz
  unfold parseT
  rw [hr]
  simp only [ofD_date a, true_and]

theorem stops_cons (b : UInt8) (r : List UInt8) (h : isD b = false) : Stops (b :: r) := fun c t e => by
  injection e with e1 e2; subst e1; exact h
theorem zone_z : rZone ([90], false) = (0, ([], false)) := by decide
theorem zone_more (h m : Nat) (hh : h < 24) (hm : m < 60) : rZone ([43] ++ dg 2 h ++ ([58] ++ dg 2 m), false) = (-((h : Int) * 3600 + (m : Int) * 60), ([], false)) := by
  simp only [List.cons_append, List.nil_append]
  have e1 := two_dg h (58 :: dg 2 m) false (by omega)
  have e2 := two_dg m [] false (by omega)
  rw [List.append_nil] at e2
  simp only [rZone, has_other 43 90 _ (by decide), rSign, has_other 43 45 _ (by decide), must_yes, rZone2, e1, Bool.false_or, decide_eq_false (show ¬ 23 < h by omega), e2, decide_eq_false (show ¬ 59 < m by omega), if_false, Bool.false_eq_true]
  congr 1; omega
theorem zone_less (h m : Nat) (hh : h < 24) (hm : m < 60) : rZone ([45] ++ dg 2 h ++ ([58] ++ dg 2 m), false) = ((h : Int) * 3600 + (m : Int) * 60, ([], false)) := by
  simp only [List.cons_append, List.nil_append]
  have e1 := two_dg h (58 :: dg 2 m) false (by omega)
  have e2 := two_dg m [] false (by omega)
  rw [List.append_nil] at e2
  simp only [rZone, has_other 45 90 _ (by decide), rSign, has_cons, trim_cons, rZone2, e1, Bool.false_or, decide_eq_false (show ¬ 23 < h by omega), must_yes, e2, decide_eq_false (show ¬ 59 < m by omega), if_false, if_true, Bool.false_eq_true]
  congr 1; omega

/-- A time's text, read back. -/
theorem parse_back {s : Int} {y m d h i e n : Nat} (a : Cal.DateOf s y m d h i e) (hn : n < 1000000000) : parseT (timeB y m d h i e n ++ [90]) = some (s, (n : Int)) := by
  rw [parse_zone a hn 0 [90] (stops_cons _ _ (by decide)) (by decide) zone_z]
  have := a.bd
  rw [if_pos (by unfold okT; simp; omega)]
  simp

/-- Spans. -/
def okS (s n : Int) : Bool := decide (-315576000000 ≤ s ∧ s ≤ 315576000000 ∧ -1000000000 < n ∧ n < 1000000000 ∧ ¬ (s < 0 ∧ 0 < n) ∧ ¬ (0 < s ∧ n < 0))
def spanT (s n : Int) : List UInt8 := (if s < 0 ∨ n < 0 then [45] else []) ++ (decDigits s.natAbs ++ (fracT n.natAbs ++ [115]))
def rSpan (x : Int × List UInt8) : Int × Int × St :=
  let a := rDig 1 12 (x.2, false)
  let b := rFrac a.2.2
  (x.1 * (a.1 : Int), x.1 * (b.1 : Int), rMust [115] b.2)
def parseS (s : List UInt8) : Option (Int × Int) :=
  let r := rSpan (if hasPrefix s [45] = true then -1 else 1, trimPrefix s [45])
  if r.2.2.2 = false ∧ r.2.2.1 = [] ∧ okS r.1 r.2.1 = true then some (r.1, r.2.1) else none

theorem dec_isD (n : Nat) : ∃ b r, decDigits n = b :: r ∧ isD b = true := by
  rw [dec_dg]
  obtain ⟨k, hk⟩ : ∃ k, nDigits n = k + 1 := ⟨nDigits n - 1, by have := nDigits_pos n; omega⟩
  rw [hk]
  clear hk
  induction k generalizing n with
  | zero => exact ⟨_, _, rfl, digit_isD n⟩
  | succ k ih =>
    obtain ⟨b, r, h1, h2⟩ := ih (n / 10)
    exact ⟨b, r ++ [UInt8.ofNat (48 + n % 10)], by rw [dg, h1]; rfl, h2⟩
theorem stops_frac (n : Nat) : Stops (fracT n ++ [115]) := by
  unfold fracT
  repeat' split
  · exact stops_cons _ _ (by decide)
  · exact stops_cons _ _ (by decide)
  · exact stops_cons _ _ (by decide)
  · exact stops_cons _ _ (by decide)
theorem span_read (sg : Int) (a b : Nat) (ha : a ≤ 315576000000) (hb : b < 1000000000) : rSpan (sg, decDigits a ++ (fracT b ++ [115])) = (sg * (a : Int), sg * (b : Int), ([], false)) := by
  unfold rSpan
  have h12 := nDigits_le 11 a (by omega)
  have h1 := nDigits_pos a
  rw [dec_dg]
  simp only [dig_some 1 12 (nDigits a) a _ false (nDigits_lt a) h1 h12 (stops_frac b), frac_back b [115] false hb (stops_cons _ _ (by decide)) (by decide), must_yes]

theorem span_back {s n : Int} (h : okS s n = true) : parseS (spanT s n) = some (s, n) := by
  have hv := of_decide_eq_true h
  unfold parseS spanT
  obtain ⟨c, r, hc, hd⟩ := dec_isD s.natAbs
  by_cases hneg : s < 0 ∨ n < 0
  · rw [if_pos hneg, List.singleton_append]
    simp only [has_cons, trim_cons, if_true, span_read (-1) s.natAbs n.natAbs (by omega) (by omega)]
    have e1 : (-1 : Int) * (s.natAbs : Int) = s := by omega
    have e2 : (-1 : Int) * (n.natAbs : Int) = n := by omega
    rw [e1, e2, h]
    simp
  · rw [if_neg hneg, List.nil_append]
    have hne : (45 : UInt8) ≠ c := fun e => by subst e; exact absurd hd (by decide)
    have hp : hasPrefix (decDigits s.natAbs ++ (fracT n.natAbs ++ [115])) [45] = false := by rw [hc, List.cons_append]; exact has_other _ _ _ hne
    have ht : trimPrefix (decDigits s.natAbs ++ (fracT n.natAbs ++ [115])) [45] = decDigits s.natAbs ++ (fracT n.natAbs ++ [115]) := by unfold trimPrefix; rw [hp]; simp
    rw [hp, ht]
    simp only [Bool.false_eq_true, if_false, span_read 1 s.natAbs n.natAbs (by omega) (by omega)]
    have e1 : (1 : Int) * (s.natAbs : Int) = s := by omega
    have e2 : (1 : Int) * (n.natAbs : Int) = n := by omega
    rw [e1, e2, h]
    simp

end Go.Own.Dig
