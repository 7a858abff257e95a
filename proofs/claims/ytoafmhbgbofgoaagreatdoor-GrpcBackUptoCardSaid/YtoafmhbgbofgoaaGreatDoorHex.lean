/-
  Plain laws: texts by hundreds, and back. No program.
-/
namespace Go.Own.Grpc
/-- A hexadecimal digit's value; 99: it is none. -/
def nib (c : Nat) : Nat := if 48 ≤ c ∧ c ≤ 57 then c - 48 else if 97 ≤ c ∧ c ≤ 102 then c - 87 else if 65 ≤ c ∧ c ≤ 70 then c - 55 else 99
def isH (c : UInt8) : Bool := decide (nib c.toNat < 16)
/-- The text that a text by hundreds says. -/
def unp : List UInt8 → List UInt8
  | c :: a :: b :: r => if c = 37 ∧ isH a = true ∧ isH b = true then UInt8.ofNat (16 * nib a.toNat + nib b.toNat) :: unp r else c :: unp (a :: b :: r)
  | l => l
theorem unp_short' (l : List UInt8) (h : l.length < 3) : unp l = l := by
  match l, h with
  | [], _ => simp [unp]
  | [_], _ => simp [unp]
  | [_, _], _ => simp [unp]
theorem unp_cons (c : UInt8) (r : List UInt8) (h : c ≠ 37) : unp (c :: r) = c :: unp r := by
  match r with
  | [] => simp [unp]
  | [a] => simp [unp]
  | a :: b :: r' =>
    rw [unp, if_neg (fun h' => h h'.1)]
theorem unp_hex (a b : UInt8) (r : List UInt8) (ha : isH a = true) (hb : isH b = true) : unp (37 :: a :: b :: r) = UInt8.ofNat (16 * nib a.toNat + nib b.toNat) :: unp r := by
  rw [unp, if_pos ⟨rfl, ha, hb⟩]
theorem unp_not (a b : UInt8) (r : List UInt8) (h : ¬ (isH a = true ∧ isH b = true)) : unp (37 :: a :: b :: r) = 37 :: unp (a :: b :: r) := by
  rw [unp, if_neg (fun h' => h h'.2)]
theorem unp_short (c : UInt8) (r : List UInt8) (h : r.length < 2) : unp (c :: r) = c :: unp r := by
  rw [unp_short' _ (by simp; omega), unp_short' _ (by omega)]
def gr (n : Nat) : UInt8 := if n < 10 then UInt8.ofNat (48 + n) else UInt8.ofNat (55 + n)
def plainB (c : UInt8) : Bool := decide (32 ≤ c.toNat ∧ c.toNat ≤ 126 ∧ c.toNat ≠ 37)
def pcB (c : UInt8) : List UInt8 := if plainB c then [c] else [37, gr (c.toNat / 16), gr (c.toNat % 16)]
/-- A text by hundreds. -/
def pct : List UInt8 → List UInt8
  | [] => []
  | c :: r => pcB c ++ pct r
theorem pct_append (a b : List UInt8) : pct (a ++ b) = pct a ++ pct b := by
  induction a with
  | nil => rfl
  | cons c r ih => simp [pct, ih]
theorem pcB_plain : ∀ n < 256, ∀ x ∈ pcB (UInt8.ofNat n), 32 ≤ x.toNat ∧ x.toNat ≤ 126 := by decide +kernel
theorem pcB_len : ∀ n < 256, (pcB (UInt8.ofNat n)).length ≤ 3 ∧ 1 ≤ (pcB (UInt8.ofNat n)).length := by decide +kernel
theorem gr_hex : ∀ n < 16, isH (gr n) = true ∧ nib (gr n).toNat = n := by decide +kernel
theorem ofNat_toNat (c : UInt8) : UInt8.ofNat c.toNat = c := UInt8.ofNat_toNat
theorem pct_plain (l : List UInt8) : ∀ x ∈ pct l, 32 ≤ x.toNat ∧ x.toNat ≤ 126 := by
  induction l with
  | nil => intro x hx; cases hx
  | cons c r ih =>
    intro x hx
    rcases List.mem_append.1 hx with h | h
    · have := pcB_plain c.toNat c.toNat_lt
      rw [ofNat_toNat] at this
      exact this x h
    · exact ih x h
theorem pct_len (l : List UInt8) : (pct l).length ≤ 3 * l.length := by
  induction l with
  | nil => simp [pct]
  | cons c r ih =>
    have := pcB_len c.toNat c.toNat_lt
    rw [ofNat_toNat] at this
    simp [pct]
    omega
/-- What was written is read back. -/
theorem unp_pct (l : List UInt8) : unp (pct l) = l := by
  induction l with
  | nil => simp [pct, unp]
  | cons c r ih =>
    unfold pct pcB
    by_cases h : plainB c = true
    · rw [if_pos h]
      have hc : c ≠ 37 := by
        rintro rfl
        exact absurd h (by decide)
      simp only [List.singleton_append]
      rw [unp_cons _ _ hc, ih]
    · rw [if_neg h]
      simp only [List.cons_append, List.nil_append]
      have hc := c.toNat_lt
      obtain ⟨h1, n1⟩ := gr_hex (c.toNat / 16) (by omega)
      obtain ⟨h2, n2⟩ := gr_hex (c.toNat % 16) (by omega)
      rw [unp_hex _ _ _ h1 h2, ih, n1, n2, show 16 * (c.toNat / 16) + c.toNat % 16 = c.toNat by omega, ofNat_toNat]
theorem unp_len (n : Nat) : ∀ l : List UInt8, l.length ≤ n → (unp l).length ≤ l.length := by
  induction n with
  | zero => intro l h; have h0 : l = [] := List.eq_nil_of_length_eq_zero (by omega); subst h0; simp [unp]
  | succ n ih =>
    intro l h
    match l, h with
    | [], _ => simp [unp]
    | [_], _ => simp [unp]
    | [_, _], _ => simp [unp]
    | c :: a :: b :: r, h =>
      rw [unp]
      split
      · have := ih r (by simp at h; omega)
        simp; omega
      · have := ih (a :: b :: r) (by simp at h ⊢; omega)
        simp at this ⊢; omega
/-- The digits of the small letter. -/
theorem low_dig (n : Nat) (h : 48 ≤ n ∧ n ≤ 57) : nib n = n - 48 := by unfold nib; rw [if_pos h]
theorem low_lt : ∀ n < 256, (n ||| 32) < 256 := by decide +kernel
theorem low_let : ∀ n < 256, (decide (48 ≤ n ∧ n ≤ 57) || (decide (97 ≤ (n ||| 32) ∧ (n ||| 32) ≤ 102) && decide (nib n = (n ||| 32) - 87)) || (!decide (97 ≤ (n ||| 32) ∧ (n ||| 32) ≤ 102) && decide (nib n = 99))) = true := by decide +kernel
theorem low_yes (n : Nat) (h : n < 256) (h0 : ¬ (48 ≤ n ∧ n ≤ 57)) (h1 : 97 ≤ (n ||| 32)) (h2 : (n ||| 32) ≤ 102) : nib n = (n ||| 32) - 87 := by
  have := low_let n h
  simp only [decide_eq_false h0, Bool.false_or, decide_eq_true (show 97 ≤ (n ||| 32) ∧ (n ||| 32) ≤ 102 from ⟨h1, h2⟩)] at this
  simpa using this
theorem low_no (n : Nat) (h : n < 256) (h0 : ¬ (48 ≤ n ∧ n ≤ 57)) (h1 : ¬ (97 ≤ (n ||| 32) ∧ (n ||| 32) ≤ 102)) : nib n = 99 := by
  have := low_let n h
  simp only [decide_eq_false h0, Bool.false_or, decide_eq_false h1] at this
  simpa using this
end Go.Own.Grpc
