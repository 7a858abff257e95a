/-
  The plain laws of chapter 1: what numbers, tags and records are as lists of bytes, with no program in sight.
-/
import Derived.Test.YtnahkhiomnkbcaaDoorBase
namespace Go.Own.Wire
open Go.Own

/-- What a number is, from byte i on; u: what was read ahead. -/
def uvarF : List UInt8 → Nat → Nat → Except Nat (Nat × Nat)
  | [], _, _ => .error 101
  | c :: r, i, u =>
    if i = 9 ∧ 1 < c.toNat then .error 102
    else if c.toNat < 128 then .ok (u + c.toNat * 2 ^ (7 * i), i + 1)
    else uvarF r (i + 1) (u + (c.toNat - 128) * 2 ^ (7 * i))
def uvar (l : List UInt8) : Except Nat (Nat × Nat) := uvarF l 0 0

theorem uvarF_nil (i u : Nat) : uvarF [] i u = .error 101 := rfl
theorem uvarF_cons (c : UInt8) (r : List UInt8) (i u : Nat) : uvarF (c :: r) i u = if i = 9 ∧ 1 < c.toNat then .error 102 else if c.toNat < 128 then .ok (u + c.toNat * 2 ^ (7 * i), i + 1) else uvarF r (i + 1) (u + (c.toNat - 128) * 2 ^ (7 * i)) := rfl

theorem drop_at (l : List UInt8) (k : Nat) (h : k < l.length) : l.drop k = l.getD k 0 :: l.drop (k + 1) := by
  rw [List.drop_eq_getElem_cons h]; simp [List.getD, h]

/-- Taking up seven bits more. -/
theorem bits_u64_or (u x k : Nat) (hx : x < 128) (hk : 7 * k + 7 ≤ 63 ∨ (k ≤ 9 ∧ x ≤ 1)) (hu : u < 2 ^ (7 * k)) :
    bits .or .u64 (u : Int) (IntKind.u64.wrap ((x : Int) * 2 ^ (7 * k))) = ((u + x * 2 ^ (7 * k) : Nat) : Int) := by
  have hb : x * 2 ^ (7 * k) + 2 ^ (7 * k) ≤ 18446744073709551616 := by
    rcases hk with hk | ⟨hk, hx⟩
    · have h1 : x * 2 ^ (7 * k) + 2 ^ (7 * k) ≤ 128 * 2 ^ (7 * k) := by
        have := Nat.mul_le_mul_right (2 ^ (7 * k)) (show x + 1 ≤ 128 by omega)
        rw [Nat.add_mul, Nat.one_mul] at this; exact this
      have h2 : 128 * 2 ^ (7 * k) = 2 ^ (7 * k + 7) := by rw [Nat.pow_add, Nat.mul_comm]
      have h3 : 2 ^ (7 * k + 7) ≤ 2 ^ 63 := Nat.pow_le_pow_right (by decide) hk
      have h4 : (2 : Nat) ^ 63 = 9223372036854775808 := by decide
      omega
    · have h1 : x * 2 ^ (7 * k) + 2 ^ (7 * k) ≤ 2 * 2 ^ (7 * k) := by
        have := Nat.mul_le_mul_right (2 ^ (7 * k)) (show x + 1 ≤ 2 by omega)
        rw [Nat.add_mul, Nat.one_mul] at this; exact this
      have h2 : 2 * 2 ^ (7 * k) = 2 ^ (7 * k + 1) := by rw [Nat.pow_succ, Nat.mul_comm]
      have h3 : 2 ^ (7 * k + 1) ≤ 2 ^ 64 := Nat.pow_le_pow_right (by decide) (by omega)
      have h4 : (2 : Nat) ^ 64 = 18446744073709551616 := by decide
      omega
  have e1 : ((x : Int) * 2 ^ (7 * k)) = ((x * 2 ^ (7 * k) : Nat) : Int) := by simp
  rw [e1]
  have hpos : 0 < 2 ^ (7 * k) := Nat.pow_pos (by decide)
  have e2 : IntKind.u64.wrap (((x * 2 ^ (7 * k) : Nat)) : Int) = ((x * 2 ^ (7 * k) : Nat) : Int) := by
    rw [IntKind.wrap_u64]; omega
  rw [e2, u64_or_nat _ _ (by omega) (by omega)]
  congr 1
  have := Nat.two_pow_add_eq_or_of_lt hu x
  rw [Nat.or_comm, Nat.mul_comm x, ← this, Nat.add_comm]

theorem bits_u8_and127 (x : Nat) (hx : x < 256) : bits .and .u8 (x : Int) 127 = ((x % 128 : Nat) : Int) := by
  have := u8_and_nat x 127 hx (by decide)
  rw [show ((127 : Nat) : Int) = 127 from rfl] at this
  rw [this]
  congr 1
  exact Nat.and_two_pow_sub_one_eq_mod x 7
theorem wrap_u64_small (x : Nat) (hx : x < 256) : IntKind.u64.wrap (x : Int) = (x : Int) := by rw [IntKind.wrap_u64]; omega

theorem uv_step (u x k : Nat) (hx : x < 256) (hk : k ≤ 8 ∨ (k ≤ 9 ∧ x ≤ 1)) (hu : u < 2 ^ (7 * k)) :
    bits .or .u64 (u : Int) (IntKind.u64.wrap (IntKind.u64.wrap (bits .and .u8 (x : Int) 127) * 2 ^ (7 * k))) = ((u + (x % 128) * 2 ^ (7 * k) : Nat) : Int) := by
  rw [bits_u8_and127 x hx, wrap_u64_small _ (by omega)]
  exact bits_u64_or u (x % 128) k (by omega) (by omega) hu

theorem uv_lt (u x k : Nat) (hu : u < 2 ^ (7 * k)) (hx : x < 128) : u + x * 2 ^ (7 * k) < 2 ^ (7 * (k + 1)) := by
  have h1 : x * 2 ^ (7 * k) + 2 ^ (7 * k) ≤ 128 * 2 ^ (7 * k) := by
    have := Nat.mul_le_mul_right (2 ^ (7 * k)) (show x + 1 ≤ 128 by omega)
    rw [Nat.add_mul, Nat.one_mul] at this; exact this
  have h2 : 128 * 2 ^ (7 * k) = 2 ^ (7 * (k + 1)) := by rw [show 7 * (k + 1) = 7 * k + 7 by omega, Nat.pow_add, Nat.mul_comm]
  omega

/-- What a number that was read is. -/
theorem uvarF_ok {l : List UInt8} : ∀ {i u v n : Nat}, uvarF l i u = .ok (v, n) → i ≤ 9 → u < 2 ^ (7 * i) → i < n ∧ n ≤ i + l.length ∧ n ≤ 10 ∧ v < 18446744073709551616 := by
  induction l with
  | nil => intro i u v n h; simp [uvarF] at h
  | cons c r ih =>
    intro i u v n h hi hu
    rw [uvarF_cons] at h
    have hc := c.toNat_lt
    split at h
    · cases h
    · rename_i h9
      split at h
      · rename_i hc'
        simp only [Except.ok.injEq, Prod.mk.injEq] at h
        obtain ⟨rfl, rfl⟩ := h
        refine ⟨by omega, by simp, by omega, ?_⟩
        by_cases h9' : i = 9
        · subst h9'
          have : c.toNat ≤ 1 := by omega
          have h1 : c.toNat * 2 ^ (7 * 9) ≤ 1 * 2 ^ (7 * 9) := Nat.mul_le_mul_right _ this
          have h2 : (2 : Nat) ^ (7 * 9) = 9223372036854775808 := by decide
          omega
        · have h1 := uv_lt u c.toNat i hu hc'
          have h2 : 2 ^ (7 * (i + 1)) ≤ 2 ^ 63 := Nat.pow_le_pow_right (by decide) (by omega)
          have h3 : (2 : Nat) ^ 63 = 9223372036854775808 := by decide
          omega
      · rename_i hc'
        have := ih h (by omega) (uv_lt u (c.toNat - 128) i hu (by omega))
        simp only [List.length_cons]
        omega
theorem uvar_ok {l : List UInt8} {v n : Nat} (h : uvar l = .ok (v, n)) : 0 < n ∧ n ≤ l.length ∧ n ≤ 10 ∧ v < 18446744073709551616 := by
  have := uvarF_ok h (by omega) (by simp)
  omega
theorem uvarF_err {l : List UInt8} : ∀ {i u k : Nat}, uvarF l i u = .error k → k = 101 ∨ k = 102 := by
  induction l with
  | nil => intro i u k h; simp [uvarF] at h; exact .inl h.symm
  | cons c r ih =>
    intro i u k h
    rw [uvarF_cons] at h
    split at h
    · simp only [Except.error.injEq] at h; exact .inr h.symm
    · split at h
      · cases h
      · exact ih h

/-- A tag: field and kind. -/
def untag (u : Nat) : Except Nat (Nat × Nat) :=
  if u / 8 < 1 ∨ 536870911 < u / 8 ∨ 5 < u % 8 then .error 103 else .ok (u / 8, u % 8)
/-- field, kind, bytes -/
def tagOf (l : List UInt8) : Except Nat (Nat × Nat × Nat) :=
  match uvar l with
  | .error k => .error k
  | .ok (u, n) => match untag u with
    | .error k => .error k
    | .ok (f, d) => .ok (f, d, n)


/-- The bytes of a number. -/
def vencF : Nat → Nat → List UInt8
  | 0, u => [UInt8.ofNat u]
  | k + 1, u => if u < 128 then [UInt8.ofNat u] else UInt8.ofNat (u % 128 + 128) :: vencF k (u / 128)
def venc (u : Nat) : List UInt8 := vencF 9 u

theorem vencF_small (k u : Nat) (h : u < 128) : vencF k u = [UInt8.ofNat u] := by
  cases k with
  | zero => rfl
  | succ k => show (if u < 128 then _ else _) = _; rw [if_pos h]
theorem vencF_big (k u : Nat) (h : ¬ u < 128) : vencF (k + 1) u = UInt8.ofNat (u % 128 + 128) :: vencF k (u / 128) := by
  show (if u < 128 then _ else _) = _; rw [if_neg h]
theorem vencF_len (k u : Nat) : 1 ≤ (vencF k u).length ∧ (vencF k u).length ≤ k + 1 := by
  induction k generalizing u with
  | zero => simp [vencF]
  | succ k ih =>
    by_cases h : u < 128
    · rw [vencF_small _ _ h]; simp
    · rw [vencF_big _ _ h]; have := ih (u / 128); simp only [List.length_cons]; omega
theorem venc_len (u : Nat) : 1 ≤ (venc u).length ∧ (venc u).length ≤ 10 := vencF_len 9 u

theorem byte_u8 (u : Nat) (h : u < 256) : ((UInt8.ofNat u).toNat : Int) = (u : Int) := by
  rw [UInt8.toNat_ofNat_of_lt' (by simpa using h)]
theorem byte_low (u : Nat) (h : u < 128) : IntKind.u8.wrap (u : Int) = ((UInt8.ofNat u).toNat : Int) := by
  rw [byte_u8 u (by omega), IntKind.wrap_u8]; omega
theorem byte_or' (u : Nat) (h : bits .or .u8 (IntKind.u8.wrap (u : Int)) 128 = ((UInt8.ofNat (u % 128 + 128)).toNat : Int)) : bits .or .u8 ((u : Int) % 256) 128 = ((UInt8.ofNat (u % 128 + 128)).toNat : Int) := by
  rw [IntKind.wrap_u8] at h; exact h
theorem byte_or (u : Nat) : bits .or .u8 (IntKind.u8.wrap (u : Int)) 128 = ((UInt8.ofNat (u % 128 + 128)).toNat : Int) := by
  rw [byte_u8 _ (by omega), IntKind.wrap_u8]
  have e : (u : Int) % 256 = ((u % 256 : Nat) : Int) := by omega
  rw [e]
  have h := u8_or_nat (u % 256) 128 (by omega) (by decide)
  rw [show ((128 : Nat) : Int) = 128 from rfl] at h
  rw [h]
  congr 1
  by_cases hlt : u % 256 < 128
  · have h1 := Nat.two_pow_add_eq_or_of_lt (i := 7) (b := u % 256) hlt 1
    rw [Nat.or_comm, show (128 : Nat) = 2 ^ 7 * 1 from rfl, ← h1]
    omega
  · have h2 : u % 256 = 2 ^ 7 * 1 + (u % 256 - 128) := by omega
    have h1 := Nat.two_pow_add_eq_or_of_lt (i := 7) (b := u % 256 - 128) (by omega) 1
    rw [h2, h1, Nat.or_assoc, Nat.or_comm (u % 256 - 128), ← Nat.or_assoc, show (128 : Nat) = 2 ^ 7 * 1 from rfl, Nat.or_self, ← h1]
    omega


/-- So many bytes, the lowest first. -/
def leF : List UInt8 → Nat
  | [] => 0
  | c :: r => c.toNat + 256 * leF r
def le (n : Nat) (l : List UInt8) : Nat := leF (l.take n)

/-- What a record holds: a number, bytes, and how many bytes it takes. -/
abbrev Held := Nat × List UInt8 × Nat

/-- The kinds that hold no records. -/
def leaf (k : Nat) (l : List UInt8) (g : Except Nat Held) : Except Nat Held :=
  if k = 0 then match uvar l with
    | .error e => .error e
    | .ok (u, n) => .ok (u, [], n)
  else if k = 1 then (if l.length < 8 then .error 101 else .ok (le 8 l, [], 8))
  else if k = 5 then (if l.length < 4 then .error 101 else .ok (le 4 l, [], 4))
  else if k = 2 then match uvar l with
    | .error e => .error e
    | .ok (u, n) => if l.length - n < u then .error 101 else .ok (0, (l.drop n).take u, n + u)
  else g

/-- A group, from a place on; W reads what is in it. -/
def grpLoop (W : Nat → Nat → List UInt8 → Except Nat Held) (field : Nat) (l : List UInt8) : Nat → Nat → Except Nat Held
  | 0, _ => .error 101
  | fuel + 1, at_ =>
    match tagOf (l.drop at_) with
    | .error e => .error e
    | .ok (f, k, n) =>
      if k = 4 then (if f = field then .ok (0, l.take at_, at_ + n) else .error 104)
      else match W k f (l.drop (at_ + n)) with
        | .error e => .error e
        | .ok (_, _, m) => grpLoop W field l fuel (at_ + (n + m))

/-- What a record of kind k holds, with d groups more let. -/
def way : Nat → Nat → Nat → List UInt8 → Except Nat Held
  | 0, k, _, l => leaf k l (.error 105)
  | d + 1, k, f, l => leaf k l (grpLoop (way d) f l (l.length + 1) 0)

structure Rec where
  field : Nat
  kind : Nat
  u : Nat
  b : List UInt8

/-- The record that bytes begin with. -/
def next (l : List UInt8) : Except Nat (Rec × Nat) :=
  match tagOf l with
  | .error e => .error e
  | .ok (f, k, n) =>
    if k = 4 then .error 104
    else match way 32 k f (l.drop n) with
      | .error e => .error e
      | .ok (u, b, m) => .ok (⟨f, k, u, b⟩, n + m)

theorem tagOf_le {l : List UInt8} {f k n : Nat} (h : tagOf l = .ok (f, k, n)) : 1 ≤ f ∧ f ≤ 536870911 ∧ k ≤ 5 ∧ 1 ≤ n ∧ n ≤ l.length ∧ n ≤ 10 := by
  unfold tagOf at h
  rcases hu : uvar l with e | ⟨u, m⟩ <;> rw [hu] at h
  · cases h
  · simp only at h
    have hb := uvar_ok hu
    unfold untag at h
    split at h
    · cases h
    · rename_i h1
      split at h1
      · cases h1
      · simp only [Except.ok.injEq, Prod.mk.injEq] at h h1
        omega

theorem leaf_le {k : Nat} {l : List UInt8} {g : Except Nat Held} {u m : Nat} {b : List UInt8} (hg : ∀ u b m, g = .ok (u, b, m) → m ≤ l.length) (h : leaf k l g = .ok (u, b, m)) : m ≤ l.length := by
  unfold leaf at h
  split at h
  · rcases hu : uvar l with e | ⟨v, n⟩ <;> rw [hu] at h
    · cases h
    · have := uvar_ok hu
      simp only [Except.ok.injEq, Prod.mk.injEq] at h
      omega
  · split at h
    · split at h
      · cases h
      · simp only [Except.ok.injEq, Prod.mk.injEq] at h; omega
    · split at h
      · split at h
        · cases h
        · simp only [Except.ok.injEq, Prod.mk.injEq] at h; omega
      · split at h
        · rcases hu : uvar l with e | ⟨v, n⟩ <;> rw [hu] at h
          · cases h
          · have := uvar_ok hu
            simp only at h
            split at h
            · cases h
            · simp only [Except.ok.injEq, Prod.mk.injEq] at h; omega
        · exact hg u b m h

theorem grpLoop_le {W : Nat → Nat → List UInt8 → Except Nat Held} (hW : ∀ k f l u b m, W k f l = .ok (u, b, m) → m ≤ l.length) {field : Nat} {l : List UInt8} :
    ∀ (fuel at_ u : Nat) (b : List UInt8) (m : Nat), at_ ≤ l.length → grpLoop W field l fuel at_ = .ok (u, b, m) → m ≤ l.length := by
  intro fuel
  induction fuel with
  | zero => intro at_ u b m _ h; cases h
  | succ fuel ih =>
    intro at_ u b m ha h
    unfold grpLoop at h
    rcases ht : tagOf (l.drop at_) with e | ⟨f, k, n⟩ <;> rw [ht] at h
    · cases h
    · have hn := tagOf_le ht
      simp only [List.length_drop] at hn
      simp only at h
      split at h
      · split at h
        · simp only [Except.ok.injEq, Prod.mk.injEq] at h; omega
        · cases h
      · rcases hw : W k f (l.drop (at_ + n)) with e | ⟨u', b', m'⟩ <;> rw [hw] at h
        · cases h
        · have := hW _ _ _ _ _ _ hw
          simp only [List.length_drop] at this
          exact ih _ u b m (by omega) h

theorem way_le (d : Nat) : ∀ (k f : Nat) (l : List UInt8) (u : Nat) (b : List UInt8) (m : Nat), way d k f l = .ok (u, b, m) → m ≤ l.length := by
  induction d with
  | zero => intro k f l u b m h; exact leaf_le (fun _ _ _ h => by cases h) h
  | succ d ih => intro k f l u b m h; exact leaf_le (fun u b m h => grpLoop_le ih _ _ u b m (Nat.zero_le _) h) h

theorem grpLoop_tagErr {W : Nat → Nat → List UInt8 → Except Nat Held} {field fuel at_ e : Nat} {l : List UInt8} (h : tagOf (l.drop at_) = .error e) : grpLoop W field l (fuel + 1) at_ = .error e := by
  rw [grpLoop, h]
theorem grpLoop_end {W : Nat → Nat → List UInt8 → Except Nat Held} {field fuel at_ n : Nat} {l : List UInt8} (h : tagOf (l.drop at_) = .ok (field, 4, n)) : grpLoop W field l (fuel + 1) at_ = .ok (0, l.take at_, at_ + n) := by
  rw [grpLoop, h]; simp
theorem grpLoop_other {W : Nat → Nat → List UInt8 → Except Nat Held} {field f fuel at_ n : Nat} {l : List UInt8} (h : tagOf (l.drop at_) = .ok (f, 4, n)) (hf : f ≠ field) : grpLoop W field l (fuel + 1) at_ = .error 104 := by
  rw [grpLoop, h]; simp [hf]
theorem grpLoop_inErr {W : Nat → Nat → List UInt8 → Except Nat Held} {field f k fuel at_ n e : Nat} {l : List UInt8} (h : tagOf (l.drop at_) = .ok (f, k, n)) (hk : k ≠ 4) (hw : W k f (l.drop (at_ + n)) = .error e) : grpLoop W field l (fuel + 1) at_ = .error e := by
  rw [grpLoop, h]; simp [hk, hw]
theorem grpLoop_in {W : Nat → Nat → List UInt8 → Except Nat Held} {field f k fuel at_ n u m : Nat} {b l : List UInt8} (h : tagOf (l.drop at_) = .ok (f, k, n)) (hk : k ≠ 4) (hw : W k f (l.drop (at_ + n)) = .ok (u, b, m)) : grpLoop W field l (fuel + 1) at_ = grpLoop W field l fuel (at_ + (n + m)) := by
  rw [grpLoop, h]; simp [hk, hw]

/-- Unfixed's loop: eight bits more. -/
theorem bits_u64_or8 (u x k : Nat) (hx : x < 256) (hk : k ≤ 7) (hu : u < 2 ^ (8 * k)) :
    bits .or .u64 (u : Int) (IntKind.u64.wrap ((x : Int) * 2 ^ (8 * k))) = ((u + x * 2 ^ (8 * k) : Nat) : Int) := by
  have h1 : x * 2 ^ (8 * k) + 2 ^ (8 * k) ≤ 256 * 2 ^ (8 * k) := by
    have := Nat.mul_le_mul_right (2 ^ (8 * k)) (show x + 1 ≤ 256 by omega)
    rw [Nat.add_mul, Nat.one_mul] at this; exact this
  have h2 : 256 * 2 ^ (8 * k) = 2 ^ (8 * k + 8) := by rw [Nat.pow_add, Nat.mul_comm]
  have h3 : 2 ^ (8 * k + 8) ≤ 2 ^ 64 := Nat.pow_le_pow_right (by decide) (by omega)
  have h4 : (2 : Nat) ^ 64 = 18446744073709551616 := by decide
  have hpos : 0 < 2 ^ (8 * k) := Nat.pow_pos (by decide)
  have e1 : ((x : Int) * 2 ^ (8 * k)) = ((x * 2 ^ (8 * k) : Nat) : Int) := by simp
  have e2 : IntKind.u64.wrap (((x * 2 ^ (8 * k) : Nat)) : Int) = ((x * 2 ^ (8 * k) : Nat) : Int) := by
    rw [IntKind.wrap_u64]; omega
  rw [e1, e2, u64_or_nat _ _ (by omega) (by omega)]
  congr 1
  have := Nat.two_pow_add_eq_or_of_lt hu x
  rw [Nat.or_comm, Nat.mul_comm x, ← this, Nat.add_comm]
theorem leF_snoc (l : List UInt8) (c : UInt8) : leF (l ++ [c]) = leF l + c.toNat * 2 ^ (8 * l.length) := by
  induction l with
  | nil => simp [leF]
  | cons x r ih =>
    simp only [List.cons_append, leF, ih, List.length_cons]
    rw [show 8 * (r.length + 1) = 8 * r.length + 8 by omega, Nat.pow_add, Nat.mul_add]
    have : 256 * (c.toNat * 2 ^ (8 * r.length)) = c.toNat * (2 ^ (8 * r.length) * 2 ^ 8) := by
      rw [← Nat.mul_assoc, Nat.mul_comm 256, Nat.mul_assoc, Nat.mul_comm 256]
    omega
theorem leF_lt (l : List UInt8) : leF l < 2 ^ (8 * l.length) := by
  induction l with
  | nil => simp [leF]
  | cons x r ih =>
    simp only [leF, List.length_cons]
    have hx := x.toNat_lt
    rw [show 8 * (r.length + 1) = 8 * r.length + 8 by omega, Nat.pow_add]
    omega
theorem take_at (l : List UInt8) (k : Nat) (h : k < l.length) : l.take (k + 1) = l.take k ++ [l.getD k 0] := by
  rw [List.take_succ_eq_append_getElem h]; simp [List.getD, h]
theorem le_step (l : List UInt8) (k : Nat) (h : k < l.length) : le (k + 1) l = le k l + (l.getD k 0).toNat * 2 ^ (8 * k) := by
  unfold le
  rw [take_at l k h, leF_snoc, List.length_take, Nat.min_eq_left (by omega)]
theorem le_lt (l : List UInt8) (k : Nat) : le k l < 2 ^ (8 * k) := by
  unfold le
  refine Nat.lt_of_lt_of_le (leF_lt _) (Nat.pow_le_pow_right (by decide) ?_)
  rw [List.length_take]; omega

end Go.Own.Wire
