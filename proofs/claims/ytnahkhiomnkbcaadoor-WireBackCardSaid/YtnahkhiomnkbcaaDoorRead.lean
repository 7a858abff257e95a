/-
  The plain laws of chapter 1, there and back: what was written is read; what was read hangs on its own bytes alone; lists of records together are one.
-/
import Derived.Test.YtnahkhiomnkbcaaDoorPut
namespace Go.Own.Wire
open Go.Own Go.Proofs.YtnahkhiomnkbcaaDoor

theorem agree_len {m : Nat} {l l' : List UInt8} (h : l'.take m = l.take m) (hm : m ≤ l.length) : m ≤ l'.length := by
  have := congrArg List.length h
  rw [List.length_take, List.length_take] at this
  omega
theorem agree_mono {m k : Nat} {l l' : List UInt8} (h : l'.take m = l.take m) (hk : k ≤ m) : l'.take k = l.take k := by
  have := congrArg (List.take k) h
  rwa [List.take_take, List.take_take, Nat.min_eq_left hk] at this
theorem agree_drop {m k : Nat} {l l' : List UInt8} (h : l'.take (k + m) = l.take (k + m)) : (l'.drop k).take m = (l.drop k).take m := by
  have := congrArg (List.drop k) h
  rwa [List.drop_take, List.drop_take, Nat.add_sub_cancel_left] at this

theorem uvarF_stable {l : List UInt8} : ∀ {i u v n : Nat} {l' : List UInt8}, uvarF l i u = .ok (v, n) → l'.take (n - i) = l.take (n - i) → i < n → uvarF l' i u = .ok (v, n) := by
  induction l with
  | nil => intro i u v n l' h; cases h
  | cons c r ih =>
    intro i u v n l' h ha hin
    have e : n - i = (n - i - 1) + 1 := by omega
    rw [e, List.take_succ_cons] at ha
    cases l' with
    | nil => simp at ha
    | cons c' r' =>
      rw [List.take_succ_cons] at ha
      injection ha with hc hr
      subst hc
      rw [uvarF_cons] at h ⊢
      split at h
      · cases h
      · rename_i h9
        rw [if_neg h9]
        split at h
        · rename_i hc; rw [if_pos hc]; exact h
        · rename_i hc; rw [if_neg hc]
          by_cases hn : i + 1 < n
          · exact ih h (by rw [show n - (i + 1) = n - i - 1 by omega]; exact hr) hn
          · exfalso
            have hmono : ∀ (r : List UInt8) (i u v n : Nat), uvarF r i u = .ok (v, n) → i < n := by
              intro r
              induction r with
              | nil => intro i u v n h; cases h
              | cons c r ih =>
                intro i u v n h
                rw [uvarF_cons] at h
                split at h
                · cases h
                · split at h
                  · simp only [Except.ok.injEq, Prod.mk.injEq] at h; omega
                  · have := ih _ _ _ _ h; omega
            have := hmono _ _ _ _ _ h
            omega
theorem uvar_stable {l l' : List UInt8} {v n : Nat} (h : uvar l = .ok (v, n)) (ha : l'.take n = l.take n) : uvar l' = .ok (v, n) :=
  uvarF_stable h (by simpa using ha) (uvar_ok h).1
theorem tagOf_split {l : List UInt8} {f k n : Nat} (h : tagOf l = .ok (f, k, n)) : uvar l = .ok (f * 8 + k, n) ∧ 1 ≤ f ∧ f ≤ 536870911 ∧ k ≤ 5 := by
  unfold tagOf at h
  rcases hu : uvar l with e | ⟨u, m⟩ <;> rw [hu] at h
  · cases h
  · simp only at h
    unfold untag at h
    split at h
    · cases h
    · rename_i h1
      split at h1
      · cases h1
      · simp only [Except.ok.injEq, Prod.mk.injEq] at h h1 ⊢
        omega
theorem tagOf_mk {l : List UInt8} {f k n : Nat} (h : uvar l = .ok (f * 8 + k, n)) (h1 : 1 ≤ f) (h2 : f ≤ 536870911) (h3 : k ≤ 5) : tagOf l = .ok (f, k, n) := by
  unfold tagOf
  rw [h]
  simp only
  have e1 : (f * 8 + k) / 8 = f := by omega
  have e2 : (f * 8 + k) % 8 = k := by omega
  unfold untag
  rw [e1, e2, if_neg (by omega)]
theorem tagOf_stable {l l' : List UInt8} {f k n : Nat} (h : tagOf l = .ok (f, k, n)) (ha : l'.take n = l.take n) : tagOf l' = .ok (f, k, n) := by
  obtain ⟨h0, h1, h2, h3⟩ := tagOf_split h
  exact tagOf_mk (uvar_stable h0 ha) h1 h2 h3

/-- A number that was written is read. -/
theorem uvarF_venc (k : Nat) : ∀ (i u acc : Nat) (x : List UInt8), i + k = 9 → u * 2 ^ (7 * i) < 18446744073709551616 → uvarF (vencF k u ++ x) i acc = .ok (acc + u * 2 ^ (7 * i), i + (vencF k u).length) := by
  induction k with
  | zero =>
    intro i u acc x hi hu
    obtain rfl : i = 9 := by omega
    have hu2 : u < 2 := by
      have : (2 : Nat) ^ (7 * 9) = 9223372036854775808 := by decide
      rw [this] at hu; omega
    have hb : (UInt8.ofNat u).toNat = u := by have := byte_u8 u (by omega); omega
    show uvarF (UInt8.ofNat u :: x) 9 acc = _
    rw [uvarF_cons, hb, if_neg (by omega), if_pos (by omega)]
    rfl
  | succ k ih =>
    intro i u acc x hi hu
    by_cases h : u < 128
    · rw [vencF_small _ _ h]
      have hb : (UInt8.ofNat u).toNat = u := by have := byte_u8 u (by omega); omega
      show uvarF (UInt8.ofNat u :: x) i acc = _
      rw [uvarF_cons, hb, if_neg (by omega), if_pos h]
      rfl
    · rw [vencF_big _ _ h]
      have hb : (UInt8.ofNat (u % 128 + 128)).toNat = u % 128 + 128 := by have := byte_u8 (u % 128 + 128) (by omega); omega
      show uvarF (UInt8.ofNat (u % 128 + 128) :: (vencF k (u / 128) ++ x)) i acc = _
      have e1 : 2 ^ (7 * (i + 1)) = 128 * 2 ^ (7 * i) := by rw [show 7 * (i + 1) = 7 * i + 7 by omega, Nat.pow_add, Nat.mul_comm]
      have e3 : u * 2 ^ (7 * i) = (u % 128) * 2 ^ (7 * i) + u / 128 * 2 ^ (7 * (i + 1)) := by
        rw [e1, ← Nat.mul_assoc, ← Nat.add_mul]
        congr 1
        omega
      rw [uvarF_cons, hb, if_neg (by omega), if_neg (by omega), ih (i + 1) (u / 128) _ x (by omega) (by omega)]
      simp only [Except.ok.injEq, Prod.mk.injEq, List.length_cons]
      constructor
      · rw [show u % 128 + 128 - 128 = u % 128 by omega]; omega
      · omega
theorem uvar_venc (u : Nat) (x : List UInt8) (hu : u < 18446744073709551616) : uvar (venc u ++ x) = .ok (u, (venc u).length) := by
  have := uvarF_venc 9 0 u 0 x rfl (by simpa using hu)
  simpa [uvar, venc] using this

/-- No shorter bytes say a number. -/
theorem venc_least {l : List UInt8} : ∀ {i u v n : Nat}, uvarF l i u = .ok (v, n) → i ≤ 9 → ∃ w, v = u + w * 2 ^ (7 * i) ∧ ∀ k, (vencF k w).length ≤ n - i := by
  induction l with
  | nil => intro i u v n h; cases h
  | cons c r ih =>
    intro i u v n h hi
    rw [uvarF_cons] at h
    have hc := c.toNat_lt
    split at h
    · cases h
    · rename_i h9
      split at h
      · rename_i hlt
        simp only [Except.ok.injEq, Prod.mk.injEq] at h
        refine ⟨c.toNat, h.1.symm, fun k => ?_⟩
        rw [vencF_small _ _ hlt, ← h.2]
        simp
      · rename_i hlt
        by_cases hi9 : i = 9
        · exfalso; exact h9 ⟨hi9, by omega⟩
        · obtain ⟨w, hv, hk⟩ := ih h (by omega)
          have e1 : 2 ^ (7 * (i + 1)) = 128 * 2 ^ (7 * i) := by rw [show 7 * (i + 1) = 7 * i + 7 by omega, Nat.pow_add, Nat.mul_comm]
          refine ⟨(c.toNat - 128) + 128 * w, ?_, fun k => ?_⟩
          · rw [hv, e1, Nat.add_mul, Nat.mul_comm 128 w, Nat.mul_assoc]; omega
          · have h0 := hk 0
            have h00 : 1 ≤ (vencF 0 w).length := (vencF_len 0 w).1
            cases k with
            | zero => have := (vencF_len 0 ((c.toNat - 128) + 128 * w)).2; omega
            | succ k =>
              by_cases hs : (c.toNat - 128) + 128 * w < 128
              · rw [vencF_small _ _ hs]; simp; omega
              · rw [vencF_big _ _ hs, List.length_cons, show ((c.toNat - 128) + 128 * w) / 128 = w by omega]
                have := hk k
                omega
theorem venc_min {l : List UInt8} {v n : Nat} (h : uvar l = .ok (v, n)) : (venc v).length ≤ n := by
  obtain ⟨w, hv, hk⟩ := venc_least h (by omega)
  simp at hv
  subst hv
  exact hk 9

theorem leF_fixE (k : Nat) : ∀ u, leF (fixE k u) = u % 2 ^ (8 * k) := by
  induction k with
  | zero => intro u; simp [fixE, leF, Nat.mod_one]
  | succ k ih =>
    intro u
    have hb : (UInt8.ofNat (u % 256)).toNat = u % 256 := by have := byte_u8 (u % 256) (by omega); omega
    simp only [fixE, leF, ih, hb]
    rw [show 8 * (k + 1) = 8 + 8 * k by omega, Nat.pow_add, show (2 : Nat) ^ 8 = 256 from rfl, Nat.mod_mul]
theorem le_fixE (k u : Nat) (x : List UInt8) : le k (fixE k u ++ x) = u % 2 ^ (8 * k) := by
  unfold le
  rw [List.take_left' (fixE_len k u), leF_fixE]

theorem le_stable {k : Nat} {l l' : List UInt8} (h : l'.take k = l.take k) : le k l' = le k l := by unfold le; rw [h]

theorem leaf_stable {k m u : Nat} {l l' b : List UInt8} {g g' : Except Nat Held} (h : leaf k l g = .ok (u, b, m)) (ha : l'.take m = l.take m) (hg : k ≠ 0 → k ≠ 1 → k ≠ 5 → k ≠ 2 → g = .ok (u, b, m) → g' = .ok (u, b, m)) : leaf k l' g' = .ok (u, b, m) := by
  unfold leaf at h ⊢
  split at h
  · rename_i hk; rw [if_pos hk]
    rcases hu : uvar l with e | ⟨v, n⟩ <;> rw [hu] at h
    · cases h
    · simp only [Except.ok.injEq, Prod.mk.injEq] at h
      rw [uvar_stable hu (by rw [h.2.2]; exact ha)]
      simp [h]
  · rename_i hk; rw [if_neg hk]
    split at h
    · rename_i hk1; rw [if_pos hk1]
      split at h
      · cases h
      · simp only [Except.ok.injEq, Prod.mk.injEq] at h
        obtain ⟨h1, h2, h3⟩ := h
        subst h3
        have := agree_len ha (by omega)
        rw [if_neg (by omega), le_stable ha, h1, h2]
    · rename_i hk1; rw [if_neg hk1]
      split at h
      · rename_i hk5; rw [if_pos hk5]
        split at h
        · cases h
        · simp only [Except.ok.injEq, Prod.mk.injEq] at h
          obtain ⟨h1, h2, h3⟩ := h
          subst h3
          have := agree_len ha (by omega)
          rw [if_neg (by omega), le_stable ha, h1, h2]
      · rename_i hk5; rw [if_neg hk5]
        split at h
        · rename_i hk2; rw [if_pos hk2]
          rcases hu : uvar l with e | ⟨v, n⟩ <;> rw [hu] at h
          · cases h
          · simp only at h
            have hn := uvar_ok hu
            split at h
            · cases h
            · rename_i hlt
              simp only [Except.ok.injEq, Prod.mk.injEq] at h
              obtain ⟨h1, h2, h3⟩ := h
              subst h3
              have := agree_len ha (by omega)
              rw [uvar_stable hu (agree_mono ha (by omega))]
              simp only
              rw [if_neg (by omega), agree_drop ha, h1, h2]
        · rename_i hk2; rw [if_neg hk2]; exact hg hk hk1 hk5 hk2 h

/-- A group: its end, and that it hangs on what is ahead of its end alone. -/
theorem grp_main {W : Nat → Nat → List UInt8 → Except Nat Held} (hW : ∀ k f l u b m, W k f l = .ok (u, b, m) → m ≤ l.length)
    (hS : ∀ k f l l' u b m, W k f l = .ok (u, b, m) → l'.take m = l.take m → W k f l' = .ok (u, b, m)) {field : Nat} {l : List UInt8} :
    ∀ (fuel p u : Nat) (b : List UInt8) (m : Nat), p ≤ l.length → grpLoop W field l fuel p = .ok (u, b, m) →
    ∃ q n, u = 0 ∧ b = l.take q ∧ m = q + n ∧ p ≤ q ∧ q ≤ l.length ∧ tagOf (l.drop q) = .ok (field, 4, n) ∧
      ∀ (l' : List UInt8) (fuel' n' : Nat), l'.take q = l.take q → q - p < fuel' → tagOf (l'.drop q) = .ok (field, 4, n') → grpLoop W field l' fuel' p = .ok (0, l'.take q, q + n') := by
  intro fuel
  induction fuel with
  | zero => intro p u b m _ h; cases h
  | succ fuel ih =>
    intro p u b m hp h
    rcases ht : tagOf (l.drop p) with e | ⟨f, k, n⟩
    · rw [grpLoop_tagErr ht] at h; cases h
    · have hn := tagOf_le ht
      rw [List.length_drop] at hn
      by_cases hk : k = 4
      · subst hk
        by_cases hf : f = field
        · subst hf
          rw [grpLoop_end ht] at h
          simp only [Except.ok.injEq, Prod.mk.injEq] at h
          refine ⟨p, n, h.1.symm, h.2.1.symm, h.2.2.symm, Nat.le_refl _, hp, ht, fun l' fuel' n' ha hfu ht' => ?_⟩
          obtain ⟨g, rfl⟩ : ∃ g, fuel' = g + 1 := ⟨fuel' - 1, by omega⟩
          exact grpLoop_end ht'
        · rw [grpLoop_other ht hf] at h; cases h
      · rcases hw : W k f (l.drop (p + n)) with e | ⟨u', b', m'⟩
        · rw [grpLoop_inErr ht hk hw] at h; cases h
        · have hm := hW _ _ _ _ _ _ hw
          rw [List.length_drop] at hm
          rw [grpLoop_in ht hk hw] at h
          obtain ⟨q, n1, h1, h2, h3, h4, h5, h6, h7⟩ := ih (p + (n + m')) u b m (by omega) h
          refine ⟨q, n1, h1, h2, h3, by omega, h5, h6, fun l' fuel' n' ha hfu ht' => ?_⟩
          obtain ⟨g, rfl⟩ : ∃ g, fuel' = g + 1 := ⟨fuel' - 1, by omega⟩
          have a1 : (l'.drop p).take n = (l.drop p).take n := agree_drop (agree_mono ha (by omega))
          have a2 : (l'.drop (p + n)).take m' = (l.drop (p + n)).take m' := agree_drop (agree_mono ha (by omega))
          rw [grpLoop_in (tagOf_stable ht a1) hk (hS _ _ _ _ _ _ _ hw a2)]
          exact h7 l' g n' ha (by omega) ht'

theorem way_stable (d : Nat) : ∀ (k f : Nat) (l l' : List UInt8) (u : Nat) (b : List UInt8) (m : Nat), way d k f l = .ok (u, b, m) → l'.take m = l.take m → way d k f l' = .ok (u, b, m) := by
  induction d with
  | zero => intro k f l l' u b m h ha; exact leaf_stable h ha (fun _ _ _ _ h => by cases h)
  | succ d ih =>
    intro k f l l' u b m h ha
    refine leaf_stable h ha (fun _ _ _ _ hg => ?_)
    obtain ⟨q, n, rfl, rfl, rfl, _, hq, ht, hall⟩ := grp_main (way_le d) ih _ _ u b m (Nat.zero_le _) hg
    have a1 := agree_mono ha (show q ≤ q + n by omega)
    have hn := tagOf_le ht
    rw [List.length_drop] at hn
    have := agree_len ha (by omega)
    rw [hall l' (l'.length + 1) n a1 (by omega) (tagOf_stable ht (agree_drop ha)), a1]

theorem next_stable {l l' : List UInt8} {r : Rec} {n : Nat} (h : next l = .ok (r, n)) (ha : l'.take n = l.take n) : next l' = .ok (r, n) := by
  unfold next at h ⊢
  rcases ht : tagOf l with e | ⟨f, k, m⟩ <;> rw [ht] at h
  · cases h
  · simp only at h
    split at h
    · cases h
    · rename_i hk
      rcases hw : way 32 k f (l.drop m) with e | ⟨u, b, m'⟩ <;> rw [hw] at h
      · cases h
      · simp only [Except.ok.injEq, Prod.mk.injEq] at h
        obtain ⟨rfl, rfl⟩ := h
        rw [tagOf_stable ht (agree_mono ha (by omega))]
        simp only
        rw [if_neg hk, way_stable 32 _ _ _ _ _ _ _ hw (agree_drop ha)]
theorem next_append {l : List UInt8} {r : Rec} {n : Nat} (h : next l = .ok (r, n)) (x : List UInt8) : next (l ++ x) = .ok (r, n) :=
  next_stable h (by rw [List.take_append_of_le_length (next_le h).2])

/-- Lists of records. -/
def rcs : Nat → List UInt8 → Prop
  | 0, l => l = []
  | k + 1, l => l = [] ∨ ∃ r n, next l = .ok (r, n) ∧ rcs k (l.drop n)
theorem rcs_of_check : ∀ (fuel p : Nat) (l : List UInt8), l.length < p + fuel → p ≤ l.length → checkF fuel l p = none → rcs fuel (l.drop p) := by
  intro fuel
  induction fuel with
  | zero => intro p l h1 h2 _; exact absurd h1 (by omega)
  | succ fuel ih =>
    intro p l h1 h2 h
    by_cases hp : p < l.length
    · rcases hx : next (l.drop p) with e | ⟨r, n⟩
      · rw [checkF_err hp hx] at h; cases h
      · rw [checkF_ok hp hx] at h
        have hn := next_le hx
        rw [List.length_drop] at hn
        refine .inr ⟨r, n, hx, ?_⟩
        rw [List.drop_drop]
        exact ih _ _ (by omega) (by omega) h
    · left
      exact List.drop_eq_nil_of_le (by omega)
theorem check_of_rcs : ∀ (k fuel p : Nat) (l : List UInt8), rcs k (l.drop p) → p ≤ l.length → checkF fuel l p = none := by
  intro k
  induction k with
  | zero =>
    intro fuel p l h hp
    exact checkF_end (by have := congrArg List.length h; rw [List.length_drop] at this; simp at this; omega)
  | succ k ih =>
    intro fuel p l h hp
    rcases h with h | ⟨r, n, hx, h⟩
    · exact checkF_end (by have := congrArg List.length h; rw [List.length_drop] at this; simp at this; omega)
    · cases fuel with
      | zero => rfl
      | succ fuel =>
        have hn := next_le hx
        rw [List.length_drop] at hn
        rw [checkF_ok (by omega) hx]
        rw [List.drop_drop] at h
        exact ih fuel (p + n) l h (by omega)
theorem rcs_append : ∀ (k j : Nat) (a b : List UInt8), rcs k a → rcs j b → rcs (k + j) (a ++ b) := by
  intro k
  induction k with
  | zero => intro j a b ha hb; rw [show a = [] from ha, Nat.zero_add]; exact hb
  | succ k ih =>
    intro j a b ha hb
    rcases ha with rfl | ⟨r, n, hx, ha⟩
    · have hmono : ∀ (j i : Nat) (b : List UInt8), rcs j b → rcs (i + j) b := by
        intro j
        induction j with
        | zero => intro i b h; rw [show b = [] from h]; cases i with | zero => rfl | succ i => exact .inl rfl
        | succ j ihj =>
          intro i b h
          rcases h with rfl | ⟨r, n, hx, h⟩
          · exact .inl rfl
          · exact .inr ⟨r, n, hx, ihj i _ h⟩
      exact hmono _ _ _ hb
    · rw [show k + 1 + j = (k + j) + 1 by omega]
      refine .inr ⟨r, n, next_append hx b, ?_⟩
      rw [List.drop_append_of_le_length (next_le hx).2]
      exact ih j _ b ha hb
theorem check_append {a b : List UInt8} (ha : check a = none) (hb : check b = none) : check (a ++ b) = none := by
  have h1 := rcs_of_check (a.length + 1) 0 a (by omega) (Nat.zero_le _) ha
  have h2 := rcs_of_check (b.length + 1) 0 b (by omega) (Nat.zero_le _) hb
  exact check_of_rcs _ _ 0 _ (rcs_append _ _ _ _ h1 h2) (Nat.zero_le _)
theorem check_one {p : List UInt8} {r : Rec} (h : next p = .ok (r, p.length)) : check p = none := by
  have hp := (next_le h).1
  unfold check
  rw [checkF_ok (p := 0) (by omega) (show next (p.drop 0) = _ from h), checkF_end (by omega)]

theorem tag_venc (f k : Nat) (x : List UInt8) (h1 : 1 ≤ f) (h2 : f ≤ 536870911) (h3 : k ≤ 5) : tagOf (venc (f * 8 + k) ++ x) = .ok (f, k, (venc (f * 8 + k)).length) :=
  tagOf_mk (uvar_venc _ _ (by omega)) h1 h2 h3
/-- What stands behind a tag decides. -/
theorem next_tag (f k : Nat) (y : List UInt8) (h1 : 1 ≤ f) (h2 : f ≤ 536870911) (h3 : k ≤ 5) (h4 : k ≠ 4) {u m : Nat} {b : List UInt8} (hw : way 32 k f y = .ok (u, b, m)) :
    next (venc (f * 8 + k) ++ y) = .ok (⟨f, k, u, b⟩, (venc (f * 8 + k)).length + m) :=
  next_ok (tag_venc f k y h1 h2 h3) h4 (by rw [List.drop_left]; exact hw)

theorem way_k0 (d f u : Nat) (x : List UInt8) (hu : u < 18446744073709551616) : way d 0 f (venc u ++ x) = .ok (u, [], (venc u).length) := by
  rw [way_eq, leaf0_ok _ (uvar_venc u x hu)]
theorem way_k1 (d f u : Nat) (x : List UInt8) (hu : u < 18446744073709551616) : way d 1 f (fixE 8 u ++ x) = .ok (u, [], 8) := by
  rw [way_eq]
  refine leaf_1_ok _ ?_
  unfold fixd
  rw [if_neg (by rw [List.length_append, fixE_len]; omega), le_fixE, Nat.mod_eq_of_lt (by simpa using hu)]
theorem way_k5 (d f u : Nat) (x : List UInt8) : way d 5 f (fixE 4 u ++ x) = .ok (u % 4294967296, [], 4) := by
  rw [way_eq]
  refine leaf_5_ok _ ?_
  unfold fixd
  rw [if_neg (by rw [List.length_append, fixE_len]; omega), le_fixE]
theorem way_k2 (d f : Nat) (b x : List UInt8) (hu : b.length < 18446744073709551616) : way d 2 f (venc b.length ++ b ++ x) = .ok (0, b, (venc b.length).length + b.length) := by
  rw [way_eq, List.append_assoc, leaf2_ok _ (uvar_venc b.length (b ++ x) hu) (by rw [List.length_append, List.length_append]; omega), List.drop_left, List.take_left]

/-- A record that was written is read, whatever stands behind. -/
theorem put_next {f k u : Nat} {b p : List UInt8} (h1 : 1 ≤ f) (h2 : f ≤ 536870911) (h3 : k ≤ 5) (hu : u < 18446744073709551616) (hb : b.length < 18446744073709551616) (h : putE f k u b = .ok p) (x : List UInt8) :
    ∃ r, next (p ++ x) = .ok (r, p.length) ∧ r.field = f ∧ r.kind = k := by
  unfold putE at h
  split at h
  · cases h
  · rename_i h4
    split at h
    · rename_i hk; subst hk
      simp only [Except.ok.injEq] at h
      subst h
      rw [List.append_assoc]
      exact ⟨_, by rw [next_tag f 0 _ h1 h2 h3 h4 (way_k0 32 f u x hu), List.length_append], rfl, rfl⟩
    · split at h
      · rename_i hk; subst hk
        simp only [Except.ok.injEq] at h
        subst h
        rw [List.append_assoc]
        exact ⟨_, by rw [next_tag f 1 _ h1 h2 h3 h4 (way_k1 32 f u x hu), List.length_append, fixE_len], rfl, rfl⟩
      · split at h
        · rename_i hk; subst hk
          simp only [Except.ok.injEq] at h
          subst h
          rw [List.append_assoc]
          exact ⟨_, by rw [next_tag f 5 _ h1 h2 h3 h4 (way_k5 32 f u x), List.length_append, fixE_len], rfl, rfl⟩
        · split at h
          · rename_i hk; subst hk
            simp only [Except.ok.injEq] at h
            subst h
            have e : venc (f * 8 + 2) ++ venc b.length ++ b ++ x = venc (f * 8 + 2) ++ (venc b.length ++ b ++ x) := by simp [List.append_assoc]
            rw [e]
            exact ⟨_, by rw [next_tag f 2 _ h1 h2 h3 h4 (way_k2 32 f b x hb), List.length_append, List.length_append, Nat.add_assoc], rfl, rfl⟩
          · rcases hx : next (venc (f * 8 + k) ++ b ++ venc (f * 8 + k + 1)) with e | ⟨r, n⟩ <;> rw [hx] at h
            · cases h
            · simp only at h
              split at h
              · rename_i hn
                simp only [Except.ok.injEq] at h
                subst h
                refine ⟨r, by rw [← hn]; exact next_append hx x, ?_⟩
                unfold next at hx
                rw [List.append_assoc, tag_venc f k _ h1 h2 h3] at hx
                simp only at hx
                rw [if_neg h4] at hx
                split at hx
                · cases hx
                · simp only [Except.ok.injEq, Prod.mk.injEq] at hx
                  obtain ⟨rfl, _⟩ := hx
                  exact ⟨rfl, rfl⟩
              · cases h

theorem way_u_lt {d k f : Nat} {l b : List UInt8} {u m : Nat} (h : way d k f l = .ok (u, b, m)) : u < 18446744073709551616 ∧ (k = 5 → u < 4294967296) := by
  rw [way_eq] at h
  unfold leaf at h
  split at h
  · rename_i hk
    rcases hu : uvar l with e | ⟨v, n⟩ <;> rw [hu] at h
    · cases h
    · have := uvar_ok hu
      simp only [Except.ok.injEq, Prod.mk.injEq] at h
      omega
  · split at h
    · split at h
      · cases h
      · have := le_lt l 8
        simp only [Except.ok.injEq, Prod.mk.injEq] at h
        have e : (2 : Nat) ^ (8 * 8) = 18446744073709551616 := by decide
        omega
    · split at h
      · split at h
        · cases h
        · have := le_lt l 4
          simp only [Except.ok.injEq, Prod.mk.injEq] at h
          have e : (2 : Nat) ^ (8 * 4) = 4294967296 := by decide
          omega
      · split at h
        · rename_i hk
          rcases hu : uvar l with e | ⟨v, n⟩ <;> rw [hu] at h
          · cases h
          · simp only at h
            split at h
            · cases h
            · simp only [Except.ok.injEq, Prod.mk.injEq] at h
              omega
        · cases d with
          | zero => cases h
          | succ d =>
            obtain ⟨q, n, hu, _⟩ := grp_main (way_le d) (way_stable d) _ _ u b m (Nat.zero_le _) h
            omega

/-- What was read, written again, is read as the same, and is not longer. -/
theorem next_put {a : List UInt8} {r : Rec} {n : Nat} (ha : a.length < 18446744073709551616) (h : next a = .ok (r, n)) :
    ∃ p, putE r.field r.kind r.u r.b = .ok p ∧ next p = .ok (r, p.length) ∧ p.length ≤ n ∧ 1 ≤ r.field ∧ r.field ≤ 536870911 ∧ r.kind ≤ 5 ∧ r.u < 18446744073709551616 ∧ r.b.length ≤ a.length := by
  unfold next at h
  rcases ht : tagOf a with e | ⟨f, k, m⟩ <;> rw [ht] at h
  · cases h
  · obtain ⟨hv, h1, h2, h3⟩ := tagOf_split ht
    have hmin := venc_min hv
    have hmle := uvar_ok hv
    simp only at h
    split at h
    · cases h
    · rename_i h4
      rcases hw : way 32 k f (a.drop m) with e | ⟨u, b, m'⟩ <;> rw [hw] at h
      · cases h
      · simp only [Except.ok.injEq, Prod.mk.injEq] at h
        obtain ⟨rfl, rfl⟩ := h
        have hul := way_u_lt hw
        have hwl := way_le 32 _ _ _ _ _ _ hw
        rw [List.length_drop] at hwl
        have hw' := hw
        rw [way_eq] at hw
        unfold leaf at hw
        simp only
        split at hw
        · rename_i hk; subst hk
          rcases hu : uvar (a.drop m) with e | ⟨v, j⟩ <;> rw [hu] at hw
          · cases hw
          · simp only [Except.ok.injEq, Prod.mk.injEq] at hw
            obtain ⟨rfl, rfl, rfl⟩ := hw
            have hm2 := venc_min hu
            refine ⟨venc (f * 8 + 0) ++ venc v, rfl, ?_, ?_, h1, h2, h3, hul.1, Nat.zero_le _⟩
            · have := next_tag f 0 (venc v ++ []) h1 h2 h3 h4 (way_k0 32 f v [] hul.1)
              rw [List.append_nil] at this
              rw [this, List.length_append]
            · rw [List.length_append]; omega
        · split at hw
          · rename_i hk; subst hk
            split at hw
            · cases hw
            · simp only [Except.ok.injEq, Prod.mk.injEq] at hw
              obtain ⟨hu', hb', hm'⟩ := hw
              subst hb' hm'
              refine ⟨venc (f * 8 + 1) ++ fixE 8 u, rfl, ?_, ?_, h1, h2, h3, hul.1, Nat.zero_le _⟩
              · have := next_tag f 1 (fixE 8 u ++ []) h1 h2 h3 h4 (way_k1 32 f u [] hul.1)
                rw [List.append_nil] at this
                rw [this, List.length_append, fixE_len]
              · rw [List.length_append, fixE_len]; omega
          · split at hw
            · rename_i hk; subst hk
              split at hw
              · cases hw
              · simp only [Except.ok.injEq, Prod.mk.injEq] at hw
                obtain ⟨hu', hb', hm'⟩ := hw
                subst hb' hm'
                refine ⟨venc (f * 8 + 5) ++ fixE 4 u, rfl, ?_, ?_, h1, h2, h3, hul.1, Nat.zero_le _⟩
                · have := next_tag f 5 (fixE 4 u ++ []) h1 h2 h3 h4 (way_k5 32 f u [])
                  rw [List.append_nil, Nat.mod_eq_of_lt (hul.2 rfl)] at this
                  rw [this, List.length_append, fixE_len]
                · rw [List.length_append, fixE_len]; omega
            · split at hw
              · rename_i hk; subst hk
                rcases hu : uvar (a.drop m) with e | ⟨v, j⟩ <;> rw [hu] at hw
                · cases hw
                · simp only at hw
                  have hj := uvar_ok hu
                  split at hw
                  · cases hw
                  · rename_i hlt
                    simp only [Except.ok.injEq, Prod.mk.injEq] at hw
                    obtain ⟨rfl, hb', rfl⟩ := hw
                    have hm2 := venc_min hu
                    rw [List.length_drop] at hlt hj
                    have hbl : b.length = v := by rw [← hb', List.length_take, List.length_drop, List.length_drop]; omega
                    refine ⟨venc (f * 8 + 2) ++ venc b.length ++ b, rfl, ?_, ?_, h1, h2, h3, hul.1, by omega⟩
                    · have := next_tag f 2 (venc b.length ++ b ++ []) h1 h2 h3 h4 (way_k2 32 f b [] (by omega))
                      rw [List.append_nil] at this
                      rw [List.append_assoc, this, List.length_append, List.length_append]
                    · rw [List.length_append, List.length_append, hbl]; omega
              · rename_i c0 c1 c5 c2
                obtain rfl : k = 3 := by omega
                obtain ⟨q, n1, rfl, rfl, rfl, _, hq, htq, hall⟩ := grp_main (way_le 31) (way_stable 31) _ _ u b m' (Nat.zero_le _) hw
                obtain ⟨hv2, _, _, _⟩ := tagOf_split htq
                have hmin2 := venc_min hv2
                have hn1 := tagOf_le htq
                rw [List.length_drop] at hn1 hq
                have hql : ((a.drop m).take q).length = q := by rw [List.length_take, List.length_drop]; omega
                have hend : tagOf (((a.drop m).take q ++ venc (f * 8 + 4)).drop q) = .ok (f, 4, (venc (f * 8 + 4)).length) := by
                  rw [List.drop_left' hql]
                  have := tag_venc f 4 [] h1 h2 (by omega)
                  rwa [List.append_nil] at this
                have hgo := hall ((a.drop m).take q ++ venc (f * 8 + 4)) (((a.drop m).take q ++ venc (f * 8 + 4)).length + 1) _ (by rw [List.take_left' hql]) (by rw [List.length_append, hql]; omega) hend
                rw [List.take_left' hql] at hgo
                have hnx : next (venc (f * 8 + 3) ++ ((a.drop m).take q ++ venc (f * 8 + 4))) = .ok (⟨f, 3, 0, (a.drop m).take q⟩, (venc (f * 8 + 3)).length + (q + (venc (f * 8 + 4)).length)) :=
                  next_tag f 3 _ h1 h2 h3 h4 (by rw [way_eq, leaf3]; exact hgo)
                have hlen : (venc (f * 8 + 3) ++ (a.drop m).take q ++ venc (f * 8 + 3 + 1)).length = (venc (f * 8 + 3)).length + (q + (venc (f * 8 + 4)).length) := by
                  rw [List.length_append, List.length_append, hql, show f * 8 + 3 + 1 = f * 8 + 4 by omega]; omega
                refine ⟨venc (f * 8 + 3) ++ (a.drop m).take q ++ venc (f * 8 + 3 + 1), ?_, ?_, ?_, h1, h2, h3, hul.1, by rw [hql]; omega⟩
                · show (match next (venc (f * 8 + 3) ++ (a.drop m).take q ++ venc (f * 8 + 3 + 1)) with | .ok (_, n) => if n = (venc (f * 8 + 3) ++ (a.drop m).take q ++ venc (f * 8 + 3 + 1)).length then Except.ok (venc (f * 8 + 3) ++ (a.drop m).take q ++ venc (f * 8 + 3 + 1)) else .error 104 | .error _ => .error 104) = _
                  rw [hlen, show f * 8 + 3 + 1 = f * 8 + 4 by omega, List.append_assoc, hnx]
                  simp
                · rw [hlen, show f * 8 + 3 + 1 = f * 8 + 4 by omega, List.append_assoc, hnx]
                · rw [hlen]; omega
end Go.Own.Wire
