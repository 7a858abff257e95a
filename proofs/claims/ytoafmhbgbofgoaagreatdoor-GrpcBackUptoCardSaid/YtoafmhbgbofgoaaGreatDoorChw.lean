/-
  Plain laws: what a reader of messages tells of bytes, in whatever pieces they come. No program.
-/
namespace Go.Own.Grpc
/-- What stands ahead of a message. -/
def hdr (n : Nat) : List UInt8 := [0, UInt8.ofNat (n / 16777216), UInt8.ofNat (n / 65536), UInt8.ofNat (n / 256), UInt8.ofNat n]
theorem hdr_len (n : Nat) : (hdr n).length = 5 := rfl
def n4 (l : List UInt8) : Nat := (l.getD 1 0).toNat * 16777216 + (l.getD 2 0).toNat * 65536 + (l.getD 3 0).toNat * 256 + (l.getD 4 0).toNat
theorem n4_lt (l : List UInt8) : n4 l < 4294967296 := by
  unfold n4
  have h1 := (l.getD 1 0).toNat_lt
  have h2 := (l.getD 2 0).toNat_lt
  have h3 := (l.getD 3 0).toNat_lt
  have h4 := (l.getD 4 0).toNat_lt
  omega
theorem n4_hdr (n : Nat) (h : n < 4294967296) (r : List UInt8) : n4 (hdr n ++ r) = n := by
  simp [n4, hdr]
  omega
/-- What is told of bytes: the code (0 fine, 1 no frame, 2 too long), the messages, the bytes that are left. -/
def chew (most : Int) : Nat → List UInt8 → List (List UInt8) → Nat × List (List UInt8) × List UInt8
  | 0, l, t => (0, t, l)
  | f + 1, l, t =>
    if l.length = 0 then (0, t, l)
    else if (l.getD 0 0).toNat ≠ 0 then (1, [], [])
    else if l.length < 5 then (0, t, l)
    else if most < (n4 l : Int) then (2, [], [])
    else if l.length < 5 + n4 l then (0, t, l)
    else chew most f (l.drop (5 + n4 l)) (t ++ [(l.drop 5).take (n4 l)])
theorem chew_fuel (most : Int) (f : Nat) : ∀ (f' : Nat) (l : List UInt8) (t : List (List UInt8)), l.length < f → l.length < f' → chew most f l t = chew most f' l t := by
  induction f with
  | zero => intro f' l t h; omega
  | succ f ih =>
    intro f' l t h h'
    obtain ⟨f', rfl⟩ : ∃ k, f' = k + 1 := ⟨f' - 1, by omega⟩
    unfold chew
    by_cases c0 : l.length = 0
    · rw [if_pos c0, if_pos c0]
    rw [if_neg c0, if_neg c0]
    split
    · rfl
    split
    · rfl
    split
    · rfl
    split
    · rfl
    · exact ih f' _ _ (by rw [List.length_drop]; omega) (by rw [List.length_drop]; omega)
def chw (most : Int) (l : List UInt8) (t : List (List UInt8)) := chew most (l.length + 1) l t
section
variable {most : Int} {l : List UInt8} {t : List (List UInt8)}
theorem chw_nil (h : l.length = 0) : chw most l t = (0, t, l) := by unfold chw chew; rw [if_pos h]
theorem chw_frame (h : l.length ≠ 0) (h0 : (l.getD 0 0).toNat ≠ 0) : chw most l t = (1, [], []) := by unfold chw chew; rw [if_neg h, if_pos h0]
theorem chw_short (h : l.length ≠ 0) (h0 : (l.getD 0 0).toNat = 0) (h5 : l.length < 5) : chw most l t = (0, t, l) := by
  unfold chw chew; rw [if_neg h, if_neg (by omega), if_pos h5]
theorem chw_long (h0 : (l.getD 0 0).toNat = 0) (h5 : 5 ≤ l.length) (hl : most < (n4 l : Int)) : chw most l t = (2, [], []) := by
  unfold chw chew; rw [if_neg (by omega), if_neg (by omega), if_neg (by omega), if_pos hl]
theorem chw_part (h0 : (l.getD 0 0).toNat = 0) (h5 : 5 ≤ l.length) (hl : (n4 l : Int) ≤ most) (hp : l.length < 5 + n4 l) : chw most l t = (0, t, l) := by
  unfold chw chew; rw [if_neg (by omega), if_neg (by omega), if_neg (by omega), if_neg (by omega), if_pos hp]
theorem chw_more (h0 : (l.getD 0 0).toNat = 0) (hl : (n4 l : Int) ≤ most) (hp : 5 + n4 l ≤ l.length) : chw most l t = chw most (l.drop (5 + n4 l)) (t ++ [(l.drop 5).take (n4 l)]) := by
  unfold chw
  conv => lhs; unfold chew
  rw [if_neg (by omega), if_neg (by omega), if_neg (by omega), if_neg (by omega), if_neg (by omega)]
  exact chew_fuel _ _ _ _ _ (by rw [List.length_drop]; omega) (by rw [List.length_drop]; omega)
end

/-- Messages, each behind its head. -/
def enc : List (List UInt8) → List UInt8
  | [] => []
  | m :: r => hdr m.length ++ m ++ enc r
theorem enc_append (a b : List (List UInt8)) : enc (a ++ b) = enc a ++ enc b := by
  induction a with
  | nil => rfl
  | cons m r ih => simp [enc, ih]
theorem enc_snoc (a : List (List UInt8)) (m : List UInt8) : enc (a ++ [m]) = enc a ++ hdr m.length ++ m := by
  rw [enc_append]; simp [enc]
/-- A part of what was written, from the beginning: some messages are told, and the rest is a part of the others'. -/
theorem chw_enc (most : Int) (hmost : most < 4294967296) (ms : List (List UInt8)) : ∀ (p : Nat) (t : List (List UInt8)), (∀ m ∈ ms, (m.length : Int) ≤ most) → p ≤ (enc ms).length →
    ∃ j p', j ≤ ms.length ∧ p' ≤ (enc (ms.drop j)).length ∧ (enc (ms.take j)).length + p' = p ∧ chw most ((enc ms).take p) t = (0, t ++ ms.take j, (enc (ms.drop j)).take p') ∧ (p = (enc ms).length → j = ms.length) := by
  induction ms with
  | nil =>
    intro p t _ hp
    have hp0 : p = 0 := by simpa [enc] using hp
    exact ⟨0, 0, by simp, by simp, by simp [enc, hp0], by rw [chw_nil (by simp [enc])]; simp [enc], fun _ => rfl⟩
  | cons m r ih =>
    intro p t hm hp
    have hml : (m.length : Int) ≤ most := hm m (by simp)
    have hlen : (enc (m :: r)).length = 5 + m.length + (enc r).length := by simp [enc, hdr_len]; omega
    have hstay : ∀ X, X = chw most ((enc (m :: r)).take p) t → X = (0, t, (enc (m :: r)).take p) → p < (enc (m :: r)).length →
        ∃ j p', j ≤ (m :: r).length ∧ p' ≤ (enc ((m :: r).drop j)).length ∧ (enc ((m :: r).take j)).length + p' = p ∧ chw most ((enc (m :: r)).take p) t = (0, t ++ (m :: r).take j, (enc ((m :: r).drop j)).take p') ∧ (p = (enc (m :: r)).length → j = (m :: r).length) :=
      fun X hX hX2 hlt => ⟨0, p, by simp, by simpa using hp, by simp [enc], by rw [← hX, hX2]; simp, fun h => by omega⟩
    by_cases p0 : p = 0
    · exact hstay _ rfl (chw_nil (by simp [p0])) (by omega)
    have g0 : (((enc (m :: r)).take p).getD 0 0).toNat = 0 := by
      obtain ⟨q, rfl⟩ : ∃ q, p = q + 1 := ⟨p - 1, by omega⟩
      simp [enc, hdr]
    have tl : ((enc (m :: r)).take p).length = p := by rw [List.length_take]; omega
    by_cases p5 : p < 5
    · exact hstay _ rfl (chw_short (by omega) g0 (by omega)) (by omega)
    obtain ⟨q, rfl⟩ : ∃ q, p = 5 + q := ⟨p - 5, by omega⟩
    have htake : (enc (m :: r)).take (5 + q) = hdr m.length ++ (m ++ enc r).take q := by
      rw [enc, List.append_assoc, List.take_append, hdr_len, List.take_of_length_le (by rw [hdr_len]; omega)]
      congr 2
      omega
    have hn4 : n4 ((enc (m :: r)).take (5 + q)) = m.length := by rw [htake]; exact n4_hdr _ (by omega) _
    by_cases hq : q < m.length
    · exact hstay _ rfl (chw_part g0 (by omega) (by rw [hn4]; omega) (by rw [hn4, tl]; omega)) (by omega)
    obtain ⟨j, p', hj, hp', hs, hc, he⟩ := ih (q - m.length) (t ++ [m]) (fun x hx => hm x (by simp [hx])) (by omega)
    refine ⟨j + 1, p', by simp; omega, by simpa using hp', by simp [enc, hdr_len]; omega, ?_, fun h => by simp; exact he (by omega)⟩
    rw [chw_more g0 (by rw [hn4]; omega) (by rw [hn4, tl]; omega), hn4]
    have e1 : ((enc (m :: r)).take (5 + q)).drop (5 + m.length) = (enc r).take (q - m.length) := by
      rw [htake, ← List.drop_drop, List.drop_left' (hdr_len _), List.drop_take, List.drop_left' rfl]
    have e2 : (((enc (m :: r)).take (5 + q)).drop 5).take m.length = m := by
      rw [htake, List.drop_left' (hdr_len _), List.take_take, Nat.min_eq_left (by omega), List.take_left' rfl]
    rw [e1, e2, hc]
    simp
end Go.Own.Grpc
