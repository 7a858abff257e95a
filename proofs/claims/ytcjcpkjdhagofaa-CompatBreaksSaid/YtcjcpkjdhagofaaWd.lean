/-
  parleyshelf.word, one.
-/
import Derived.Test.YtcjcpkjdhagofaaKi
namespace Go.Own.Cm
open Go Go.RowKit Go.Own
def okC (i x : Nat) : Bool := decide ((97 ≤ x ∧ x ≤ 122) ∨ (65 ≤ x ∧ x ≤ 90) ∨ x = 95 ∨ (0 < i ∧ 48 ≤ x ∧ x ≤ 57))
def wordB (s : ByteArray) : Bool := (List.range s.size).all (fun i => okC i (s.data.toList.getD i 0).toNat) && (decide (0 < s.size) && decide (s.size ≤ 64))
theorem ok_succ (s : ByteArray) (k x : Nat) (h : (List.range k).all (fun i => okC i (s.data.toList.getD i 0).toNat) = true) (hx : (s.data.toList.getD k 0).toNat = x) (ho : okC k x = true) :
    (List.range (k + 1)).all (fun i => okC i (s.data.toList.getD i 0).toNat) = true := by
  rw [List.range_succ, List.all_append, h]
  simp only [List.all_cons, List.all_nil, hx, ho, Bool.and_true]
theorem word_not (s : ByteArray) (k x : Nat) (hk : k < s.size) (hx : (s.data.toList.getD k 0).toNat = x) (ho : okC k x = false) : wordB s = false := by
  have : (List.range s.size).all (fun i => okC i (s.data.toList.getD i 0).toNat) = false := by
    rw [Bool.eq_false_iff]
    intro h
    have := List.all_eq_true.1 h k (List.mem_range.2 hk)
    rw [hx, ho] at this
    cases this
  unfold wordB
  rw [this]
  rfl
theorem idx_str {P : Program} {t : TypeId} (ht : P.underlying t = some .string) (s : ByteArray) (k : Nat) (i : Int) (hi : i = (k : Int)) (hk : k < s.size) (W : World) :
    (Instr.index t (.string s) (.int .i64 i)).run P W = .ok (.int .u8 ((s.data.toList.getD k 0).toNat : Int)) W := by
  subst hi
  have hk2 : (k : Int) < (s.size : Int) := by omega
  have e : s.data.toList.getD k 0 = s[k] := by
    rw [List.getD, List.getElem?_eq_getElem (by simpa using hk)]
    rfl
  simp [Instr.index, run_underlying ht, asIntOf, hk, e]
  rfl
/-- A call that answers yes or no; Q holds where it answers yes. -/
def YesP (Q : Prop) (w : World) (e : Ending) (w' : World) : Prop := (∃ b, e = .returned (.bool b) ∧ (b = true → Q)) ∧ Below w.heap.size w w'
theorem YesP.no {Q : Prop} {w : World} {e : Ending} {w' : World} (h : e = .returned (.bool false)) (hb : Below w.heap.size w w') : YesP Q w e w' := ⟨⟨false, h, by intro h; cases h⟩, hb⟩
theorem YesP.any {Q : Prop} {w : World} {e : Ending} {w' : World} (hq : Q) (b : Bool) (h : e = .returned (.bool b)) (hb : Below w.heap.size w w') : YesP Q w e w' := ⟨⟨b, h, fun _ => hq⟩, hb⟩
end Go.Own.Cm
namespace Go.Proofs.Ytcjcpkjdhagofaa
open Go.RowKit Go.Own Go.Own.Cm Go.Shelf
attribute [local go_sem] Oper.semAt_some
set_option maxHeartbeats 4000000 in
set_option maxRecDepth 100000 in
theorem word_any (s : ByteArray) (w : World) (hsz : s.size ≤ maxLen) :
    Calls Try.prog 42 #[.string s] w fun e w' => e = .returned (.bool (wordB s)) ∧ w' = w := by
  have hsz : s.size ≤ 9223372036854775807 := by simp only [maxLen] at hsz; omega
  go_enter Try.func42, Try.ntmps42
  go_wp2
  go_loop [3] (fun i => ∃ k : Nat, k ≤ s.size ∧ i = .int .i64 k ∧ Hid ((List.range k).all (fun i => okC i (s.data.toList.getD i 0).toNat) = true)) (fun i => s.size - (intOf i).toNat)
  case atStart => exact ⟨0, by omega, rfl, Lib.hid (by simp)⟩
  case round =>
    obtain ⟨k, hk, rfl, HA⟩ := hrel
    by_cases hlt : k < s.size
    · have hi0 := idx_str (P := Try.prog) Try.underlying9 s k (k : Int) rfl hlt
      obtain ⟨c, hc⟩ : ∃ c, s.data.toList.getD k 0 = c := ⟨_, rfl⟩
      rw [hc] at hi0
      obtain ⟨x, hx⟩ : ∃ x, c.toNat = x := ⟨_, rfl⟩
      rw [hx] at hi0
      have hx256 : x < 256 := by rw [← hx]; exact c.toNat_lt
      have HX := Lib.hid (show (s.data.toList.getD k 0).toNat = x by rw [hc]; exact hx)
      clear hc hx
      have yes : okC k x = true → Hid ((List.range (k + 1)).all (fun i => okC i (s.data.toList.getD i 0).toNat) = true) := fun h => Lib.hid (ok_succ s k x HA.out HX.out h)
      have no : okC k x = false → Hid (wordB s = false) := fun h => Lib.hid (word_not s k x hlt HX.out h)
      have cs : (97 ≤ x ∧ x ≤ 122) ∨ (65 ≤ x ∧ x ≤ 90) ∨ x = 95 ∨ (48 ≤ x ∧ x ≤ 57) ∨ x < 48 ∨ (58 ≤ x ∧ x ≤ 64) ∨ (91 ≤ x ∧ x ≤ 94) ∨ x = 96 ∨ 123 ≤ x := by omega
      rcases cs with h | h | h | h | h | h | h | h | h
      · obtain ⟨h1, h2⟩ := h
        have HN := yes (by unfold okC; simp <;> omega)
        clear yes no
        go_wp2
        exact ⟨⟨k + 1, by omega, by go_num, HN⟩, by simp [intOf]; omega⟩
      · obtain ⟨h1, h2⟩ := h
        have HN := yes (by unfold okC; simp <;> omega)
        clear yes no
        go_wp2
        exact ⟨⟨k + 1, by omega, by go_num, HN⟩, by simp [intOf]; omega⟩
      · subst h
        have HN := yes (by unfold okC; simp <;> omega)
        clear yes no
        go_wp2
        exact ⟨⟨k + 1, by omega, by go_num, HN⟩, by simp [intOf]; omega⟩
      · obtain ⟨h1, h2⟩ := h
        by_cases h0 : 0 < k
        · have HN := yes (by unfold okC; simp <;> omega)
          clear yes no
          go_wp2
          all_goals first | (exfalso; simp only [Bool.not_eq_true', Bool.not_eq_false', beq_iff_eq, beq_eq_false_iff_ne, decide_eq_true_eq, decide_eq_false_iff_not] at *; omega) | exact ⟨⟨k + 1, by omega, by go_num, HN⟩, by simp [intOf]; omega⟩
        · have HN := no (by unfold okC; simp <;> omega)
          clear yes no
          go_wp2
          all_goals first | (exfalso; simp only [Bool.not_eq_true', Bool.not_eq_false', beq_iff_eq, beq_eq_false_iff_ne, decide_eq_true_eq, decide_eq_false_iff_not] at *; omega) | (go_ret; exact ⟨by rw [HN.out]; rfl, rfl⟩)
      · have h1 := h
        have HN := no (by unfold okC; simp <;> omega)
        clear yes no
        by_cases h0 : 0 < k
        all_goals
          go_wp2
          all_goals first | (exfalso; simp only [Bool.not_eq_true', Bool.not_eq_false', beq_iff_eq, beq_eq_false_iff_ne, decide_eq_true_eq, decide_eq_false_iff_not] at *; omega) | (go_ret; exact ⟨by rw [HN.out]; rfl, rfl⟩)
      · obtain ⟨h1, h2⟩ := h
        have HN := no (by unfold okC; simp <;> omega)
        clear yes no
        by_cases h0 : 0 < k
        all_goals
          go_wp2
          all_goals first | (exfalso; simp only [Bool.not_eq_true', Bool.not_eq_false', beq_iff_eq, beq_eq_false_iff_ne, decide_eq_true_eq, decide_eq_false_iff_not] at *; omega) | (go_ret; exact ⟨by rw [HN.out]; rfl, rfl⟩)
      · obtain ⟨h1, h2⟩ := h
        have HN := no (by unfold okC; simp <;> omega)
        clear yes no
        by_cases h0 : 0 < k
        all_goals
          go_wp2
          all_goals first | (exfalso; simp only [Bool.not_eq_true', Bool.not_eq_false', beq_iff_eq, beq_eq_false_iff_ne, decide_eq_true_eq, decide_eq_false_iff_not] at *; omega) | (go_ret; exact ⟨by rw [HN.out]; rfl, rfl⟩)
      · subst h
        have HN := no (by unfold okC; simp <;> omega)
        clear yes no
        by_cases h0 : 0 < k
        all_goals
          go_wp2
          all_goals first | (exfalso; simp only [Bool.not_eq_true', Bool.not_eq_false', beq_iff_eq, beq_eq_false_iff_ne, decide_eq_true_eq, decide_eq_false_iff_not] at *; omega) | (go_ret; exact ⟨by rw [HN.out]; rfl, rfl⟩)
      · have h1 := h
        have HN := no (by unfold okC; simp <;> omega)
        clear yes no
        by_cases h0 : 0 < k
        all_goals
          go_wp2
          all_goals first | (exfalso; simp only [Bool.not_eq_true', Bool.not_eq_false', beq_iff_eq, beq_eq_false_iff_ne, decide_eq_true_eq, decide_eq_false_iff_not] at *; omega) | (go_ret; exact ⟨by rw [HN.out]; rfl, rfl⟩)
    · obtain rfl : k = s.size := by omega
      have HF : Hid (wordB s = (decide (0 < s.size) && decide (s.size ≤ 64))) := Lib.hid (by unfold wordB; rw [HA.out]; rfl)
      by_cases h0 : (0 : Int) < (s.size : Int)
      · by_cases h64 : (s.size : Int) ≤ 64
        · go_wp2
          go_ret
          exact ⟨by rw [HF.out, decide_eq_true (show 0 < s.size by omega), decide_eq_true (show s.size ≤ 64 by omega)]; rfl, rfl⟩
        · go_wp2
          go_ret
          exact ⟨by rw [HF.out, decide_eq_true (show 0 < s.size by omega), decide_eq_false (show ¬ s.size ≤ 64 by omega)]; rfl, rfl⟩
      · go_wp2
        go_ret
        exact ⟨by rw [HF.out, decide_eq_false (show ¬ 0 < s.size by omega)]; rfl, rfl⟩
set_option maxHeartbeats 4000000 in
set_option maxRecDepth 100000 in
theorem one_any (a b c' d : Bool) (w : World) : Calls Try.prog 43 #[.bool a, .bool b, .bool c', .bool d] w fun e w' => (∃ r, e = .returned (.bool r)) ∧ Below w.heap.size w w' := by
  go_enter Try.func43, Try.ntmps43
  have HB := Lib.hid ((Below.refl w.heap.size w).alloc (Nat.le_refl _) (.cells #[.bool a, .bool b, .bool c', .bool d] 4))
  have HN := Lib.hid (Blk.new w 4 #[.bool a, .bool b, .bool c', .bool d])
  go_wp2
  go_loopw [11, 9] (fun i c wr => ∃ (k : Nat) (n : Nat), k ≤ 4 ∧ n ≤ k ∧ i = .int .i64 (k : Int) ∧ c = .int .i64 (n : Int) ∧ Hid (Below w.heap.size w wr ∧ Blk wr w.heap.size 4 #[.bool a, .bool b, .bool c', .bool d])) (fun i _ _ => 4 - (intOf i).toNat)
  case atStart => exact ⟨0, 0, by omega, by omega, rfl, rfl, Lib.hid ⟨HB.out, HN.out⟩⟩
  case round =>
    obtain ⟨k, n, hk, hn, rfl, rfl, hh⟩ := hrel
    have HB2 := Lib.hid hh.out.1
    have HN2 := Lib.hid hh.out.2
    clear hh
    by_cases hlt : k < 4
    · obtain ⟨x, hx⟩ : ∃ x : Bool, (#[Value.bool a, .bool b, .bool c', .bool d])[k]? = some (.bool x) := by
        obtain rfl | rfl | rfl | rfl : k = 0 ∨ k = 1 ∨ k = 2 ∨ k = 3 := by omega
        · exact ⟨_, rfl⟩
        · exact ⟨_, rfl⟩
        · exact ⟨_, rfl⟩
        · exact ⟨_, rfl⟩
      have c0 := HN2.out.cell k
      rw [hx] at c0
      have i0 : (0 : Int) ≤ (k : Int) := by omega
      have i1 : (k : Int) < 4 := by omega
      clear hx
      rcases x with _ | _
      · go_wp2
        exact ⟨⟨k + 1, n, by omega, by omega, by go_num, rfl, Lib.hid ⟨HB2.out, HN2.out⟩⟩, by simp [intOf]; omega⟩
      · go_wp2
        exact ⟨⟨k + 1, n + 1, by omega, by omega, by go_num, by go_num, Lib.hid ⟨HB2.out, HN2.out⟩⟩, by simp [intOf]; omega⟩
    · obtain rfl : k = 4 := by omega
      go_wp2
      go_ret
      exact ⟨⟨_, rfl⟩, HB2.out⟩
end Go.Proofs.Ytcjcpkjdhagofaa
