/-
  frame.Open, type by type: data, headers without a priority, resets, pings, GOAWAY, windows, pieces of header lists, and what is not known.
  Contracts: how what a frame says is written: frame.data, the closures of types.
-/
import Derived.Test.YtkpppjhbmnfmkaaGreatDoorFq
import Derived.Test.YtkpppjhbmnfmkaaGreatDoorFr
set_option linter.unusedSimpArgs false
set_option linter.unusedVariables false
section
namespace Go.Proofs.YtkpppjhbmnfmkaaGreatDoor
open Go.RowKit Go.Own Go.Own.Fr Go.Own.Im
theorem enter_rest : Enters Tryz.prog 175 := enters_of Tryz.func175 (by kernel_rfl) rfl
theorem enter_heads : Enters Tryz.prog 177 := enters_of Tryz.func177 (by kernel_rfl) rfl
theorem enter_away : Enters Tryz.prog 189 := enters_of Tryz.func189 (by kernel_rfl) rfl
theorem enter_exact : Enters Tryz.prog 215 := enters_of Tryz.func215 (by kernel_rfl) rfl
theorem enter_reset : Enters Tryz.prog 183 := enters_of Tryz.func183 (by kernel_rfl) rfl
theorem enter_window : Enters Tryz.prog 191 := enters_of Tryz.func191 (by kernel_rfl) rfl
set_option maxHeartbeats 1000000 in
theorem open_plain (t f s : Nat) (A : Option Addr) (n c B : Nat) (l : List UInt8) (W : World) (hr : Rd W B A n l) (hB : B ≤ W.heap.size) (hc : n ≤ c) (hn : n ≤ 1000000000) (ht : t ≤ 255) (hf : f ≤ 255) (hs : s ≤ 2147483647) (hp : hasF t f 8 = false)
    (hk : t ≠ 2 ∧ t ≠ 4 ∧ t ≠ 5 ∧ (t = 1 → hasF t f 32 = false)) :
    Calls Tryz.prog 104 #[.agg #[.int .i64 (t : Nat), .int .i64 (f : Nat), .int .i64 (s : Nat), .slice A n c]] W (OpPost W t f s l) := by
  have hl := hr.1
  refine open_any t f s A n c B l W hr hB ht hf hs hp fun W' g g3 g6 g8 hb hE hI hg => ?_
  have hr' : Rd W' W.heap.size A n l := (hr.more hB).below hb
  have hB' : W.heap.size ≤ W'.heap.size := hb.size
  obtain ⟨k2, k4, k5, k1⟩ := hk
  have hcase : t = 0 ∨ t = 1 ∨ t = 3 ∨ t = 6 ∨ t = 7 ∨ t = 8 ∨ t = 9 ∨ ¬ t ≤ 9 := by omega
  rcases hcase with rfl | rfl | rfl | rfl | rfl | rfl | rfl | h9
  · exact ⟨_, #[], rfl, enter_rest, rest_rd g _ A n c _ l W' hI hr' hB' (by omega) rfl rfl⟩
  · exact ⟨_, #[], rfl, enter_heads, rdHeads g _ A n c _ l W' hI hr' hB' (by omega) rfl (k1 rfl) rfl⟩
  · refine ⟨_, _, rfl, enter_exact, exact_any g g3 4 183 _ A n c _ l W' enter_reset hE.1 hr' (fun h => ?_) (fun h => ?_)⟩
    · show (if l.length = 4 then _ else _) = _
      rw [if_neg (by omega)]
    · subst h
      exact rdReset g _ A c _ l W' hI hr' rfl ⟨rfl, rfl⟩
  · refine ⟨_, _, rfl, enter_exact, exact_any g g6 8 175 _ A n c _ l W' enter_rest hE.2.1 hr' (fun h => ?_) (fun h => ?_)⟩
    · show (if l.length = 8 then _ else _) = _
      rw [if_neg (by omega)]
    · refine rest_rd g _ A n c _ l W' hI hr' hB' (by omega) rfl ?_
      show (if l.length = 8 then _ else _) = _
      rw [if_pos (by omega)]
  · exact ⟨_, #[], rfl, enter_away, rdAway g _ A n c _ l W' hI hr' hB' hc (by omega) rfl rfl⟩
  · refine ⟨_, _, rfl, enter_exact, exact_any g g8 4 191 _ A n c _ l W' enter_window hE.2.2 hr' (fun h => ?_) (fun h => ?_)⟩
    · show (if l.length = 4 then _ else _) = _
      rw [if_neg (by omega)]
    · subst h
      exact rdWindow g _ A c _ l W' hI hr' rfl ⟨rfl, rfl⟩
  · exact ⟨_, #[], rfl, enter_rest, rest_rd g _ A n c _ l W' hI hr' hB' (by omega) rfl rfl⟩
  · refine ⟨_, #[], rdV_big g3 g6 g8 t h9, enter_rest, rest_rd g _ A n c _ l W' hI hr' hB' (by omega) rfl ?_⟩
    unfold rd
    split <;> first | (rename_i h; have : (info0 t f s).typ = t := rfl; omega) | rfl
end Go.Proofs.YtkpppjhbmnfmkaaGreatDoor
end

section
namespace Go.Proofs.YtkpppjhbmnfmkaaGreatDoor
open Go.RowKit Go.Own Go.Own.Fr Go.Own.Im
set_option maxHeartbeats 1000000 in
set_option maxRecDepth 100000 in
theorem data_any (i : Inf) (sv dv : Value) (W : World) : Calls Tryz.prog 176 #[.agg (infC i sv dv)] W fun e w' => e = .returned dv ∧ Below W.heap.size W w' := by
  have h17 : (infC i sv dv)[17]? = some dv := rfl
  go_enter Tryz.func176, Tryz.ntmps176
  go_wp2
  go_ret
  exact ⟨rfl, (Below.refl _ _).alloc (Nat.le_refl _) _⟩
set_option maxHeartbeats 1000000 in
set_option maxRecDepth 100000 in
/-- A reset's four bytes. -/
theorem wrReset (i : Inf) (sv dv : Value) (W : World) (hc : i.code < 9223372036854775808) : Calls Tryz.prog 184 #[.agg (infC i sv dv)] W fun e w' => ∃ v, e = .returned v ∧ Ow w' W.heap.size 5 v 4 (be i.code 4) ∧ Below W.heap.size W w' := by
  have h12 : (infC i sv dv)[12]? = some (.int .i64 (i.code : Nat)) := rfl
  have HN := Lib.hid (fun (w : World) (hw : W.heap.size ≤ w.heap.size) => number_any (.slice none 0 0) 0 [] i.code 4 W.heap.size w (ow_nil _ _ _) hw (by omega) (by omega) hc)
  clear hc
  go_enter Tryz.func184, Tryz.ntmps184
  go_wp2_with fail
  refine (HN.out _ (by simp)).mono ?_
  rintro e w1 ⟨v, rfl, ho, hg, _⟩
  have HO := Lib.hid ho
  have HB := Lib.hid (((Below.refl W.heap.size W).alloc (Nat.le_refl _) (.cells (infC i sv dv) 91)).grown hg (by simp) (fun g e => by cases e))
  clear ho hg
  go_wp2
  go_ret
  exact ⟨v, rfl, by simpa using HO.out, HB.out⟩
set_option maxHeartbeats 1000000 in
set_option maxRecDepth 100000 in
/-- A window's four bytes. -/
theorem wrWindow (i : Inf) (sv dv : Value) (W : World) (hc : i.inc < 9223372036854775808) : Calls Tryz.prog 192 #[.agg (infC i sv dv)] W fun e w' => ∃ v, e = .returned v ∧ Ow w' W.heap.size 5 v 4 (be i.inc 4) ∧ Below W.heap.size W w' := by
  have h14 : (infC i sv dv)[14]? = some (.int .i64 (i.inc : Nat)) := rfl
  have HN := Lib.hid (fun (w : World) (hw : W.heap.size ≤ w.heap.size) => number_any (.slice none 0 0) 0 [] i.inc 4 W.heap.size w (ow_nil _ _ _) hw (by omega) (by omega) hc)
  clear hc
  go_enter Tryz.func192, Tryz.ntmps192
  go_wp2_with fail
  refine (HN.out _ (by simp)).mono ?_
  rintro e w1 ⟨v, rfl, ho, hg, _⟩
  have HO := Lib.hid ho
  have HB := Lib.hid (((Below.refl W.heap.size W).alloc (Nat.le_refl _) (.cells (infC i sv dv) 91)).grown hg (by simp) (fun g e => by cases e))
  clear ho hg
  go_wp2
  go_ret
  exact ⟨v, rfl, by simpa using HO.out, HB.out⟩
end Go.Proofs.YtkpppjhbmnfmkaaGreatDoor
end
