/-
  Contracts: kinds and what is asked of two fields (compat's and the document's).
-/
import Derived.Test.YtcjcpkjdhagofaaProg
import Derived.Test.YtcjcpkjdhagofaaSch
import Derived.Shelf.Abstract
namespace Go.Proofs.Ytcjcpkjdhagofaa
open Go.RowKit Go.Own Go.Own.Cm Go.Shelf
attribute [local go_sem] Oper.semAt_some
set_option maxHeartbeats 1000000 in
theorem family_any (k : Int) (w : World) : Calls Try.prog 26 #[.int .i64 k] w fun e w' => e = .returned (.int .i64 (fam k)) ∧ w' = w := by
  go_enter Try.func26, Try.ntmps26
  go_wp2
  all_goals
    go_ret
    refine ⟨?_, rfl⟩
    unfold fam
    simp_all
set_option maxHeartbeats 1000000 in
theorem group_any (k : Int) (w : World) : Calls Try.prog 27 #[.int .i64 k] w fun e w' => e = .returned (.int .i64 (grp k)) ∧ w' = w := by
  go_enter Try.func27, Try.ntmps27
  go_wp2
  all_goals
    go_ret
    refine ⟨?_, rfl⟩
    unfold grp
    simp_all
set_option maxHeartbeats 1000000 in
theorem digits_any (k : Int) (w : World) : Calls Try.prog 57 #[.int .i64 k] w fun e w' => e = .returned (.int .i64 (digs k)) ∧ w' = w := by
  go_enter Try.func57, Try.ntmps57
  go_wp2
  all_goals
    go_ret
    refine ⟨?_, rfl⟩
    unfold digs
    simp_all
set_option maxHeartbeats 1000000 in
theorem said_any (k : Int) (w : World) : Calls Try.prog 45 #[.int .i64 k] w fun e w' => e = .returned (.int .i64 (saidK k)) ∧ w' = w := by
  go_enter Try.func45, Try.ntmps45
  go_wp2
  all_goals
    go_ret
    refine ⟨?_, rfl⟩
    unfold saidK
    simp_all
set_option maxHeartbeats 1000000 in
theorem alikeF_any (a b : Int) (w : World) : Calls Try.prog 14 #[.int .i64 a, .int .i64 b] w fun e w' => e = .returned (.bool (alikeF a b)) ∧ w' = w := by
  have HA := Lib.hid (family_any a)
  have HB := Lib.hid (family_any b)
  obtain ⟨x, hx⟩ : ∃ x, fam a = x := ⟨_, rfl⟩
  obtain ⟨y, hy⟩ : ∃ y, fam b = y := ⟨_, rfl⟩
  have HX := Lib.hid hx
  have HY := Lib.hid hy
  rw [hx] at HA
  rw [hy] at HB
  clear hx hy
  go_enter Try.func14, Try.ntmps14
  go_wp2_with (first | ((with_reducible refine (HA.out _).mono ?_) ; rintro e w2 ⟨rfl, rfl⟩) | ((with_reducible refine (HB.out _).mono ?_) ; rintro e w2 ⟨rfl, rfl⟩))
  all_goals
    go_ret
    refine ⟨?_, rfl⟩
    unfold alikeF
    rw [HX.out, HY.out]
    simp_all
set_option maxHeartbeats 1000000 in
theorem alikeB_any (a b : Int) (w : World) : Calls Try.prog 15 #[.int .i64 a, .int .i64 b] w fun e w' => e = .returned (.bool (alikeB a b)) ∧ w' = w := by
  have HA := Lib.hid (group_any a)
  have HB := Lib.hid (group_any b)
  obtain ⟨x, hx⟩ : ∃ x, grp a = x := ⟨_, rfl⟩
  obtain ⟨y, hy⟩ : ∃ y, grp b = y := ⟨_, rfl⟩
  have HX := Lib.hid hx
  have HY := Lib.hid hy
  rw [hx] at HA
  rw [hy] at HB
  clear hx hy
  go_enter Try.func15, Try.ntmps15
  go_wp2_with (first | ((with_reducible refine (HA.out _).mono ?_) ; rintro e w2 ⟨rfl, rfl⟩) | ((with_reducible refine (HB.out _).mono ?_) ; rintro e w2 ⟨rfl, rfl⟩))
  all_goals
    go_ret
    refine ⟨?_, rfl⟩
    unfold alikeB
    rw [HX.out, HY.out]
    simp_all
set_option maxHeartbeats 1000000 in
theorem shown_any (a b : Int) (w : World) : Calls Try.prog 52 #[.int .i64 a, .int .i64 b] w fun e w' => e = .returned (.bool (shownB a b)) ∧ w' = w := by
  have HA := Lib.hid (digits_any a)
  have HB := Lib.hid (digits_any b)
  obtain ⟨x, hx⟩ : ∃ x, digs a = x := ⟨_, rfl⟩
  obtain ⟨y, hy⟩ : ∃ y, digs b = y := ⟨_, rfl⟩
  have HX := Lib.hid hx
  have HY := Lib.hid hy
  rw [hx] at HA
  rw [hy] at HB
  clear hx hy
  go_enter Try.func52, Try.ntmps52
  go_wp2_with (first | ((with_reducible refine (HA.out _).mono ?_) ; rintro e w2 ⟨rfl, rfl⟩) | ((with_reducible refine (HB.out _).mono ?_) ; rintro e w2 ⟨rfl, rfl⟩))
  all_goals
    go_ret
    refine ⟨?_, rfl⟩
    unfold shownB
    rw [HX.out, HY.out]
    simp_all
abbrev FldV.val (f : FldV) : Value := .agg f.cells
/-- A question about two fields. -/
def AskPost (b : Bool) (w : World) (e : Ending) (w' : World) : Prop := e = .returned (.bool b) ∧ Below w.heap.size w w'
set_option maxHeartbeats 1000000 in
set_option maxRecDepth 100000 in
theorem labelC_any (f g : FldV) (w : World) : Calls Try.prog 49 #[.agg f.cells, .agg g.cells] w (AskPost (labelB f g) w) := by
  have HP : Hid (∀ b, labelB f g = b → ∀ w', Below w.heap.size w w' → AskPost (labelB f g) w (.returned (.bool b)) w') := Lib.hid (by rintro b rfl w' h; exact ⟨rfl, h⟩)
  obtain ⟨n1, n2, n3, n4, a, b, c, p, q, r⟩ := f
  obtain ⟨m1, m2, m3, m4, a', b', c', p', q', r'⟩ := g
  simp only [FldV.cells]
  go_enter Try.func49, Try.ntmps49
  go_wp2
  all_goals
    go_ret
    refine HP.out _ ?_ _ (((Below.refl _ _).alloc (Nat.le_refl _) _).alloc (by simp) _)
    clear HP
    unfold labelB
    first | done | (simp_all [sameT]; done) | (cases q <;> cases q' <;> simp_all)
set_option maxHeartbeats 1000000 in
set_option maxRecDepth 100000 in
theorem labelR_any (f g : FldV) (w : World) : Calls Try.prog 44 #[.agg f.cells, .agg g.cells] w (AskPost (labelB f g) w) := by
  have HP : Hid (∀ b, labelB f g = b → ∀ w', Below w.heap.size w w' → AskPost (labelB f g) w (.returned (.bool b)) w') := Lib.hid (by rintro b rfl w' h; exact ⟨rfl, h⟩)
  obtain ⟨n1, n2, n3, n4, a, b, c, p, q, r⟩ := f
  obtain ⟨m1, m2, m3, m4, a', b', c', p', q', r'⟩ := g
  simp only [FldV.cells]
  go_enter Try.func44, Try.ntmps44
  go_wp2
  all_goals
    go_ret
    refine HP.out _ ?_ _ (((Below.refl _ _).alloc (Nat.le_refl _) _).alloc (by simp) _)
    clear HP
    unfold labelB
    first | done | (simp_all [sameT]; done) | (cases q <;> cases q' <;> simp_all)
set_option maxHeartbeats 1000000 in
set_option maxRecDepth 100000 in
theorem oneof_any (f g : FldV) (w : World) : Calls Try.prog 51 #[.agg f.cells, .agg g.cells] w (AskPost (oneB f g) w) := by
  have HP : Hid (∀ b, oneB f g = b → ∀ w', Below w.heap.size w w' → AskPost (oneB f g) w (.returned (.bool b)) w') := Lib.hid (by rintro b rfl w' h; exact ⟨rfl, h⟩)
  obtain ⟨n1, n2, n3, n4, a, b, c, p, q, r⟩ := f
  obtain ⟨m1, m2, m3, m4, a', b', c', p', q', r'⟩ := g
  simp only [FldV.cells]
  go_enter Try.func51, Try.ntmps51
  go_wp2
  all_goals
    go_ret
    refine HP.out _ ?_ _ (((Below.refl _ _).alloc (Nat.le_refl _) _).alloc (by simp) _)
    clear HP
    unfold oneB
    first | done | (simp_all [sameT]; done) | (cases q <;> cases q' <;> simp_all)
set_option maxHeartbeats 1000000 in
set_option maxRecDepth 100000 in
theorem refW_any (f g : FldV) (w : World) : Calls Try.prog 50 #[.agg f.cells, .agg g.cells] w (AskPost (refW f g) w) := by
  have HP : Hid (∀ b, refW f g = b → ∀ w', Below w.heap.size w w' → AskPost (refW f g) w (.returned (.bool b)) w') := Lib.hid (by rintro b rfl w' h; exact ⟨rfl, h⟩)
  obtain ⟨n1, n2, n3, n4, a, b, c, p, q, r⟩ := f
  obtain ⟨m1, m2, m3, m4, a', b', c', p', q', r'⟩ := g
  simp only [FldV.cells]
  go_enter Try.func50, Try.ntmps50
  go_wp2
  all_goals
    go_ret
    refine HP.out _ ?_ _ (((Below.refl _ _).alloc (Nat.le_refl _) _).alloc (by simp) _)
    clear HP
    unfold refW
    first | done | (simp_all [sameT]; done) | (cases q <;> cases q' <;> simp_all)
set_option maxHeartbeats 1000000 in
set_option maxRecDepth 100000 in
theorem refC_any (f g : FldV) (w : World) : Calls Try.prog 53 #[.agg f.cells, .agg g.cells] w (AskPost (refC f g) w) := by
  have HP : Hid (∀ b, refC f g = b → ∀ w', Below w.heap.size w w' → AskPost (refC f g) w (.returned (.bool b)) w') := Lib.hid (by rintro b rfl w' h; exact ⟨rfl, h⟩)
  obtain ⟨n1, n2, n3, n4, a, b, c, p, q, r⟩ := f
  obtain ⟨m1, m2, m3, m4, a', b', c', p', q', r'⟩ := g
  simp only [FldV.cells]
  go_enter Try.func53, Try.ntmps53
  go_wp2
  all_goals
    go_ret
    refine HP.out _ ?_ _ (((Below.refl _ _).alloc (Nat.le_refl _) _).alloc (by simp) _)
    clear HP
    unfold refC
    first | done | (simp_all [sameT]; done) | (cases q <;> cases q' <;> simp_all)
set_option maxHeartbeats 1000000 in
set_option maxRecDepth 100000 in
theorem name_any (f g : FldV) (w : World) : Calls Try.prog 54 #[.agg f.cells, .agg g.cells] w (AskPost (nameB f g) w) := by
  have HP : Hid (∀ b, nameB f g = b → ∀ w', Below w.heap.size w w' → AskPost (nameB f g) w (.returned (.bool b)) w') := Lib.hid (by rintro b rfl w' h; exact ⟨rfl, h⟩)
  obtain ⟨n1, n2, n3, n4, a, b, c, p, q, r⟩ := f
  obtain ⟨m1, m2, m3, m4, a', b', c', p', q', r'⟩ := g
  simp only [FldV.cells]
  go_enter Try.func54, Try.ntmps54
  go_wp2
  all_goals
    go_ret
    refine HP.out _ ?_ _ (((Below.refl _ _).alloc (Nat.le_refl _) _).alloc (by simp) _)
    clear HP
    unfold nameB
    first | done | (simp_all [sameT]; done) | (cases q <;> cases q' <;> simp_all)
set_option maxHeartbeats 1000000 in
set_option maxRecDepth 100000 in
theorem unlikeF_any (f g : FldV) (gb : Nat) (w : World) (hb : Blk w gb 39 #[.func (.func 14) #[] #[]]) : Calls Try.prog 56 #[.agg f.cells, .agg g.cells, .pointer (some ⟨gb, 0, none⟩)] w (AskPost (unlikeB alikeF f g) w) := by
  have HP : Hid (∀ b, unlikeB alikeF f g = b → ∀ w', Below w.heap.size w w' → AskPost (unlikeB alikeF f g) w (.returned (.bool b)) w') := Lib.hid (by rintro b rfl w' h; exact ⟨rfl, h⟩)
  obtain ⟨n1, n2, n3, n4, a, b, c, p, q, r⟩ := f
  obtain ⟨m1, m2, m3, m4, a', b', c', p', q', r'⟩ := g
  have HA := Lib.hid (alikeF_any b b')
  have HB := Lib.hid (alikeF_any c c')
  obtain ⟨x, hx⟩ : ∃ x, alikeF b b' = x := ⟨_, rfl⟩
  obtain ⟨y, hy⟩ : ∃ y, alikeF c c' = y := ⟨_, rfl⟩
  have HX := Lib.hid hx
  have HY := Lib.hid hy
  rw [hx] at HA
  rw [hy] at HB
  clear hx hy
  have l1 := hb.lt
  have c1 : w.cell? ⟨gb, 0, none⟩ = some (.func (.func 14) #[] #[]) := hb.cell 0
  clear hb
  simp only [FldV.cells]
  have hE : ∀ args w, (callFunc 14 args).run Try.prog w = .ok (.enter 14 args) w := enters_of Try.func14 (by kernel_rfl) rfl
  go_enter Try.func56, Try.ntmps56
  go_wp2_with (first | ((with_reducible refine (HA.out _).mono ?_) ; rintro e w2 ⟨rfl, rfl⟩) | ((with_reducible refine (HB.out _).mono ?_) ; rintro e w2 ⟨rfl, rfl⟩))
  all_goals
    go_ret
    refine HP.out _ ?_ _ (((Below.refl _ _).alloc (Nat.le_refl _) _).alloc (by simp) _)
    clear HP
    have HX := HX.out
    have HY := HY.out
    unfold unlikeB
    simp_all
set_option maxHeartbeats 1000000 in
set_option maxRecDepth 100000 in
theorem unlikeS_any (f g : FldV) (gb : Nat) (w : World) (hb : Blk w gb 39 #[.func (.func 52) #[] #[]]) : Calls Try.prog 56 #[.agg f.cells, .agg g.cells, .pointer (some ⟨gb, 0, none⟩)] w (AskPost (unlikeB shownB f g) w) := by
  have HP : Hid (∀ b, unlikeB shownB f g = b → ∀ w', Below w.heap.size w w' → AskPost (unlikeB shownB f g) w (.returned (.bool b)) w') := Lib.hid (by rintro b rfl w' h; exact ⟨rfl, h⟩)
  obtain ⟨n1, n2, n3, n4, a, b, c, p, q, r⟩ := f
  obtain ⟨m1, m2, m3, m4, a', b', c', p', q', r'⟩ := g
  have HA := Lib.hid (shown_any b b')
  have HB := Lib.hid (shown_any c c')
  obtain ⟨x, hx⟩ : ∃ x, shownB b b' = x := ⟨_, rfl⟩
  obtain ⟨y, hy⟩ : ∃ y, shownB c c' = y := ⟨_, rfl⟩
  have HX := Lib.hid hx
  have HY := Lib.hid hy
  rw [hx] at HA
  rw [hy] at HB
  clear hx hy
  have l1 := hb.lt
  have c1 : w.cell? ⟨gb, 0, none⟩ = some (.func (.func 52) #[] #[]) := hb.cell 0
  clear hb
  simp only [FldV.cells]
  have hE : ∀ args w, (callFunc 52 args).run Try.prog w = .ok (.enter 52 args) w := enters_of Try.func52 (by kernel_rfl) rfl
  go_enter Try.func56, Try.ntmps56
  go_wp2_with (first | ((with_reducible refine (HA.out _).mono ?_) ; rintro e w2 ⟨rfl, rfl⟩) | ((with_reducible refine (HB.out _).mono ?_) ; rintro e w2 ⟨rfl, rfl⟩))
  all_goals
    go_ret
    refine HP.out _ ?_ _ (((Below.refl _ _).alloc (Nat.le_refl _) _).alloc (by simp) _)
    clear HP
    have HX := HX.out
    have HY := HY.out
    unfold unlikeB
    simp_all
end Go.Proofs.Ytcjcpkjdhagofaa
