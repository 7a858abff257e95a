/-
  Contracts: the reader's two and fraction.
-/
import Derived.Test.YtacmlpgakibdgaaDoorRd1
namespace Go.Own.Dig
open Go.Lib
theorem rdl_bd : ∀ k s n c, n < 10 ^ c → (rdl k s n c).1 < 10 ^ (rdl k s n c).2.1 ∧ (rdl k s n c).2.1 ≤ c + k ∧ (rdl k s n c).2.2.length ≤ s.length
  | 0, s, n, c, h => ⟨h, Nat.le_refl _, Nat.le_refl _⟩
  | k + 1, [], n, c, h => ⟨h, by simp [rdl], Nat.le_refl _⟩
  | k + 1, b :: r, n, c, h => by
    rw [rdl]
    by_cases hd : isD b = true
    · rw [if_pos hd]
      have hb := of_decide_eq_true hd
      obtain ⟨h1, h2, h3⟩ := rdl_bd k r (10 * n + (b.toNat - 48)) (c + 1) (by rw [Nat.pow_succ]; omega)
      exact ⟨h1, by omega, by simp; omega⟩
    · rw [if_neg hd]; exact ⟨h, by simp, Nat.le_refl _⟩
theorem trim_len (s p : List UInt8) : (trimPrefix s p).length ≤ s.length := by
  unfold trimPrefix; split
  · simp
  · exact Nat.le_refl _
theorem must_len (p : List UInt8) (x : St) : (rMust p x).1.length ≤ x.1.length := trim_len _ _
theorem dig_len (lo hi : Nat) (x : St) : (rDig lo hi x).2.2.1.length ≤ x.1.length := (rdl_bd hi x.1 0 0 (by simp)).2.2
theorem dig_bd (lo hi : Nat) (x : St) : (rDig lo hi x).1 < 10 ^ (rDig lo hi x).2.1 ∧ (rDig lo hi x).2.1 ≤ hi := by
  have := rdl_bd hi x.1 0 0 (by simp)
  exact ⟨this.1, by have := this.2.1; simp only [Nat.zero_add] at this; exact this⟩
theorem two_len (x : St) : (rTwo x).2.1.length ≤ x.1.length := dig_len 2 2 x
theorem pow_le_of (a b : Nat) (h : a ≤ b) : 10 ^ a ≤ 10 ^ b := Nat.pow_le_pow_right (by omega) h
theorem two_bd (x : St) : (rTwo x).1 < 100 := by
  have h := dig_bd 2 2 x
  have := pow_le_of _ _ h.2
  unfold rTwo
  simp only
  omega
theorem frac_len (x : St) : (rFrac x).2.1.length ≤ x.1.length := by
  unfold rFrac
  split
  · exact Nat.le_trans (dig_len 1 9 _) (trim_len _ _)
  · exact Nat.le_refl _
theorem frac_bd (x : St) : (rFrac x).1 < 1000000000 := by
  unfold rFrac
  split
  · have h := dig_bd 1 9 (trimPrefix x.1 [46], x.2)
    simp only
    generalize rDig 1 9 (trimPrefix x.1 [46], x.2) = R at *
    have e : 10 ^ R.2.1 * 10 ^ (9 - R.2.1) = 10 ^ 9 := by rw [← Nat.pow_add]; congr 1; omega
    have : R.1 * 10 ^ (9 - R.2.1) < 10 ^ R.2.1 * 10 ^ (9 - R.2.1) := Nat.mul_lt_mul_of_pos_right h.1 (Nat.pow_pos (by omega))
    omega
  · simp
end Go.Own.Dig
namespace Go.Proofs.YtacmlpgakibdgaaDoor
open Go.RowKit Go.Own Go.Own.Dig Go.Own.Alg

set_option maxHeartbeats 400000 in
theorem two_any (g : Nat) (l : List UInt8) (bad : Bool) (w : World) (hb : RB w g (l, bad)) (hl : l.length ≤ 1000000000000) :
    Calls Tryd.prog 29 #[.pointer (some ⟨g, 0, none⟩)] w fun e w' => e = .returned (.int .i64 ((rTwo (l, bad)).1 : Int)) ∧ RdPost g (rTwo (l, bad)).2 w w' := by
  have HD := Lib.hid (digits_any g 2 2 l bad w hb (by omega) (by omega) hl)
  unfold rTwo
  generalize rDig 2 2 (l, bad) = R at *
  clear hb
  go_enter Tryd.func29, Tryd.ntmps29
  go_wp2_with fail
  refine HD.out.mono ?_
  rintro e w1 ⟨rfl, hp⟩
  have HP := Lib.hid hp
  clear hp
  go_wp2
  go_ret
  exact ⟨rfl, HP.out⟩

set_option maxHeartbeats 400000 in
theorem rfrac_any (g : Nat) (l : List UInt8) (bad : Bool) (w : World) (hb : RB w g (l, bad)) (hl : l.length ≤ 1000000000000) :
    Calls Tryd.prog 30 #[.pointer (some ⟨g, 0, none⟩)] w fun e w' => e = .returned (.int .i64 ((rFrac (l, bad)).1 : Int)) ∧ RdPost g (rFrac (l, bad)).2 w w' := by
  have HT := Lib.hid (take_any g l [46] bad w hb)
  have htl := trim_len l [46]
  by_cases hh : Lib.hasPrefix l [46] = true
  · have HX : Hid (rFrac (l, bad) = ((rDig 1 9 (Lib.trimPrefix l [46], bad)).1 * 10 ^ (9 - (rDig 1 9 (Lib.trimPrefix l [46], bad)).2.1), (rDig 1 9 (Lib.trimPrefix l [46], bad)).2.2)) := Lib.hid (by unfold rFrac; rw [if_pos hh])
    rw [hh] at HT
    have HD := Lib.hid (fun W (h : RB W g (Lib.trimPrefix l [46], bad)) => digits_any g 1 9 (Lib.trimPrefix l [46]) bad W h (by omega) (by omega) (by omega))
    obtain ⟨hb1, hb2⟩ := dig_bd 1 9 (Lib.trimPrefix l [46], bad)
    generalize rDig 1 9 (Lib.trimPrefix l [46], bad) = R at *
    obtain ⟨n, c, st⟩ := R
    simp only at hb1 hb2 HX HD
    have HN := Lib.hid hb1
    clear hb hh hb1 htl
    go_enter Tryd.func30, Tryd.ntmps30
    go_wp2_with fail
    refine HT.out.mono ?_
    rintro e w1 ⟨rfl, hp⟩
    have HP := Lib.hid hp
    clear hp
    go_wp2_with fail
    refine (HD.out _ (by exact HP.out.1)).mono ?_
    rintro e w2 ⟨rfl, hp2⟩
    have HP2 := Lib.hid (HP.out.trans hp2)
    clear hp2
    go_wp2_with fail
    go_loop [3, 4] (fun nv cv => ∃ j : Nat, c + j ≤ 9 ∧ cv = .int .i64 ((c + j : Nat) : Int) ∧ nv = .int .i64 ((n * 10 ^ j : Nat) : Int)) (fun _ cv => 9 - (intOf cv).toNat)
    case atStart => exact ⟨0, by omega, rfl, by simp⟩
    case round =>
      obtain ⟨j, hj, rfl, rfl⟩ := hrel
      have hnj : n * 10 ^ j < 10 ^ (c + j) := by rw [Nat.pow_add]; exact Nat.mul_lt_mul_of_pos_right HN.out (Nat.pow_pos (by omega))
      have hpw := pow_le_of _ _ hj
      have hnb : n * 10 ^ j ≤ 1000000000 := by omega
      have HS : Hid (n * 10 ^ (j + 1) = n * 10 ^ j * 10) := Lib.hid (by rw [Nat.pow_succ, Nat.mul_assoc])
      have HZ : Hid (c + j = 9 → n * 10 ^ j = n * 10 ^ (9 - c)) := Lib.hid (fun h => by rw [show 9 - c = j by omega])
      clear hnj hpw
      generalize hM : n * 10 ^ j = M at *
      generalize hC : c + j = C at *
      have HC := Lib.hid hC
      have HM := Lib.hid hM
      clear hC hM
      by_cases hlt : C < 9
      · go_wp2
        go_round
        case rel => exact ⟨j + 1, by have := HC.out; omega, congrArg (Value.int .i64) (by have := HC.out; omega), congrArg (Value.int .i64) (by rw [HS.out]; omega)⟩
        case measure => simp [intOf]; omega
      · go_wp2
        go_ret
        exact ⟨by rw [HX.out, ← HZ.out (by omega)]; rfl, by rw [HX.out]; exact HP2.out⟩
  · have hh' : Lib.hasPrefix l [46] = false := by simpa using hh
    have HX : Hid (rFrac (l, bad) = (0, (Lib.trimPrefix l [46], bad))) := Lib.hid (by unfold rFrac; rw [if_neg hh]; unfold Lib.trimPrefix; rw [hh']; rfl)
    rw [hh'] at HT
    clear hb hh hh' htl
    go_enter Tryd.func30, Tryd.ntmps30
    go_wp2_with fail
    refine HT.out.mono ?_
    rintro e w1 ⟨rfl, hp⟩
    have HP := Lib.hid hp
    clear hp
    go_wp2
    go_ret
    exact ⟨by rw [HX.out]; rfl, by rw [HX.out]; exact HP.out⟩
end Go.Proofs.YtacmlpgakibdgaaDoor
