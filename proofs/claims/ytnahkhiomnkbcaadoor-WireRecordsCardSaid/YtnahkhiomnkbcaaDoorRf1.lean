/-
  Contracts of the document's answer: parleyref1.Uvarint, Untag, Unfixed, closed.
-/
import Derived.Test.YtnahkhiomnkbcaaDoorNxt
import Derived.Test.YtnahkhiomnkbcaaDoorRefs
namespace Go.Proofs.YtnahkhiomnkbcaaDoor
open Go.RowKit Go.Own Go.Own.Wire

/-- A number, or its fault, as the document answers. -/
def ruRes : Except Nat (Nat × Nat) → Value
  | .ok (u, n) => .tuple #[.int .u64 u, .int .i64 n, .int .i64 0]
  | .error k => .tuple #[.int .u64 0, .int .i64 0, .int .i64 k]

set_option maxHeartbeats 400000 in
set_option maxRecDepth 100000 in
theorem r_uvarint_any (A : Option Addr) (n c : Nat) (l : List UInt8) (w : World) (B : Nat) (hr : Rd w B A n l) (hn : n ≤ 1000000000000) :
    Calls Tryd.prog 39 #[.slice A n c] w fun e w' => e = .returned (ruRes (uvar l)) ∧ w = w' := by
  go_enter Tryd.func39, Tryd.ntmps39
  go_wp2
  go_loop [5, 6] (fun u i => ∃ k u' : Nat, k ≤ n ∧ k ≤ 9 ∧ i = .int .i64 k ∧ u = .int .u64 u' ∧ u' < 2 ^ (7 * k) ∧ uvar l = uvarF (l.drop k) k u') (fun _ i => n - (intOf i).toNat)
  case atStart => exact ⟨0, 0, by omega, by omega, rfl, rfl, by simp, rfl⟩
  case round =>
    obtain ⟨k, u', hk, hk9, rfl, rfl, hu, huv⟩ := hrel
    have HU := Lib.hid hu; clear hu
    have hs0 : 0 ≤ 7 * (k : Int) := by omega
    have hs1 : 7 * (k : Int) ≤ 64 := by omega
    have hk10 : (k : Int) < 10 := by omega
    by_cases hlt : k < n
    · obtain ⟨ad, rfl, hb, hc⟩ := hr.at_ hlt
      have hd := drop_at l k (by rw [hr.len]; exact hlt)
      rw [hd, uvarF_cons] at huv
      have HV := Lib.hid huv; clear huv
      clear hd hr
      have hx : (l.getD k 0).toNat < 256 := (l.getD k 0).toNat_lt
      generalize hxx : (l.getD k 0).toNat = x at hc hx HV
      clear hxx
      by_cases h9 : k = 9 ∧ 1 < x
      · have HW : Hid (uvar l = .error 102) := by have := HV.out; rw [if_pos h9] at this; exact this
        have t9 : ((k : Int) == 9) = true := by simp; omega
        have hx1 := h9.2
        clear HV h9
        go_wp2
        go_ret3
        exact ⟨by rw [HW.out]; rfl, rfl⟩
      · by_cases hx1 : x < 128
        · have HW : Hid (uvar l = .ok (u' + x * 2 ^ (7 * k), k + 1)) := by have := HV.out; rw [if_neg h9, if_pos hx1] at this; exact this
          have HS : Hid (bits .or .u64 (u' : Int) (IntKind.u64.wrap (IntKind.u64.wrap (bits .and .u8 (x : Int) 127) * 2 ^ (7 * k))) = ((u' + x * 2 ^ (7 * k) : Nat) : Int)) := by
            have := uv_step u' x k hx (by omega) HU.out
            rw [Nat.mod_eq_of_lt hx1] at this; exact this
          clear HV
          by_cases h9' : k = 9
          · have t9 : ((k : Int) == 9) = true := by simp; omega
            have hx2 : ¬ 1 < x := fun h => h9 ⟨h9', h⟩
            clear h9 h9'
            go_wp2
            go_ret3
            exact ⟨by rw [HW.out, HS.out]; rfl, rfl⟩
          · have t9 : ((k : Int) == 9) = false := by simp; omega
            clear h9 h9'
            go_wp2
            go_ret3
            exact ⟨by rw [HW.out, HS.out]; rfl, rfl⟩
        · have HW : Hid (uvar l = uvarF (l.drop (k + 1)) (k + 1) (u' + (x - 128) * 2 ^ (7 * k))) := by have := HV.out; rw [if_neg h9, if_neg hx1] at this; exact this
          have h8 : k ≤ 8 := by omega
          have HS : Hid (bits .or .u64 (u' : Int) (IntKind.u64.wrap (IntKind.u64.wrap (bits .and .u8 (x : Int) 127) * 2 ^ (7 * k))) = ((u' + (x - 128) * 2 ^ (7 * k) : Nat) : Int)) := by
            have := uv_step u' x k hx (by omega) HU.out
            rw [show x % 128 = x - 128 by omega] at this; exact this
          have HL := Lib.hid (uv_lt u' (x - 128) k HU.out (by omega))
          have t9 : ((k : Int) == 9) = false := by simp; omega
          clear HV h9
          go_wp2
          go_round
          case rel => exact ⟨k + 1, u' + (x - 128) * 2 ^ (7 * k), by omega, by omega, by go_num, by rw [HS.out], HL.out, HW.out⟩
          case measure => simp [intOf]; omega
    · have HW : Hid (uvar l = .error 101) := by
        rw [huv, List.drop_eq_nil_of_le (by rw [hr.len]; omega)]; rfl
      have hn10 : ¬ (10 : Int) ≤ (n : Int) := by omega
      clear huv hr
      go_wp2
      go_ret3
      exact ⟨by rw [HW.out]; rfl, rfl⟩

def rtRes : Except Nat (Nat × Nat) → Value
  | .ok (f, k) => .tuple #[.int .i64 f, .int .i64 k, .int .i64 0]
  | .error k => .tuple #[.int .i64 0, .int .i64 0, .int .i64 k]
set_option maxHeartbeats 400000 in
set_option maxRecDepth 100000 in
theorem r_untag_any (u : Nat) (w : World) (hu : u < 18446744073709551616) :
    Calls Tryd.prog 40 #[.int .u64 (u : Int)] w fun e w' => e = .returned (rtRes (untag u)) ∧ w = w' := by
  have h7 := bits_u64_and7 u hu
  by_cases h : u / 8 < 1 ∨ 536870911 < u / 8 ∨ 5 < u % 8
  · have HF := Lib.hid (untag_no h)
    go_enter Tryd.func40, Tryd.ntmps40
    go_wp2
    all_goals first
      | (exfalso; omega)
      | (go_ret3; exact ⟨by rw [HF.out]; rfl, rfl⟩)
  · have HF := Lib.hid (untag_yes (u := u) (by omega) (by omega) (by omega))
    have g1 : ((u : Int) / 8 == 0) = false := by simp; omega
    have g2 : ¬ 536870911 < (u : Int) / 8 := by omega
    have g3 : ¬ 5 < (u : Int) % 8 := by omega
    clear h
    go_enter Tryd.func40, Tryd.ntmps40
    go_wp2
    go_ret3
    exact ⟨by rw [HF.out]; simp [rtRes], rfl⟩

set_option maxHeartbeats 400000 in
set_option maxRecDepth 100000 in
theorem r_unfixed_4 (A : Option Addr) (n c : Nat) (l : List UInt8) (w : World) (B : Nat) (hr : Rd w B A n l) (hn : n ≤ 1000000000000) :
    Calls Tryd.prog 42 #[.slice A n c, .int .i64 4] w fun e w' => e = .returned (ruRes (fixd 4 l)) ∧ w = w' := by
  have hl := hr.len
  by_cases hlt : n < 4
  · have HF : Hid (fixd 4 l = .error 101) := by unfold fixd; rw [if_pos (by omega)]; exact Lib.hid rfl
    clear hl hr
    go_enter Tryd.func42, Tryd.ntmps42
    go_wp2
    go_ret3
    exact ⟨by rw [HF.out]; rfl, rfl⟩
  · have HF : Hid (fixd 4 l = .ok (le 4 l, 4)) := by unfold fixd; rw [if_neg (by omega)]; exact Lib.hid rfl
    have HL := Lib.hid hl; clear hl
    have hd : decide ((n : Int) < 4) = false := by simp; omega
    go_enter Tryd.func42, Tryd.ntmps42
    go_wp2
    go_loop [7, 8] (fun u i => ∃ j x : Nat, j ≤ 4 ∧ i = .int .i64 j ∧ u = .int .u64 (x : Int) ∧ x = le j l) (fun _ i => 4 - (intOf i).toNat)
    case atStart => exact ⟨0, 0, by omega, rfl, rfl, by simp [le, leF]⟩
    case round =>
      obtain ⟨j, x, hj, rfl, rfl, hx⟩ := hrel
      by_cases hjl : j < 4
      · obtain ⟨ad, rfl, hb, hc⟩ := hr.at_ (show j < n by omega)
        have hs0 : 0 ≤ 8 * (j : Int) := by omega
        have hs1 : 8 * (j : Int) ≤ 64 := by omega
        have HS := Lib.hid (le_step l j (by rw [HL.out]; omega))
        have hy : (l.getD j 0).toNat < 256 := (l.getD j 0).toNat_lt
        generalize (l.getD j 0).toNat = y at hc hy HS
        have HB := Lib.hid (bits_u64_or8 x y j hy (by omega) (by rw [hx]; exact le_lt l j))
        have HX := Lib.hid hx; clear hx hr
        go_wp2
        go_round
        case rel => exact ⟨j + 1, x + y * 2 ^ (8 * j), by omega, by go_num, by rw [HB.out], by rw [HS.out, HX.out]⟩
        case measure => simp [intOf]; omega
      · have HJ := Lib.hid (show j = 4 by omega)
        have HX := Lib.hid hx; clear hx hr
        go_wp2
        go_ret3
        exact ⟨by rw [HF.out, HX.out, HJ.out]; rfl, rfl⟩

set_option maxHeartbeats 400000 in
set_option maxRecDepth 100000 in
theorem r_unfixed_8 (A : Option Addr) (n c : Nat) (l : List UInt8) (w : World) (B : Nat) (hr : Rd w B A n l) (hn : n ≤ 1000000000000) :
    Calls Tryd.prog 42 #[.slice A n c, .int .i64 8] w fun e w' => e = .returned (ruRes (fixd 8 l)) ∧ w = w' := by
  have hl := hr.len
  by_cases hlt : n < 8
  · have HF : Hid (fixd 8 l = .error 101) := by unfold fixd; rw [if_pos (by omega)]; exact Lib.hid rfl
    clear hl hr
    go_enter Tryd.func42, Tryd.ntmps42
    go_wp2
    go_ret3
    exact ⟨by rw [HF.out]; rfl, rfl⟩
  · have HF : Hid (fixd 8 l = .ok (le 8 l, 8)) := by unfold fixd; rw [if_neg (by omega)]; exact Lib.hid rfl
    have HL := Lib.hid hl; clear hl
    have hd : decide ((n : Int) < 8) = false := by simp; omega
    go_enter Tryd.func42, Tryd.ntmps42
    go_wp2
    go_loop [7, 8] (fun u i => ∃ j x : Nat, j ≤ 8 ∧ i = .int .i64 j ∧ u = .int .u64 (x : Int) ∧ x = le j l) (fun _ i => 8 - (intOf i).toNat)
    case atStart => exact ⟨0, 0, by omega, rfl, rfl, by simp [le, leF]⟩
    case round =>
      obtain ⟨j, x, hj, rfl, rfl, hx⟩ := hrel
      by_cases hjl : j < 8
      · obtain ⟨ad, rfl, hb, hc⟩ := hr.at_ (show j < n by omega)
        have hs0 : 0 ≤ 8 * (j : Int) := by omega
        have hs1 : 8 * (j : Int) ≤ 64 := by omega
        have HS := Lib.hid (le_step l j (by rw [HL.out]; omega))
        have hy : (l.getD j 0).toNat < 256 := (l.getD j 0).toNat_lt
        generalize (l.getD j 0).toNat = y at hc hy HS
        have HB := Lib.hid (bits_u64_or8 x y j hy (by omega) (by rw [hx]; exact le_lt l j))
        have HX := Lib.hid hx; clear hx hr
        go_wp2
        go_round
        case rel => exact ⟨j + 1, x + y * 2 ^ (8 * j), by omega, by go_num, by rw [HB.out], by rw [HS.out, HX.out]⟩
        case measure => simp [intOf]; omega
      · have HJ := Lib.hid (show j = 8 by omega)
        have HX := Lib.hid hx; clear hx hr
        go_wp2
        go_ret3
        exact ⟨by rw [HF.out, HX.out, HJ.out]; rfl, rfl⟩
end Go.Proofs.YtnahkhiomnkbcaaDoor
