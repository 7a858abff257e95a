/-
  Contracts: stamp.padded, fraction.
-/
import Derived.Test.YtacmlpgakibdgaaDoorSt5
import Derived.Test.YtacmlpgakibdgaaDoorShelf
import Derived.Lib.AppendIntMem
namespace Go.Proofs.YtacmlpgakibdgaaDoor
open Go.RowKit Go.Own Go.Own.Dig Go.Own.Alg

theorem EnvS.below {w w' : World} {ev : Addr} {B : Nat} (h : EnvS w ev) (hb : Below B w w') (hB : 5 ≤ B) : EnvS w' ev :=
  ⟨(hb.cell (p := ⟨0, 0, none⟩) (show 0 < B by omega)).trans h.value,
   var?_below (g := 1) hb (by kernel_rfl) (show 1 < B by omega) h.tab, Nat.le_trans h.room hb.size⟩

theorem itoa_any (n : Nat) (w : World) (ev : Addr) (he : EnvS w ev) (hn : n ≤ 1000000000000) :
    Calls Tryd.prog 32 #[.int .i64 (n : Int)] w fun e w' => e = .returned (.string ⟨(Lib.decDigits n).toArray⟩) ∧ Below w.heap.size w w' := by
  refine (Tryd.strconv_Itoa (n : Int) (by omega) (by omega) w he.tab).mono ?_
  rintro e w' ⟨rfl, k, os, rfl⟩
  refine ⟨?_, Lib.below_grow w.heap.size w (Nat.le_refl _) k os⟩
  unfold Lib.itoa
  rw [if_neg (by omega), Int.toNat_natCast]

theorem bytes_app (a b : List UInt8) : (⟨a.toArray⟩ : ByteArray) ++ ⟨b.toArray⟩ = ⟨(a ++ b).toArray⟩ := by
  apply ByteArray.ext
  simp

set_option maxHeartbeats 400000 in
theorem padded_any (n k : Nat) (w : World) (ev : Addr) (he : EnvS w ev) (hk : k ≤ 8) (hn : n < 10 ^ (k + 1)) :
    Calls Tryd.prog 25 #[.int .i64 (n : Int), .int .i64 ((k : Int) + 1)] w fun e w' => e = .returned (.string ⟨(dg (k + 1) n).toArray⟩) ∧ Below w.heap.size w w' := by
  have hn' : n ≤ 1000000000 := by
    have : 10 ^ (k + 1) ≤ 10 ^ 9 := Nat.pow_le_pow_right (by omega) (by omega)
    omega
  have HP := Lib.hid (padded_dg n k hn)
  have hl : (Lib.decDigits n).length ≤ k + 1 := by rw [Lib.decDigits_length]; exact nDigits_le k n hn
  have hl1 : 1 ≤ (Lib.decDigits n).length := by rw [Lib.decDigits_length]; exact nDigits_pos n
  have HE := Lib.hid he
  clear hn he
  go_enter Tryd.func25, Tryd.ntmps25
  go_wp2_with fail
  refine (itoa_any n _ ev HE.out (by omega)).mono ?_
  rintro e w1 ⟨rfl, hb1⟩
  have HB1 := Lib.hid hb1
  clear hb1
  generalize Lib.decDigits n = D at *
  go_wp2_with fail
  rw [show max 0 ((k : Int) + 1 - (D.length : Int)) = ((k + 1 - D.length : Nat) : Int) from by omega]
  refine (Tryd.strings_Repeat ⟨#[48]⟩ (k + 1 - D.length) _ (by omega) (by rw [show (ByteArray.mk #[48]).size = 1 from rfl]; omega)).mono ?_
  rw [show (ByteArray.mk #[48]).data.toList = [48] from rfl]
  have hRl : (Lib.repeatL [48] (k + 1 - D.length)).length ≤ 9 := by rw [Lib.repeatL_length]; simp; omega
  generalize Lib.repeatL [48] (k + 1 - D.length) = R at *
  rintro e w2 ⟨rfl, hb2⟩
  have HB2 := Lib.hid (HB1.out.trans (hb2.mono HB1.out.size))
  clear hb2
  go_wp2
  go_ret
  exact ⟨by rw [← HP.out, ← bytes_app]; rfl, HB2.out⟩

theorem fracT_len_le (n : Nat) : (fracT n).length ≤ 10 := by
  unfold fracT
  repeat' split
  all_goals simp [dg_len]

set_option maxHeartbeats 400000 in
theorem fraction_any (n : Nat) (w : World) (ev : Addr) (he : EnvS w ev) (hn : n < 1000000000) :
    Calls Tryd.prog 26 #[.int .i64 (n : Int)] w fun e w' => e = .returned (.string ⟨(fracT n).toArray⟩) ∧ Below w.heap.size w w' := by
  have HE := Lib.hid he
  clear he
  by_cases h0 : n = 0
  · subst h0
    go_enter Tryd.func26, Tryd.ntmps26
    go_wp2
    go_ret
    exact ⟨rfl, Below.refl _ _⟩
  have t0 : ((n : Int) == 0) = false := by simp; omega
  by_cases h1 : n % 1000000 = 0
  · have HX : Hid (fracT n = 46 :: dg 3 (n / 1000000)) := Lib.hid (by unfold fracT; rw [if_neg h0, if_pos h1])
    have t1 : ((n : Int) % 1000000 == 0) = true := by simp; omega
    have e1 : (n : Int) / 1000000 = ((n / 1000000 : Nat) : Int) := by omega
    have HE1 := Lib.hid e1
    have hd : n / 1000000 < 10 ^ 3 := by omega
    have hdl := dg_len 3 (n / 1000000)
    have HD := Lib.hid hd
    have hdl' : (dg 3 (n / 1000000)).length ≤ 9 := by omega
    clear h0 h1 e1 hd hdl
    go_enter Tryd.func26, Tryd.ntmps26
    go_wp2_with fail
    rw [HE1.out]
    refine (padded_any (n / 1000000) 2 _ ev HE.out (by omega) HD.out).mono ?_
    rintro e w1 ⟨rfl, hb1⟩
    have HB1 := Lib.hid hb1
    clear hb1
    generalize dg (2 + 1) (n / 1000000) = R at *
    go_wp2
    go_ret
    exact ⟨by rw [HX.out]; exact congrArg (fun b => Ending.returned (Value.string b)) (bytes_app [46] R), HB1.out⟩
  have t1 : ((n : Int) % 1000000 == 0) = false := by simp; omega
  by_cases h2 : n % 1000 = 0
  · have HX : Hid (fracT n = 46 :: dg 6 (n / 1000)) := Lib.hid (by unfold fracT; rw [if_neg h0, if_neg h1, if_pos h2])
    have t2 : ((n : Int) % 1000 == 0) = true := by simp; omega
    have e1 : (n : Int) / 1000 = ((n / 1000 : Nat) : Int) := by omega
    have HE1 := Lib.hid e1
    have hd : n / 1000 < 10 ^ 6 := by omega
    have hdl := dg_len 6 (n / 1000)
    have HD := Lib.hid hd
    have hdl' : (dg 6 (n / 1000)).length ≤ 9 := by omega
    clear h0 h1 h2 e1 hd hdl
    go_enter Tryd.func26, Tryd.ntmps26
    go_wp2_with fail
    rw [HE1.out]
    refine (padded_any (n / 1000) 5 _ ev HE.out (by omega) HD.out).mono ?_
    rintro e w1 ⟨rfl, hb1⟩
    have HB1 := Lib.hid hb1
    clear hb1
    generalize dg (5 + 1) (n / 1000) = R at *
    go_wp2
    go_ret
    exact ⟨by rw [HX.out]; exact congrArg (fun b => Ending.returned (Value.string b)) (bytes_app [46] R), HB1.out⟩
  · have HX : Hid (fracT n = 46 :: dg 9 n) := Lib.hid (by unfold fracT; rw [if_neg h0, if_neg h1, if_neg h2])
    have t2 : ((n : Int) % 1000 == 0) = false := by simp; omega
    have hd : n < 10 ^ 9 := by omega
    have hdl := dg_len 9 n
    have HD := Lib.hid hd
    have hdl' : (dg 9 n).length ≤ 9 := by omega
    clear h0 h1 h2 hd hdl
    go_enter Tryd.func26, Tryd.ntmps26
    go_wp2_with fail
    refine (padded_any n 8 _ ev HE.out (by omega) HD.out).mono ?_
    rintro e w1 ⟨rfl, hb1⟩
    have HB1 := Lib.hid hb1
    clear hb1
    generalize dg (8 + 1) n = R at *
    go_wp2
    go_ret
    exact ⟨by rw [HX.out]; exact congrArg (fun b => Ending.returned (Value.string b)) (bytes_app [46] R), HB1.out⟩
end Go.Proofs.YtacmlpgakibdgaaDoor
