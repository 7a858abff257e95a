/-
  Contracts: grpc.word, grpc.path: they tell by the text alone.
-/
import Derived.Test.YtoafmhbgbofgoaaGreatDoorGs
namespace Go.Own.Gb
def wordC (ex : List UInt8) (c : UInt8) : Bool := decide (97 ≤ c.toNat ∧ c.toNat ≤ 122) || (decide (65 ≤ c.toNat ∧ c.toNat ≤ 90) || (decide (48 ≤ c.toNat ∧ c.toNat ≤ 57) || decide (0 ≤ Lib.indexByte ex c)))
def wordB (ex l : List UInt8) : Bool := !l.isEmpty && l.all (wordC ex)
def pathB (l : List UInt8) : Bool := Lib.hasPrefix l [47] && ((Lib.cut (Lib.trimPrefix l [47]) [47]).2.2 && (wordB [95, 46] (Lib.cut (Lib.trimPrefix l [47]) [47]).1 && wordB [95] (Lib.cut (Lib.trimPrefix l [47]) [47]).2.1))
theorem trimPrefix_len (l p : List UInt8) : (Lib.trimPrefix l p).length ≤ l.length := by
  unfold Lib.trimPrefix
  split
  · simp
  · exact Nat.le_refl _
theorem cut_len (l : List UInt8) : (Lib.cut l [47]).1.length ≤ l.length ∧ (Lib.cut l [47]).2.1.length ≤ l.length := by
  unfold Lib.cut
  split
  · constructor
    · show (l.take _).length ≤ _
      rw [List.length_take]; omega
    · show (l.drop _).length ≤ _
      rw [List.length_drop]; omega
  · exact ⟨Nat.le_refl _, Nat.zero_le _⟩
end Go.Own.Gb
namespace Go.Proofs.YtoafmhbgbofgoaaGreatDoor
open Go.RowKit Go.Own Go.Own.Hd Go.Own.Gb
set_option maxHeartbeats 4000000 in
set_option maxRecDepth 100000 in
theorem word_any (t ex : ByteArray) (w : World) (hs : t.size ≤ 1000000000) :
    Calls Tryz.prog 56 #[.string t, .string ex] w fun e w' => e = .returned (.bool (wordB ex.data.toList t.data.toList)) ∧ w = w' := by
  go_enter Tryz.func56, Tryz.ntmps56
  go_wp2
  go_loop [9] (fun i => ∃ k : Nat, k ≤ t.size ∧ i = .int .i64 k ∧ Hid ((t.data.toList.take k).all (wordC ex.data.toList) = true)) (fun i => t.size - (intOf i).toNat)
  case atStart => exact ⟨0, by omega, rfl, Lib.hid (by simp)⟩
  case round =>
    obtain ⟨k, hk, rfl, HA⟩ := hrel
    by_cases hlt : k < t.size
    · have hi0 := idx_str (P := Tryz.prog) Tryz.underlying9 t k (k : Int) rfl hlt
      obtain ⟨c, hc⟩ : ∃ c, t.data.toList.getD k 0 = c := ⟨_, rfl⟩
      rw [hc] at hi0
      have hl : k < t.data.toList.length := by rw [← Lib.size_eq]; exact hlt
      have HV := Lib.hid (show wordC ex.data.toList c = true → (t.data.toList.take (k + 1)).all (wordC ex.data.toList) = true from fun h => all_take_succ _ _ _ hl HA.out (by rw [hc]; exact h))
      have HW := Lib.hid (show wordC ex.data.toList c = false → wordB ex.data.toList t.data.toList = false from fun h => by unfold wordB; rw [all_not _ _ k hl (by rw [hc]; exact h), Bool.and_false])
      have hib := fun W => Tryz.strings_IndexByte ex (c.toNat : Int) W
      have e1 : ((c.toNat : Int)).toNat.toUInt8 = c := by rw [Int.toNat_natCast]; exact UInt8.ofNat_toNat
      rw [e1] at hib
      have hge := Lib.indexByte_ge ex.data.toList c
      obtain ⟨ix, hix⟩ : ∃ ix, Lib.indexByte ex.data.toList c = ix := ⟨_, rfl⟩
      obtain ⟨x, hx⟩ : ∃ x, c.toNat = x := ⟨_, rfl⟩
      have HC := Lib.hid (show wordC ex.data.toList c = (decide (97 ≤ x ∧ x ≤ 122) || (decide (65 ≤ x ∧ x ≤ 90) || (decide (48 ≤ x ∧ x ≤ 57) || decide (0 ≤ ix)))) from by unfold wordC; rw [hx, hix])
      rw [hx, hix] at hib
      rw [hx] at hi0
      have HIB := Lib.hid hib
      clear hib hx hix hc e1 hl hge
      by_cases b0 : x < 48
      · have f1 : ((x : Int) < 97) := by omega
        have f2 : ¬ ((122 : Int) < (x : Int)) := by omega
        have f3 : ((x : Int) < 65) := by omega
        have f4 : ¬ ((90 : Int) < (x : Int)) := by omega
        have f5 : ((x : Int) < 48) := by omega
        have f6 : ¬ ((57 : Int) < (x : Int)) := by omega
        by_cases hx0 : ix < 0
        · have HF := Lib.hid (HW.out (by rw [HC.out]; simp; omega))
          clear HV HW HC
          go_wp2_with (go_at_call 79; refine (HIB.out _).mono ?_; rintro e w' ⟨rfl, rfl⟩)
          go_ret
          exact ⟨by rw [HF.out]; rfl, rfl⟩
        · have HF := Lib.hid (HV.out (by rw [HC.out]; simp; omega))
          clear HV HW HC
          go_wp2_with (go_at_call 79; refine (HIB.out _).mono ?_; rintro e w' ⟨rfl, rfl⟩)
          go_round
          case rel => exact ⟨k + 1, by omega, by go_num, HF⟩
          case measure => simp [intOf]; omega
      · skip
        by_cases b1 : x ≤ 57
        · have f1 : ((x : Int) < 97) := by omega
          have f2 : ¬ ((122 : Int) < (x : Int)) := by omega
          have f3 : ((x : Int) < 65) := by omega
          have f4 : ¬ ((90 : Int) < (x : Int)) := by omega
          have f5 : ¬ ((x : Int) < 48) := by omega
          have f6 : ¬ ((57 : Int) < (x : Int)) := by omega
          have HF := Lib.hid (HV.out (by rw [HC.out]; simp; omega))
          clear HV HW HC
          go_wp2_with (go_at_call 79; refine (HIB.out _).mono ?_; rintro e w' ⟨rfl, rfl⟩)
          go_round
          case rel => exact ⟨k + 1, by omega, by go_num, HF⟩
          case measure => simp [intOf]; omega
        · skip
          by_cases b2 : x < 65
          · have f1 : ((x : Int) < 97) := by omega
            have f2 : ¬ ((122 : Int) < (x : Int)) := by omega
            have f3 : ((x : Int) < 65) := by omega
            have f4 : ¬ ((90 : Int) < (x : Int)) := by omega
            have f5 : ¬ ((x : Int) < 48) := by omega
            have f6 : ((57 : Int) < (x : Int)) := by omega
            by_cases hx0 : ix < 0
            · have HF := Lib.hid (HW.out (by rw [HC.out]; simp; omega))
              clear HV HW HC
              go_wp2_with (go_at_call 79; refine (HIB.out _).mono ?_; rintro e w' ⟨rfl, rfl⟩)
              go_ret
              exact ⟨by rw [HF.out]; rfl, rfl⟩
            · have HF := Lib.hid (HV.out (by rw [HC.out]; simp; omega))
              clear HV HW HC
              go_wp2_with (go_at_call 79; refine (HIB.out _).mono ?_; rintro e w' ⟨rfl, rfl⟩)
              go_round
              case rel => exact ⟨k + 1, by omega, by go_num, HF⟩
              case measure => simp [intOf]; omega
          · skip
            by_cases b3 : x ≤ 90
            · have f1 : ((x : Int) < 97) := by omega
              have f2 : ¬ ((122 : Int) < (x : Int)) := by omega
              have f3 : ¬ ((x : Int) < 65) := by omega
              have f4 : ¬ ((90 : Int) < (x : Int)) := by omega
              have f5 : ¬ ((x : Int) < 48) := by omega
              have f6 : ((57 : Int) < (x : Int)) := by omega
              have HF := Lib.hid (HV.out (by rw [HC.out]; simp; omega))
              clear HV HW HC
              go_wp2_with (go_at_call 79; refine (HIB.out _).mono ?_; rintro e w' ⟨rfl, rfl⟩)
              go_round
              case rel => exact ⟨k + 1, by omega, by go_num, HF⟩
              case measure => simp [intOf]; omega
            · skip
              by_cases b4 : x < 97
              · have f1 : ((x : Int) < 97) := by omega
                have f2 : ¬ ((122 : Int) < (x : Int)) := by omega
                have f3 : ¬ ((x : Int) < 65) := by omega
                have f4 : ((90 : Int) < (x : Int)) := by omega
                have f5 : ¬ ((x : Int) < 48) := by omega
                have f6 : ((57 : Int) < (x : Int)) := by omega
                by_cases hx0 : ix < 0
                · have HF := Lib.hid (HW.out (by rw [HC.out]; simp; omega))
                  clear HV HW HC
                  go_wp2_with (go_at_call 79; refine (HIB.out _).mono ?_; rintro e w' ⟨rfl, rfl⟩)
                  go_ret
                  exact ⟨by rw [HF.out]; rfl, rfl⟩
                · have HF := Lib.hid (HV.out (by rw [HC.out]; simp; omega))
                  clear HV HW HC
                  go_wp2_with (go_at_call 79; refine (HIB.out _).mono ?_; rintro e w' ⟨rfl, rfl⟩)
                  go_round
                  case rel => exact ⟨k + 1, by omega, by go_num, HF⟩
                  case measure => simp [intOf]; omega
              · skip
                by_cases b5 : x ≤ 122
                · have f1 : ¬ ((x : Int) < 97) := by omega
                  have f2 : ¬ ((122 : Int) < (x : Int)) := by omega
                  have f3 : ¬ ((x : Int) < 65) := by omega
                  have f4 : ((90 : Int) < (x : Int)) := by omega
                  have f5 : ¬ ((x : Int) < 48) := by omega
                  have f6 : ((57 : Int) < (x : Int)) := by omega
                  have HF := Lib.hid (HV.out (by rw [HC.out]; simp; omega))
                  clear HV HW HC
                  go_wp2_with (go_at_call 79; refine (HIB.out _).mono ?_; rintro e w' ⟨rfl, rfl⟩)
                  go_round
                  case rel => exact ⟨k + 1, by omega, by go_num, HF⟩
                  case measure => simp [intOf]; omega
                · skip
                  have f1 : ¬ ((x : Int) < 97) := by omega
                  have f2 : ((122 : Int) < (x : Int)) := by omega
                  have f3 : ¬ ((x : Int) < 65) := by omega
                  have f4 : ((90 : Int) < (x : Int)) := by omega
                  have f5 : ¬ ((x : Int) < 48) := by omega
                  have f6 : ((57 : Int) < (x : Int)) := by omega
                  by_cases hx0 : ix < 0
                  · have HF := Lib.hid (HW.out (by rw [HC.out]; simp; omega))
                    clear HV HW HC
                    go_wp2_with (go_at_call 79; refine (HIB.out _).mono ?_; rintro e w' ⟨rfl, rfl⟩)
                    go_ret
                    exact ⟨by rw [HF.out]; rfl, rfl⟩
                  · have HF := Lib.hid (HV.out (by rw [HC.out]; simp; omega))
                    clear HV HW HC
                    go_wp2_with (go_at_call 79; refine (HIB.out _).mono ?_; rintro e w' ⟨rfl, rfl⟩)
                    go_round
                    case rel => exact ⟨k + 1, by omega, by go_num, HF⟩
                    case measure => simp [intOf]; omega
    · obtain rfl : k = t.size := by omega
      have hal : t.data.toList.all (wordC ex.data.toList) = true := by
        have := HA.out
        rwa [List.take_of_length_le (by rw [← Lib.size_eq]; exact Nat.le_refl _)] at this
      have HF := Lib.hid (show wordB ex.data.toList t.data.toList = !(t.toList == (⟨#[]⟩ : ByteArray).toList) from by
        unfold wordB
        rw [hal, Bool.and_true, Lib.toList_data, Lib.toList_data]
        cases t.data.toList <;> rfl)
      clear hal HA
      go_wp2
      go_ret
      exact ⟨by rw [HF.out]; simp, rfl⟩
end Go.Proofs.YtoafmhbgbofgoaaGreatDoor
