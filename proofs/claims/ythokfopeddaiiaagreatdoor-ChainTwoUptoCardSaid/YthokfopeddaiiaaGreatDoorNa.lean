/-
  Contract: head.blank at any sign.
-/
import Derived.Test.YthokfopeddaiiaaGreatDoorNm
import Derived.Test.YthokfopeddaiiaaGreatDoorHp
import Derived.Laws.RangeAny
import Derived.Laws.Strings3
import Derived.Deep.LoopGhost
namespace Go.Proofs.YthokfopeddaiiaaGreatDoor
open Go.RowKit Go.Own Go.Own.Hd
theorem blank_any (c : UInt8) (x : Int) (hx : x = (c.toNat : Int)) (w : World) : Calls Tryz.prog 79 #[.int .u8 x] w fun e w' => e = .returned (.bool (blankB c)) ∧ w = w' := by
  subst hx
  have h1 : (((c.toNat : Nat) : Int) == 32) = (c == 32) := by
    rw [Bool.eq_iff_iff]; simp only [beq_iff_eq]
    constructor
    · intro h; exact UInt8.toNat_inj.1 (by simpa using (by omega : c.toNat = 32))
    · rintro rfl; rfl
  have h2 : (((c.toNat : Nat) : Int) == 9) = (c == 9) := by
    rw [Bool.eq_iff_iff]; simp only [beq_iff_eq]
    constructor
    · intro h; exact UInt8.toNat_inj.1 (by simpa using (by omega : c.toNat = 9))
    · rintro rfl; rfl
  have HB : Hid (blankB c = (((c.toNat : Nat) : Int) == 32 || ((c.toNat : Nat) : Int) == 9)) := Lib.hid (by rw [h1, h2]; rfl)
  clear h1 h2
  obtain ⟨x, hx⟩ : ∃ x : Int, ((c.toNat : Nat) : Int) = x := ⟨_, rfl⟩
  rw [hx] at HB ⊢
  clear hx
  by_cases g1 : x = 32
  · subst g1
    go_enter Tryz.func79, Tryz.ntmps79
    go_wp2
    go_ret
    exact ⟨by rw [HB.out]; rfl, rfl⟩
  · have g2 : (x == 32) = false := by rw [beq_eq_false_iff_ne]; exact g1
    go_enter Tryz.func79, Tryz.ntmps79
    go_wp2
    go_ret
    exact ⟨by rw [HB.out, g2]; rfl, rfl⟩
end Go.Proofs.YthokfopeddaiiaaGreatDoor
