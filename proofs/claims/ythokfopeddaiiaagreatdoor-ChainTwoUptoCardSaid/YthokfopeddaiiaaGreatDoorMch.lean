/-
  Contracts: chain.Matches: the empty pattern; the chapter's examples.
-/
import Derived.Test.YthokfopeddaiiaaGreatDoorNm
namespace Go.Proofs.YthokfopeddaiiaaGreatDoor
open Go.RowKit Go.Own Go.Shelf
set_option maxRecDepth 100000 in
theorem matches_all (q : ByteArray) (w : World) : Calls Tryz.prog 33 #[.string ⟨#[]⟩, .string q] w fun e w' => e = .returned (.bool true) ∧ w = w' := by
  have hs := Tryz.strings_CutSuffix ⟨#[]⟩ ⟨#[42]⟩ w (show 0 ≤ 9223372036854775807 by decide)
  rw [show Lib.hasSuffix (⟨#[]⟩ : ByteArray).data.toList (⟨#[42]⟩ : ByteArray).data.toList = false by decide +kernel, show Lib.trimSuffix (⟨#[]⟩ : ByteArray).data.toList (⟨#[42]⟩ : ByteArray).data.toList = [] by decide +kernel] at hs
  have HS := Lib.hid hs
  clear hs
  go_enter Tryz.func33, Tryz.ntmps33
  go_wp2_with fail
  refine HS.out.mono ?_
  rintro e w1 ⟨rfl, rfl⟩
  go_wp2
  go_ret
  exact ⟨rfl, rfl⟩
set_option maxRecDepth 100000 in
theorem matches_star (w : World) : Calls Tryz.prog 33 #[.string ⟨#[47, 97, 47, 42]⟩, .string ⟨#[47, 97, 47, 98]⟩] w fun e w' => e = .returned (.bool true) ∧ w = w' := by
  have hs := Tryz.strings_CutSuffix ⟨#[47, 97, 47, 42]⟩ ⟨#[42]⟩ w (show 4 ≤ 9223372036854775807 by decide)
  rw [show Lib.hasSuffix (⟨#[47, 97, 47, 42]⟩ : ByteArray).data.toList (⟨#[42]⟩ : ByteArray).data.toList = true by decide +kernel, show Lib.trimSuffix (⟨#[47, 97, 47, 42]⟩ : ByteArray).data.toList (⟨#[42]⟩ : ByteArray).data.toList = [47, 97, 47] by decide +kernel] at hs
  have HS := Lib.hid hs
  have hp := Tryz.strings_HasPrefix ⟨#[47, 97, 47, 98]⟩ ⟨#[47, 97, 47]⟩ w
  rw [show Lib.hasPrefix (⟨#[47, 97, 47, 98]⟩ : ByteArray).data.toList (⟨#[47, 97, 47]⟩ : ByteArray).data.toList = true by decide +kernel] at hp
  have HP := Lib.hid hp
  clear hs hp
  go_enter Tryz.func33, Tryz.ntmps33
  go_wp2_with fail
  refine HS.out.mono ?_
  rintro e w1 ⟨rfl, rfl⟩
  go_wp2_with fail
  refine HP.out.mono ?_
  rintro e w1 ⟨rfl, rfl⟩
  go_wp2
  go_ret
  exact ⟨rfl, rfl⟩
set_option maxRecDepth 100000 in
theorem matches_not (w : World) : Calls Tryz.prog 33 #[.string ⟨#[47, 97]⟩, .string ⟨#[47, 97, 47, 98]⟩] w fun e w' => e = .returned (.bool false) ∧ w = w' := by
  have hs := Tryz.strings_CutSuffix ⟨#[47, 97]⟩ ⟨#[42]⟩ w (show 2 ≤ 9223372036854775807 by decide)
  rw [show Lib.hasSuffix (⟨#[47, 97]⟩ : ByteArray).data.toList (⟨#[42]⟩ : ByteArray).data.toList = false by decide +kernel, show Lib.trimSuffix (⟨#[47, 97]⟩ : ByteArray).data.toList (⟨#[42]⟩ : ByteArray).data.toList = [47, 97] by decide +kernel] at hs
  have HS := Lib.hid hs
  clear hs
  go_enter Tryz.func33, Tryz.ntmps33
  go_wp2_with fail
  refine HS.out.mono ?_
  rintro e w1 ⟨rfl, rfl⟩
  go_wp2
  go_ret
  exact ⟨rfl, rfl⟩
end Go.Proofs.YthokfopeddaiiaaGreatDoor
