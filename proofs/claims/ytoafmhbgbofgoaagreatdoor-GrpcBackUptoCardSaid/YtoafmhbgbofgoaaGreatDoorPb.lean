/-
  Contract: grpc.path: it tells by the text alone.
-/
import Derived.Test.YtoafmhbgbofgoaaGreatDoorPa
namespace Go.Proofs.YtoafmhbgbofgoaaGreatDoor
open Go.RowKit Go.Own Go.Own.Hd Go.Own.Gb
set_option maxHeartbeats 4000000 in
set_option maxRecDepth 100000 in
theorem path_any (t : ByteArray) (w : World) {e1 e2 e3 : Addr} (he : EnvH w e1 e2 e3) (hs : t.size ≤ 1000000000) :
    Calls Tryz.prog 25 #[.string t] w fun e w' => e = .returned (.bool (pathB t.data.toList)) ∧ Below w.heap.size w w' := by
  obtain ⟨mx, hmx⟩ := he.top
  obtain ⟨u, hu⟩ : ∃ u : ByteArray, (⟨(Lib.trimPrefix t.data.toList [47]).toArray⟩ : ByteArray) = u := ⟨_, rfl⟩
  have hul : u.size ≤ t.size := by
    rw [← hu, Lib.size_eq, Lib.size_eq]
    exact trimPrefix_len _ _
  have h1 := Tryz.strings_TrimPrefix t ⟨#[47]⟩ w
  rw [show (⟨#[47]⟩ : ByteArray).data.toList = [47] from rfl, hu] at h1
  have h2 := Tryz.strings_Cut u ⟨#[47]⟩ mx w (by omega) hmx
  rw [show (⟨#[47]⟩ : ByteArray).data.toList = [47] from rfl] at h2
  obtain ⟨c1, hc1⟩ : ∃ c1, (Lib.cut u.data.toList [47]).1 = c1 := ⟨_, rfl⟩
  obtain ⟨c2, hc2⟩ : ∃ c2, (Lib.cut u.data.toList [47]).2.1 = c2 := ⟨_, rfl⟩
  obtain ⟨c3, hc3⟩ : ∃ c3, (Lib.cut u.data.toList [47]).2.2 = c3 := ⟨_, rfl⟩
  have hl := cut_len u.data.toList
  rw [hc1, hc2, ← Lib.size_eq] at hl
  rw [hc1, hc2, hc3] at h2
  have h3 := fun W => Tryz.strings_HasPrefix t ⟨#[47]⟩ W
  have h4 := fun W => word_any ⟨c1.toArray⟩ ⟨#[95, 46]⟩ W (by rw [Lib.size_eq]; show c1.length ≤ _; omega)
  have h5 := fun W => word_any ⟨c2.toArray⟩ ⟨#[95]⟩ W (by rw [Lib.size_eq]; show c2.length ≤ _; omega)
  have hp : pathB t.data.toList = (Lib.hasPrefix t.data.toList [47] && (c3 && (wordB [95, 46] c1 && wordB [95] c2))) := by
    unfold pathB
    rw [← hc1, ← hc2, ← hc3, ← hu]
  rw [hp]
  rw [show (⟨#[47]⟩ : ByteArray).data.toList = [47] from rfl] at h3
  replace h4 : ∀ W, Calls Tryz.prog 56 #[.string ⟨c1.toArray⟩, .string ⟨#[95, 46]⟩] W fun e w' => e = .returned (.bool (wordB [95, 46] c1)) ∧ W = w' := h4
  replace h5 : ∀ W, Calls Tryz.prog 56 #[.string ⟨c2.toArray⟩, .string ⟨#[95]⟩] W fun e w' => e = .returned (.bool (wordB [95] c2)) ∧ W = w' := h5
  generalize Lib.hasPrefix t.data.toList [47] = b1 at h3 ⊢
  generalize wordB [95, 46] c1 = b2 at h4 ⊢
  generalize wordB [95] c2 = b3 at h5 ⊢
  have H1 := Lib.hid h1
  have H2 := Lib.hid h2
  have H3 := Lib.hid h3
  have H4 := Lib.hid h4
  have H5 := Lib.hid h5
  generalize (⟨c1.toArray⟩ : ByteArray) = d1 at H2 H4
  generalize (⟨c2.toArray⟩ : ByteArray) = d2 at H2 H5
  clear h1 h2 h3 h4 h5 hp hu hmx he hl hc1 hc2 hc3
  cases b1 <;> cases c3 <;> cases b2 <;> cases b3
  all_goals
    go_enter Tryz.func25, Tryz.ntmps25
    go_wp2_with (first
      | (go_at_call 55; refine H1.out.mono ?_; rintro e w1 ⟨rfl, rfl⟩)
      | (go_at_call 54; refine H2.out.mono ?_; rintro e w2 ⟨rfl, nn, rfl⟩)
      | (go_at_call 36; refine (H3.out _).mono ?_; rintro e w3 ⟨rfl, rfl⟩)
      | (go_at_call 56; (with_reducible refine (H4.out _).mono ?_); rintro e w3 ⟨rfl, rfl⟩)
      | (go_at_call 56; (with_reducible refine (H5.out _).mono ?_); rintro e w3 ⟨rfl, rfl⟩))
    go_ret
    exact ⟨rfl, below_drewN (Below.refl _ _) _⟩
end Go.Proofs.YtoafmhbgbofgoaaGreatDoor
