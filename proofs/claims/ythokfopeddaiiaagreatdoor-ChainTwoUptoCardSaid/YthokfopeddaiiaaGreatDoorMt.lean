/-
  Contracts: grpc.named, binary, visible, Meta of any texts: one answer, whatever the world.
-/
import Derived.Test.YthokfopeddaiiaaGreatDoorTr
namespace Go.Proofs.YthokfopeddaiiaaGreatDoor
open Go.RowKit Go.Own Go.Own.Head Go.Shelf
/-- It answers one Bool, whatever the world. -/
def Det (K : Nat) (args : Array Value) (b : Bool) : Prop := ∀ W, EnvC W → Calls Tryz.prog K args W fun e w' => e = .returned (.bool b) ∧ Below W.heap.size W w'
theorem name_det (s : ByteArray) (hs : s.size ≤ 1000000000) : Det 12 #[.string s] (nameB s.data.toList) := fun W he =>
  (name_any s W he hs).mono fun _ _ h => ⟨h.1, h.2 ▸ Below.refl _ _⟩
set_option maxHeartbeats 2000000 in
set_option maxRecDepth 100000 in
theorem named_det (s : ByteArray) (hs : s.size ≤ 1000000000) : ∃ b, Det 35 #[.string s] b := by
  have HN := Lib.hid (fun W (he : EnvC W) => name_any s W he hs)
  have HP := Lib.hid (fun W => (Tryz.strings_HasPrefix s ⟨#[103, 114, 112, 99, 45]⟩ W).mono (fun e w' h => (⟨h.1, h.2.symm⟩ : e = .returned (.bool (Lib.hasPrefix s.data.toList [103, 114, 112, 99, 45])) ∧ W = w')))
  obtain ⟨nb, hnb⟩ : ∃ b, nameB s.data.toList = b := ⟨_, rfl⟩
  obtain ⟨pb, hpb⟩ : ∃ b, Lib.hasPrefix s.data.toList [103, 114, 112, 99, 45] = b := ⟨_, rfl⟩
  rw [hpb] at HP
  have HN2 := Lib.hid (fun W (he : EnvC W) => (show Calls Tryz.prog 12 #[.string s] W fun e w' => e = .returned (.bool nb) ∧ W = w' from by
    have := HN.out W he
    unfold NamePost at this
    rw [hnb] at this
    exact this))
  clear HN hnb hpb hs
  obtain ⟨b0, hb0⟩ : ∃ b, (s.toList == [116, 101]) = b := ⟨_, rfl⟩
  obtain ⟨b1, hb1⟩ : ∃ b, (s.toList == [99, 111, 110, 116, 101, 110, 116, 45, 116, 121, 112, 101]) = b := ⟨_, rfl⟩
  obtain ⟨b2, hb2⟩ : ∃ b, (s.toList == [99, 111, 110, 116, 101, 110, 116, 45, 108, 101, 110, 103, 116, 104]) = b := ⟨_, rfl⟩
  obtain ⟨b3, hb3⟩ : ∃ b, (s.toList == [99, 111, 110, 110, 101, 99, 116, 105, 111, 110]) = b := ⟨_, rfl⟩
  obtain ⟨b4, hb4⟩ : ∃ b, (s.toList == [112, 114, 111, 120, 121, 45, 99, 111, 110, 110, 101, 99, 116, 105, 111, 110]) = b := ⟨_, rfl⟩
  obtain ⟨b5, hb5⟩ : ∃ b, (s.toList == [107, 101, 101, 112, 45, 97, 108, 105, 118, 101]) = b := ⟨_, rfl⟩
  obtain ⟨b6, hb6⟩ : ∃ b, (s.toList == [116, 114, 97, 110, 115, 102, 101, 114, 45, 101, 110, 99, 111, 100, 105, 110, 103]) = b := ⟨_, rfl⟩
  obtain ⟨b7, hb7⟩ : ∃ b, (s.toList == [117, 112, 103, 114, 97, 100, 101]) = b := ⟨_, rfl⟩
  rcases b0 with _ | _
  rotate_left
  · refine ⟨false, fun W he => ?_⟩
    clear HN2 HP he
    go_enter Tryz.func35, Tryz.ntmps35
    go_wp2
    go_ret
    exact ⟨rfl, Below.refl _ _⟩
  rcases b1 with _ | _
  rotate_left
  · refine ⟨false, fun W he => ?_⟩
    clear HN2 HP he
    go_enter Tryz.func35, Tryz.ntmps35
    go_wp2
    go_ret
    exact ⟨rfl, Below.refl _ _⟩
  rcases b2 with _ | _
  rotate_left
  · refine ⟨false, fun W he => ?_⟩
    clear HN2 HP he
    go_enter Tryz.func35, Tryz.ntmps35
    go_wp2
    go_ret
    exact ⟨rfl, Below.refl _ _⟩
  rcases b3 with _ | _
  rotate_left
  · refine ⟨false, fun W he => ?_⟩
    clear HN2 HP he
    go_enter Tryz.func35, Tryz.ntmps35
    go_wp2
    go_ret
    exact ⟨rfl, Below.refl _ _⟩
  rcases b4 with _ | _
  rotate_left
  · refine ⟨false, fun W he => ?_⟩
    clear HN2 HP he
    go_enter Tryz.func35, Tryz.ntmps35
    go_wp2
    go_ret
    exact ⟨rfl, Below.refl _ _⟩
  rcases b5 with _ | _
  rotate_left
  · refine ⟨false, fun W he => ?_⟩
    clear HN2 HP he
    go_enter Tryz.func35, Tryz.ntmps35
    go_wp2
    go_ret
    exact ⟨rfl, Below.refl _ _⟩
  rcases b6 with _ | _
  rotate_left
  · refine ⟨false, fun W he => ?_⟩
    clear HN2 HP he
    go_enter Tryz.func35, Tryz.ntmps35
    go_wp2
    go_ret
    exact ⟨rfl, Below.refl _ _⟩
  rcases b7 with _ | _
  rotate_left
  · refine ⟨false, fun W he => ?_⟩
    clear HN2 HP he
    go_enter Tryz.func35, Tryz.ntmps35
    go_wp2
    go_ret
    exact ⟨rfl, Below.refl _ _⟩
  rcases nb with _ | _
  · refine ⟨false, fun W he => ?_⟩
    have h1 := HN2.out W he
    clear HN2 HP he
    go_enter Tryz.func35, Tryz.ntmps35
    go_wp2_with ((with_reducible refine h1.mono ?_); rintro e w1 ⟨rfl, rfl⟩)
    go_ret
    exact ⟨rfl, Below.refl _ _⟩
  · refine ⟨!pb, fun W he => ?_⟩
    have h1 := Lib.hid (HN2.out W he)
    have h2 := Lib.hid (HP.out W)
    clear HN2 HP he
    go_enter Tryz.func35, Tryz.ntmps35
    go_wp2_with (first
      | ((with_reducible refine h1.out.mono ?_); rintro e w1 ⟨rfl, rfl⟩)
      | ((with_reducible refine h2.out.mono ?_); rintro e w1 ⟨rfl, rfl⟩))
    go_ret
    exact ⟨rfl, Below.refl _ _⟩
theorem binary_det (s : ByteArray) (hs : s.size ≤ 1000000000) : ∃ b, Det 36 #[.string s] b := by
  refine ⟨Lib.hasSuffix s.data.toList [45, 98, 105, 110], fun W he => ?_⟩
  have h1 := Lib.hid ((Tryz.strings_HasSuffix s ⟨#[45, 98, 105, 110]⟩ W (by omega)).mono (fun e w' h => (⟨h.1, h.2.symm⟩ : e = .returned (.bool (Lib.hasSuffix s.data.toList [45, 98, 105, 110])) ∧ W = w')))
  generalize Lib.hasSuffix s.data.toList [45, 98, 105, 110] = b at h1 ⊢
  clear he
  go_enter Tryz.func36, Tryz.ntmps36
  go_wp2_with ((with_reducible refine h1.out.mono ?_); rintro e w1 ⟨rfl, rfl⟩)
  go_ret
  exact ⟨rfl, Below.refl _ _⟩
def visC (c : UInt8) : Bool := decide (32 ≤ c.toNat ∧ c.toNat ≤ 126)
set_option maxRecDepth 100000 in
theorem visible_det (s : ByteArray) (hs : s.size ≤ 1000000000) : Det 37 #[.string s] (s.data.toList.all visC) := fun W he => by
  clear he
  obtain ⟨vb, hvb⟩ : ∃ b, s.data.toList.all visC = b := ⟨_, rfl⟩
  have HV := Lib.hid hvb
  rw [hvb]
  clear hvb
  go_enter Tryz.func37, Tryz.ntmps37
  go_wp2
  go_loop [6] (fun i => ∃ k : Nat, k ≤ s.size ∧ i = .int .i64 k ∧ Hid ((s.data.toList.take k).all visC = true)) (fun i => s.size - (intOf i).toNat)
  case atStart => exact ⟨0, by omega, rfl, Lib.hid (by simp)⟩
  case round =>
    obtain ⟨k, hk, rfl, HA⟩ := hrel
    by_cases hlt : k < s.size
    · have hi0 := idx_str (P := Tryz.prog) Tryz.underlying9 s k (k : Int) rfl hlt
      obtain ⟨c, hc⟩ : ∃ c, s.data.toList.getD k 0 = c := ⟨_, rfl⟩
      rw [hc] at hi0
      obtain ⟨x, hx⟩ : ∃ x, c.toNat = x := ⟨_, rfl⟩
      rw [hx] at hi0
      by_cases h1 : x < 32
      · have HF : Hid (vb = false) := Lib.hid (HV.out.symm.trans <| all_not _ _ _ hlt (by rw [hc]; unfold visC; rw [hx]; exact decide_eq_false (by omega)))
        clear hc hx
        go_wp2
        go_ret
        exact ⟨by rw [HF.out]; rfl, Below.refl _ _⟩
      · by_cases h2 : 126 < x
        · have HF : Hid (vb = false) := Lib.hid (HV.out.symm.trans <| all_not _ _ _ hlt (by rw [hc]; unfold visC; rw [hx]; exact decide_eq_false (by omega)))
          clear hc hx
          go_wp2
          go_ret
          exact ⟨by rw [HF.out]; rfl, Below.refl _ _⟩
        · have HN : Hid ((s.data.toList.take (k + 1)).all visC = true) := Lib.hid (all_take_succ _ _ _ hlt HA.out (by rw [hc]; unfold visC; rw [hx]; exact decide_eq_true (by omega)))
          have h1' : 32 ≤ x := by omega
          have h2' : x ≤ 126 := by omega
          clear hc hx h1 h2
          go_wp2
          exact ⟨⟨k + 1, by omega, by go_num, HN⟩, by simp [intOf]; omega⟩
    · have hk2 : k = s.size := by omega
      have HF : Hid (vb = true) := Lib.hid (HV.out.symm.trans <| by
        have := HA.out
        rw [hk2, List.take_of_length_le (Nat.le_refl s.size)] at this
        exact this)
      clear hk2
      go_wp2
      go_ret
      exact ⟨by rw [HF.out]; rfl, Below.refl _ _⟩
/-- grpc.Meta of any texts. -/
theorem meta_det (n v : ByteArray) (hn : n.size ≤ 1000000000) (hv : v.size ≤ 1000000000) : ∃ b, Det 11 #[.string n, .string v] b := by
  obtain ⟨nb, hN⟩ := named_det n hn
  obtain ⟨bb, hB⟩ := binary_det n hn
  have hV := visible_det v hv
  have hW : Det 38 #[.string v] (Hd.valueB v.data.toList) := fun W _ => value_any v W hv
  generalize v.data.toList.all visC = vb at hV
  generalize Hd.valueB v.data.toList = wb at hW
  have H1 := Lib.hid hN
  have H2 := Lib.hid hB
  have H3 := Lib.hid hV
  have H4 := Lib.hid hW
  clear hN hB hV hW hn hv
  rcases nb with _ | _
  · refine ⟨false, fun W he => ?_⟩
    have h1 := Lib.hid (H1.out W he)
    go_enter Tryz.func11, Tryz.ntmps11
    go_wp2_with ((with_reducible refine h1.out.mono ?_); rintro e w1 ⟨rfl, g1⟩; have G1 := Lib.hid g1; clear g1)
    go_ret
    exact ⟨rfl, G1.out⟩
  · rcases bb with _ | _
    · rcases vb with _ | _
      · refine ⟨false, fun W he => ?_⟩
        have h1 := Lib.hid (H1.out W he)
        have HE := Lib.hid he
        clear he
        go_enter Tryz.func11, Tryz.ntmps11
        go_wp2_with (first
          | ((with_reducible refine h1.out.mono ?_); rintro e w1 ⟨rfl, g1⟩; have G1 := Lib.hid g1; have h2 := Lib.hid (H2.out w1 (HE.out.below g1)); clear g1)
          | ((with_reducible refine h2.out.mono ?_); rintro e w2 ⟨rfl, g2⟩; have G2 := Lib.hid (G1.out.trans (g2.mono G1.out.size)); clear g2; have h3 := Lib.hid (H3.out w2 (HE.out.below G2.out)))
          | ((with_reducible refine h3.out.mono ?_); rintro e w3 ⟨rfl, g3⟩; have G3 := Lib.hid (G2.out.trans (g3.mono G2.out.size)); clear g3))
        go_ret
        exact ⟨rfl, G3.out⟩
      · refine ⟨wb, fun W he => ?_⟩
        have h1 := Lib.hid (H1.out W he)
        have HE := Lib.hid he
        clear he
        go_enter Tryz.func11, Tryz.ntmps11
        go_wp2_with (first
          | ((with_reducible refine h1.out.mono ?_); rintro e w1 ⟨rfl, g1⟩; have G1 := Lib.hid g1; have h2 := Lib.hid (H2.out w1 (HE.out.below g1)); clear g1)
          | ((with_reducible refine h2.out.mono ?_); rintro e w2 ⟨rfl, g2⟩; have G2 := Lib.hid (G1.out.trans (g2.mono G1.out.size)); clear g2; have h3 := Lib.hid (H3.out w2 (HE.out.below G2.out)))
          | ((with_reducible refine h3.out.mono ?_); rintro e w3 ⟨rfl, g3⟩; have G3 := Lib.hid (G2.out.trans (g3.mono G2.out.size)); clear g3; have h4 := Lib.hid (H4.out w3 (HE.out.below G3.out)))
          | ((with_reducible refine h4.out.mono ?_); rintro e w4 ⟨rfl, g4⟩; have G4 := Lib.hid (G3.out.trans (g4.mono G3.out.size)); clear g4))
        go_ret
        exact ⟨rfl, G4.out⟩
    · refine ⟨true, fun W he => ?_⟩
      have h1 := Lib.hid (H1.out W he)
      have HE := Lib.hid he
      clear he
      go_enter Tryz.func11, Tryz.ntmps11
      go_wp2_with (first
        | ((with_reducible refine h1.out.mono ?_); rintro e w1 ⟨rfl, g1⟩; have G1 := Lib.hid g1; have h2 := Lib.hid (H2.out w1 (HE.out.below g1)); clear g1)
        | ((with_reducible refine h2.out.mono ?_); rintro e w2 ⟨rfl, g2⟩; have G2 := Lib.hid (G1.out.trans (g2.mono G1.out.size)); clear g2))
      go_ret
      exact ⟨rfl, G2.out⟩
end Go.Proofs.YthokfopeddaiiaaGreatDoor
