/-
  Contracts: head.Value, head.plain.
-/
import Derived.Test.YthokfopeddaiiaaGreatDoorCa
namespace Go.Proofs.YthokfopeddaiiaaGreatDoor
open Go.RowKit Go.Own Go.Own.Hd Go.Own.Rn
def BelPost (v : Bool) (w : World) (e : Ending) (w' : World) : Prop := e = .returned (.bool v) ∧ Below w.heap.size w w'
set_option maxHeartbeats 1000000 in
set_option maxRecDepth 100000 in
theorem value_any (s : ByteArray) (w : World) (hs : s.size ≤ 1000000000) : Calls Tryz.prog 38 #[.string s] w (BelPost (valueB s.data.toList) w) := by
  have hc : Calls Tryz.prog 78 #[.string s, .string ⟨#[0, 13, 10]⟩] w fun e w' => e = .returned (.bool (Lib.containsAny s.data.toList crl)) ∧ Below w.heap.size w w' := containsAny3 s w hs
  obtain ⟨cb, hcb⟩ : ∃ cb, Lib.containsAny s.data.toList crl = cb := ⟨_, rfl⟩
  rw [hcb] at hc
  have HC := Lib.hid hc
  have hV : valueB s.data.toList = (!cb && (s.data.toList.isEmpty || (!blankB (s.data.toList.getD 0 0) && !blankB (s.data.toList.getD (s.data.toList.length - 1) 0)))) := by rw [← hcb]; rfl
  have HV := Lib.hid hV
  clear hc hcb hV
  by_cases h0 : s.size = 0
  · have hemp : s.toList.isEmpty = true := by rw [Lib.toList_data]; have := Lib.size_eq s; rw [h0] at this; rw [List.isEmpty_iff]; exact List.length_eq_zero_iff.1 this.symm
    have HV2 := Lib.hid (show valueB s.data.toList = !cb by rw [HV.out]; rw [Lib.toList_data] at hemp; rw [hemp]; simp)
    rcases cb with _ | _
    all_goals
      go_enter Tryz.func38, Tryz.ntmps38
      go_wp2_with ((with_reducible refine HC.out.mono ?_); rintro e w1 ⟨rfl, g1⟩; have G1 := Lib.hid g1; clear g1)
      go_ret
      exact ⟨by rw [HV2.out]; rfl, G1.out⟩
  · have hemp : s.toList.isEmpty = false := by
      rw [Lib.toList_data]
      cases h : s.data.toList with
      | nil => have := Lib.size_eq s; rw [h] at this; exact absurd this h0
      | cons _ _ => rfl
    have i0 := idx_getD s 0 0 rfl (by omega)
    have i1 := idx_getD s (s.size - 1) ((s.size : Int) - 1) (by omega) (by omega)
    obtain ⟨x, hx⟩ : ∃ x, s.data.toList.getD 0 0 = x := ⟨_, rfl⟩
    obtain ⟨y, hy⟩ : ∃ y, s.data.toList.getD (s.size - 1) 0 = y := ⟨_, rfl⟩
    rw [hx] at i0
    rw [hy] at i1
    have HV2 := Lib.hid (show valueB s.data.toList = (!cb && (!blankB x && !blankB y)) by rw [HV.out, hx, ← Lib.size_eq, hy]; rw [Lib.toList_data] at hemp; rw [hemp]; simp)
    have c0 := fun W => blank_any x (x.toNat : Int) rfl W
    have c1 := fun W => blank_any y (y.toNat : Int) rfl W
    obtain ⟨xi, hxi⟩ : ∃ xi : Int, (x.toNat : Int) = xi := ⟨_, rfl⟩
    obtain ⟨yi, hyi⟩ : ∃ yi : Int, (y.toNat : Int) = yi := ⟨_, rfl⟩
    rw [hxi] at i0 c0
    rw [hyi] at i1 c1
    obtain ⟨bx, hbx⟩ : ∃ b, blankB x = b := ⟨_, rfl⟩
    obtain ⟨b2, hb2⟩ : ∃ b, blankB y = b := ⟨_, rfl⟩
    rw [hbx] at c0 HV2
    rw [hb2] at c1 HV2
    have H0 := Lib.hid c0
    have H1 := Lib.hid c1
    have hs1 : (1 : Int) ≤ (s.size : Int) := by omega
    clear c0 c1 hbx hb2 hxi hyi hx hy HV h0
    rcases cb with _ | _
    · rcases bx with _ | _
      all_goals rcases b2 with _ | _
      all_goals
        go_enter Tryz.func38, Tryz.ntmps38
        go_wp2_with (first
          | ((with_reducible refine HC.out.mono ?_); rintro e w1 ⟨rfl, g1⟩; have G1 := Lib.hid g1; clear g1)
          | ((with_reducible refine (H0.out _).mono ?_); rintro e w2 ⟨rfl, rfl⟩)
          | ((with_reducible refine (H1.out _).mono ?_); rintro e w2 ⟨rfl, rfl⟩))
        go_ret
        exact ⟨by rw [HV2.out]; rfl, G1.out⟩
    · go_enter Tryz.func38, Tryz.ntmps38
      go_wp2_with ((with_reducible refine HC.out.mono ?_); rintro e w1 ⟨rfl, g1⟩; have G1 := Lib.hid g1; clear g1)
      go_ret
      exact ⟨by rw [HV2.out]; rfl, G1.out⟩
end Go.Proofs.YthokfopeddaiiaaGreatDoor
