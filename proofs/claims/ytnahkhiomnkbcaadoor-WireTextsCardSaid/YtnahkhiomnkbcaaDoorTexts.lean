/-
  WireTexts: its walk.
-/
import Derived.Test.YtnahkhiomnkbcaaDoorUtf
import Derived.Test.YtnahkhiomnkbcaaDoorRefs
namespace Go.Proofs.YtnahkhiomnkbcaaDoor
open Go.RowKit Go.Own Go.Own.Wire

set_option maxHeartbeats 400000 in
set_option maxRecDepth 100000 in
theorem text_any (A0 : Option Addr) (n0 c0 : Nat) (l0 : List UInt8) (w : World) (hr0 : Rd w w.heap.size A0 n0 l0) (hT : Tabs w) (hn0 : n0 ≤ 1000000000000) (hnc : n0 ≤ c0) :
    Calls Tryd.prog 27 #[.slice A0 n0 c0] w fun e w' => e = .returned (.bool (Lib.validD l0)) ∧ Below w.heap.size w w' := by
  have HR := Lib.hid hr0
  have HT := Lib.hid hT
  clear hr0 hT
  go_enter Tryd.func27, Tryd.ntmps27
  go_wp2_with fail
  refine (valid_any A0 n0 c0 l0 _ HR.out HT.out hn0 hnc).mono ?_
  rintro e w1 ⟨rfl, hb1⟩
  have HB1 := Lib.hid hb1; clear hb1
  go_wp2
  go_ret
  exact ⟨rfl, HB1.out⟩

set_option maxHeartbeats 400000 in
set_option maxRecDepth 100000 in
theorem wireTexts_long (A A2 : Option Addr) (na ca nb cb : Nat) (w : World) (ea : Nat → Addr) (he : Env w ea) (hl : 16384 < na ∨ 16384 < nb) :
    Calls Tryd.prog 8 #[.slice A na ca, .slice A2 nb cb] w fun e w' => e = .returned (.bool true) ∧ Below w.heap.size w w' := by
  have HE := Lib.hid he
  clear he
  go_enter Tryd.func8, Tryd.ntmps8
  go_wp2_with fail
  refine (first_any _ ea HE.out).mono ?_
  rintro e w1 ⟨rfl, hb1⟩
  have HB1 := Lib.hid hb1
  clear hb1
  by_cases ha : 16384 < na
  · go_wp2
    go_ret
    exact ⟨rfl, HB1.out⟩
  · have hb : 16384 < nb := by omega
    clear hl
    go_wp2
    go_ret
    exact ⟨rfl, HB1.out⟩

theorem no_answer {x y : Bool} (h : (!x || !y) = true) (hx : x = true) : y = false := by subst hx; simpa using h

set_option maxHeartbeats 2000000 in
set_option maxRecDepth 100000 in
theorem wireTexts_any (A A2 : Option Addr) (na ca nb cb : Nat) (la lb : List UInt8) (w : World) (ea : Nat → Addr) (he : Env w ea) (hT : Tabs w) (hra : Rd w w.heap.size A na la) (hrb : Rd w w.heap.size A2 nb lb)
    (hna : na ≤ 16384) (hnb : nb ≤ 16384) (hnca : na ≤ ca) (hncb : nb ≤ cb) :
    Calls Tryd.prog 8 #[.slice A na ca, .slice A2 nb cb] w fun e w' => e = .returned (.bool true) ∧ Below w.heap.size w w' := by
  have HE := Lib.hid he
  have h8 := he.room
  have HT := Lib.hid hT
  have HRa := Lib.hid hra
  have HRb := Lib.hid hrb
  clear he hra hrb hT
  have ta : ¬ (16384 : Int) < (na : Int) := by omega
  have tb : ¬ (16384 : Int) < (nb : Int) := by omega
  go_enter Tryd.func8, Tryd.ntmps8
  go_wp2_with fail
  refine (first_any _ ea HE.out).mono ?_
  rintro e w1 ⟨rfl, hb1⟩
  have HB1 := Lib.hid hb1
  have hs1 := hb1.size
  clear hb1
  go_wp2_with fail
  refine (bytes_any A na ca la _ w.heap.size (by exact HRa.out.below HB1.out) (by exact hs1) (by omega)).mono ?_
  rintro e w5 ⟨rfl, ho5, hb5⟩
  have HO5 := Lib.hid (ho5.base (base' := w.heap.size) hs1)
  have HB5 := Lib.hid (HB1.out.trans (hb5.mono hs1))
  have hs5 := HB5.out.size
  clear ho5 hb5
  go_wp2_with (first
    | (at_builtin
       refine wpList_app_any _ byteP rfl (.tmp 22) (.tmp 23) rfl w.heap.size (.slice (some ⟨w1.heap.size, 0, none⟩) na na) na la rfl HO5.out w.heap.size A2 nb cb lb rfl (HRb.out.below HB5.out) ?_ ?_ ?_
       · omega
       · omega
       intro A6 c6 w6 ho6 hg6 hat6 hc6 hm6
       have HB6 := Lib.hid (HB5.out.grown hg6 hs5 (fun g hg => by simp [Value.ownBlock] at hg; omega))
       have HO6 := Lib.hid ho6
       clear ho6 hg6 hat6 hm6))
  have hs6 := HB6.out.size
  refine (text_any A6 (na + nb) c6 (la ++ lb) _ (by exact HO6.out.rd) (by exact HT.out.below HB6.out h8) (by omega) hc6).mono ?_
  rintro e w7 ⟨rfl, hb7⟩
  have HB7 := Lib.hid (HB6.out.trans (hb7.mono hs6))
  have hs7 := HB7.out.size
  clear hb7
  obtain ⟨vx, hvx⟩ : ∃ v, Lib.validD (la ++ lb) = v := ⟨_, rfl⟩
  obtain ⟨va, hva⟩ : ∃ v, Lib.validD la = v := ⟨_, rfl⟩
  obtain ⟨vb, hvb⟩ : ∃ v, Lib.validD lb = v := ⟨_, rfl⟩
  rw [hvx]
  have HVA := Lib.hid hva
  have HVB := Lib.hid hvb
  have HVX := Lib.hid hvx
  clear hva hvb hvx
  go_wp2_with fail
  refine (text_any A na ca la _ (by exact (HRa.out.below HB7.out).more hs7) (by exact HT.out.below HB7.out h8) (by omega) hnca).mono ?_
  rw [HVA.out]
  rintro e w8 ⟨rfl, hb8⟩
  have HB8 := Lib.hid (HB7.out.trans (hb8.mono hs7))
  have hs8 := HB8.out.size
  clear hb8
  rcases va with _ | _
  · have hno := Go.Own.Val.texts_no la lb HVA.out
    rw [HVX.out, HVB.out] at hno
    rcases vx with _ | _
    · clear hno
      go_wp2
      go_ret
      exact ⟨rfl, HB8.out⟩
    · have hb : vb = false := no_answer hno rfl
      subst hb
      clear hno
      go_wp2_with fail
      refine (text_any A2 nb cb lb _ (by exact (HRb.out.below HB8.out).more hs8) (by exact HT.out.below HB8.out h8) (by omega) hncb).mono ?_
      rw [HVB.out]
      rintro e w9 ⟨rfl, hb9⟩
      have HB9 := Lib.hid (HB8.out.trans (hb9.mono hs8))
      clear hb9
      go_wp2
      go_ret
      exact ⟨rfl, HB9.out⟩
  · have hyes := Go.Own.Val.texts_yes la lb HVA.out
    rw [HVX.out, HVB.out] at hyes
    subst hyes
    go_wp2_with fail
    refine (text_any A2 nb cb lb _ (by exact (HRb.out.below HB8.out).more hs8) (by exact HT.out.below HB8.out h8) (by omega) hncb).mono ?_
    rw [HVB.out]
    rintro e w9 ⟨rfl, hb9⟩
    have HB9 := Lib.hid (HB8.out.trans (hb9.mono hs8))
    clear hb9
    rcases vx with _ | _
    all_goals
      go_wp2
      go_ret
      exact ⟨rfl, HB9.out⟩

theorem wireTexts_all (A A2 : Option Addr) (na ca nb cb : Nat) (la lb : List UInt8) (w : World) (ea : Nat → Addr) (he : Env w ea) (hT : Tabs w) (hra : Rd w w.heap.size A na la) (hrb : Rd w w.heap.size A2 nb lb) (hnca : na ≤ ca) (hncb : nb ≤ cb) :
    Calls Tryd.prog 8 #[.slice A na ca, .slice A2 nb cb] w fun e w' => e = .returned (.bool true) ∧ Below w.heap.size w w' := by
  by_cases h : 16384 < na ∨ 16384 < nb
  · exact wireTexts_long A A2 na ca nb cb w ea he h
  · exact wireTexts_any A A2 na ca nb cb la lb w ea he hT hra hrb (by omega) (by omega) hnca hncb
end Go.Proofs.YtnahkhiomnkbcaaDoor
