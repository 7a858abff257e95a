/-
  The chapter's examples; light.
-/
import Derived.Test.YtnffhmkcegiacaaDoorCl
import Derived.LaidEql
namespace Go.Proofs.YtnffhmkcegiacaaDoor
open Go.RowKit Go.Own Go.Own.Hl Go.Maps Go.Shelf Go.MuLone
attribute [local go_sem] Oper.semAt_some
section
variable {ea : Nat → Addr}
theorem Bd.stay {w w' : World} {bb ms mw n nw : Nat} {most last : Int} {sh : Bool} {D : DataW Unit} {Dw : DataW Value} (h : Bd w bb ms mw most last sh n nw D Dw) (hg : w.grownBy w' none) : Bd w' bb ms mw most last sh n nw D Dw :=
  h.grown hg (by simp) (by simp) (by simp)
theorem err_same (a : Addr) (W : World) : (binOp .eql 27 (.iface 101 (.pointer (some a))) (.iface 101 (.pointer (some a)))).run Tryd.prog W = .ok (.bool true) W := by
  obtain ⟨j, hj, hjs⟩ := Option.map_eq_some_iff.1 (show (Tryd.prog.info? 118).map (·.size) = some 1 by kernel_rfl)
  obtain ⟨i, hi, hcmp⟩ := Option.map_eq_some_iff.1 (show (Tryd.prog.info? 101).map (·.comparable) = some true by kernel_rfl)
  simpa using run_eql_iface_ptr_same (P := Tryd.prog) W a Tryd.underlying27 Tryd.underlying101 hi hcmp hj
theorem b_e : (⟨#[]⟩ : ByteArray).data.toList = [] := rfl
theorem st_e : statB false D0 [] = 1 := by kernel_rfl
theorem st_a : statB false D0 [97] = 3 := by kernel_rfl
set_option maxHeartbeats 4000000 in
set_option maxRecDepth 100000 in
theorem first_any (w : World) (he : EnvH w ea) : Calls Tryd.prog 4 #[] w fun e w' => e = .returned (.bool true) ∧ Below w.heap.size w w' := by
  have HE := Lib.hid he
  clear he
  go_enter Tryd.func4, Tryd.ntmps4
  go_wp2_with fail
  refine (new_any 1 (by omega) _).mono ?_
  rintro e w1 ⟨bb, ms, mw, rfl, hb1, hl1, g1, g2, g3⟩
  have HB1 := Lib.hid hb1
  have HL1 := Lib.hid hl1
  have hr := HE.out.room
  clear hb1 hl1
  go_wp2_with fail
  refine (check_any HB1.out (HE.out.below (HL1.out.mono hr)) (by omega) ⟨#[]⟩ (by decide)).mono ?_
  rw [show chkV ea (statB false D0 (⟨#[]⟩ : ByteArray).data.toList) = .tuple #[.int .i64 1, .nilIface] from by rw [b_e, st_e]; rfl]
  rintro e w2 ⟨rfl, hg2⟩
  have HB2 := Lib.hid (HB1.out.stay hg2)
  have HL2 := Lib.hid (HL1.out.grown hg2 HL1.out.size (by simp))
  clear hg2
  go_wp2_with fail
  refine (check_any HB2.out (HE.out.below (HL2.out.mono hr)) (by omega) ⟨#[97]⟩ (by decide)).mono ?_
  rw [show chkV ea (statB false D0 (⟨#[97]⟩ : ByteArray).data.toList) = .tuple #[.int .i64 0, errV ea 3] from by rw [show (⟨#[97]⟩ : ByteArray).data.toList = [97] from rfl, st_a]; rfl]
  rintro e w3 ⟨rfl, hg3⟩
  have HB3 := Lib.hid (HB2.out.stay hg3)
  have HL3 := Lib.hid (HL2.out.grown hg3 HL2.out.size (by simp))
  clear hg3
  go_wp2_with fail
  refine (watch_one HB3.out (by omega) ⟨#[97]⟩).mono ?_
  rintro e w4 ⟨rfl, wb, gw, hb4, hw4, hk4⟩
  have HB4 := Lib.hid hb4
  have HW4 := Lib.hid hw4
  have HL4 := Lib.hid (HL3.out.trans (hk4 w.heap.size HL3.out.size g1 g3))
  have n4 : wb ≠ bb := by have := HB3.out.blk.lt; omega
  have n5 : wb ≠ ms := by have := HB3.out.svc.lt; omega
  have n6 : wb ≠ mw := by have := HB3.out.wat.lt; omega
  have g4 : w.heap.size ≤ wb := by have := HL3.out.size; omega
  clear hb4 hw4 hk4
  go_wp2_with fail
  refine (watch_many _ HB4.out (HE.out.below (HL4.out.mono hr)) (by omega) ⟨#[98]⟩).mono ?_
  rintro e w5 ⟨rfl, hg5⟩
  have HB5 := Lib.hid (HB4.out.stay hg5)
  have HW5 := Lib.hid (HW4.out.grown hg5 (by simp))
  have HL5 := Lib.hid (HL4.out.grown hg5 HL4.out.size (by simp))
  clear hg5
  go_wp2_with fail
  refine (next_one wb (-1) ⟨#[97]⟩ HB5.out HW5.out n4 (by decide)).mono ?_
  rw [show statB false D0 (⟨#[97]⟩ : ByteArray).data.toList = 3 from st_a]
  rintro e w6 ⟨rfl, hw6, hg6⟩
  have HB6 := Lib.hid (HB5.out.grown hg6 (fun e => n4 (Option.some.inj e).symm) (fun e => n5 (Option.some.inj e).symm) (fun e => n6 (Option.some.inj e).symm))
  have HW6 := Lib.hid hw6
  have HL6 := Lib.hid (HL5.out.grown hg6 HL5.out.size (fun r e => by cases e; exact g4))
  clear hg6 hw6
  rw [show nxtV 3 (-1) = .tuple #[.int .i64 3, .bool true] from rfl]
  go_wp2_with fail
  refine (next_one wb 3 ⟨#[97]⟩ HB6.out HW6.out n4 (by decide)).mono ?_
  rw [show statB false D0 (⟨#[97]⟩ : ByteArray).data.toList = 3 from st_a]
  rintro e w7 ⟨rfl, hw7, hg7⟩
  have HL7 := Lib.hid (HL6.out.grown hg7 HL6.out.size (fun r e => by cases e; exact g4))
  have HE7 := HE.out.below (HL7.out.mono hr)
  have q0 := HE7.name
  have q1 := HE7.many
  clear hg7 hw7 HE7
  rw [show nxtV 3 3 = .tuple #[.int .i64 0, .bool false] from rfl]
  have hq := fun (a : Addr) (W : World) => err_same a W
  unfold errV
  go_wp2_with fail
  go_ret
  exact ⟨rfl, HL7.out⟩
end
end Go.Proofs.YtnffhmkcegiacaaDoor
