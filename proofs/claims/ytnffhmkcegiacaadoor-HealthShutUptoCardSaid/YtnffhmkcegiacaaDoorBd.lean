/-
  A board's methods: Shut, Resume, status, Set and Forget while it is shut.
-/
import Derived.Test.YtnffhmkcegiacaaDoorNw
namespace Go.Own.Hl
open Go Go.RowKit Go.Own Go.Maps
def at0 (D : DataW Unit) (x : List UInt8) : Int := match D.atKey (.string x) (.lit (.int .i64 0)) with
  | .lit (.int _ c) => c
  | _ => 0
def statB (sh : Bool) (D : DataW Unit) (x : List UInt8) : Int := if Maps.has D (.string x) then (if sh then 2 else at0 D x) else 3
end Go.Own.Hl
namespace Go.Proofs.YtnffhmkcegiacaaDoor
open Go.RowKit Go.Own Go.Own.Hl Go.Maps Go.Shelf Go.MuLone
attribute [local go_sem] Oper.semAt_some
theorem zI (w : World) : (zeroValue 3).run Tryd.prog w = .ok (.int .i64 0) w := by kernel_rfl
section
variable {w : World} {bb ms mw n nw : Nat} {most last : Int} {sh : Bool} {D : DataW Unit} {Dw : DataW Value}
theorem Bd.grown (h : Bd w bb ms mw most last sh n nw D Dw) {w' : World} {row : Option Nat} (hg : w.grownBy w' row) (h1 : some bb ≠ row) (h2 : some ms ≠ row) (h3 : some mw ≠ row) : Bd w' bb ms mw most last sh n nw D Dw :=
  ⟨h.blk.grown hg h1, h.svc.kept hg h2, h.wat.kept hg h3, h.ne1, h.ne2, h.ne3⟩
set_option maxHeartbeats 4000000 in
set_option maxRecDepth 100000 in
theorem status_any {lk : Value} (h : Blk w bb 55 #[lk, .int .u32 0, .int .i64 most, .map (some ms), .map (some mw), .int .i64 last, .bool sh]) (hown : w.ownsMap Tryd.prog 9 (plainElem Tryd.prog 3) ms n D) (s : ByteArray) (hs : s.size ≤ maxLen) : Calls Tryd.prog 22 #[.pointer (some ⟨bb, 0, none⟩), .string s] w fun e w' => e = .returned (.int .i64 (statB sh D s.data.toList)) ∧ w = w' := by
  have c3 := h.cell 3
  have c6 := h.cell 6
  simp only [List.getElem?_toArray, List.getElem?_cons_zero, List.getElem?_cons_succ] at c3 c6
  have hkey := key_str s hs
  clear h
  go_enter Tryd.func22, Tryd.ntmps22
  go_wp2_with (at_lookup; refine wpList_lookup_own_ok_int _ rfl _ _ 45 rfl 9 3 .i64 kS Tryd.underlying45 Tryd.underlying3 (zI _) ms n D rfl hown _ _ rfl hkey ?_; intro c hat hwc)
  all_goals
    go_ret
    refine ⟨?_, rfl⟩
    unfold statB at0
    simp_all
theorem Bd.frozen (h : Bd w bb ms mw most last sh n nw D Dw) (i : Nat) : w.frozen? ⟨bb, i, none⟩ = false := h.blk.frozen i
/-- The lock taken. -/
theorem Bd.held (h : Bd w bb ms mw most last sh n nw D Dw) : Blk (w.setCell ⟨bb, 0, none⟩ (.int .i32 1)) bb 55 #[.int .i32 1, .int .u32 0, .int .i64 most, .map (some ms), .map (some mw), .int .i64 last, .bool sh] := h.blk.set 0 _
set_option maxHeartbeats 4000000 in
set_option maxRecDepth 100000 in
theorem set_any (h : Bd w bb ms mw most last sh n nw D Dw) (sh' : Bool) : Calls Tryd.prog 21 #[.pointer (some ⟨bb, 0, none⟩), .bool sh'] w fun e w' => e = .returned (.tuple #[]) ∧ Bd w' bb ms mw most last sh' n nw D Dw ∧ w.grownBy w' (some bb) := by
  have c0 := h.blk.cell 0
  simp only [bdCells, List.getElem?_toArray, List.getElem?_cons_zero] at c0
  have HL := Lib.hid h.held
  have HB := Lib.hid h
  have f0 := h.frozen 0
  have f6 : (w.setCell ⟨bb, 0, none⟩ (.int .i32 1)).frozen? ⟨bb, 6, none⟩ = false := h.held.frozen 6
  have d6 := h.held.cell 6
  simp only [List.getElem?_toArray, List.getElem?_cons_zero, List.getElem?_cons_succ] at d6
  clear h
  go_enter_defers Tryd.func21, Tryd.ntmps21
  go_wp2_with (go_at_call 16; refine (lock_free Tryd.muLib ⟨bb, 0, none⟩ _ c0 f0).mono ?_; rintro e w' ⟨rfl, rfl⟩)
  refine leaves_cons (f := 17) (args := #[.pointer (some ⟨bb, 0, none⟩)]) (by simp) (by simp [go_sem]) ?_
  have h2 := HL.out.set 6 (.bool sh')
  refine (unlock_deferred Tryd.muLib ⟨bb, 0, none⟩ .returning _ (h2.cell 0) (h2.frozen 0)).mono ?_
  rintro e u' w'' ⟨rfl, rfl, rfl⟩
  refine ⟨_, results_none rfl _ _ _, rfl, ?_, ?_⟩
  · have h3 : Blk _ bb 55 (bdCells ms mw most last sh') := h2.set 0 (.int .i32 0)
    exact ⟨h3, ((HB.out.svc.setCell (a := ⟨bb, 0, none⟩) HB.out.ne1 _).setCell (a := ⟨bb, 6, none⟩) HB.out.ne1 _).setCell (a := ⟨bb, 0, none⟩) HB.out.ne1 _, ((HB.out.wat.setCell (a := ⟨bb, 0, none⟩) HB.out.ne2 _).setCell (a := ⟨bb, 6, none⟩) HB.out.ne2 _).setCell (a := ⟨bb, 0, none⟩) HB.out.ne2 _, HB.out.ne1, HB.out.ne2, HB.out.ne3⟩
  · exact grown_trans2 (grown_trans2 (grown_set _ ⟨bb, 0, none⟩ _) (grown_set _ ⟨bb, 6, none⟩ _)) (grown_set _ ⟨bb, 0, none⟩ _)
theorem shut_any (h : Bd w bb ms mw most last sh n nw D Dw) : Calls Tryd.prog 10 #[.pointer (some ⟨bb, 0, none⟩)] w fun e w' => e = .returned (.tuple #[]) ∧ Bd w' bb ms mw most last true n nw D Dw ∧ w.grownBy w' (some bb) := by
  have H := Lib.hid (set_any h true)
  clear h
  go_enter Tryd.func10, Tryd.ntmps10
  go_wp2_with fail
  refine H.out.mono ?_
  rintro e w1 ⟨rfl, h1⟩
  have H1 := Lib.hid h1
  clear h1
  go_wp2_with fail
  go_end0
  exact ⟨rfl, H1.out⟩
theorem resume_any (h : Bd w bb ms mw most last sh n nw D Dw) : Calls Tryd.prog 12 #[.pointer (some ⟨bb, 0, none⟩)] w fun e w' => e = .returned (.tuple #[]) ∧ Bd w' bb ms mw most last false n nw D Dw ∧ w.grownBy w' (some bb) := by
  have H := Lib.hid (set_any h false)
  clear h
  go_enter Tryd.func12, Tryd.ntmps12
  go_wp2_with fail
  refine H.out.mono ?_
  rintro e w1 ⟨rfl, h1⟩
  have H1 := Lib.hid h1
  clear h1
  go_wp2_with fail
  go_end0
  exact ⟨rfl, H1.out⟩
end
end Go.Proofs.YtnffhmkcegiacaaDoor
