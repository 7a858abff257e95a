/-
  Contracts: parleyref.Headers (a copy in new memory), parleyref.SameHeader and SameHeaders of lists that are the same; a header that is stored into a list of one's own.
-/
import Derived.Test.YtkikcinpgbgbdaaDoorFs
import Derived.Laws.OwnMore
import Derived.Deep.RegionWith
namespace Go.Proofs.YtkikcinpgbgbdaaDoor
open Go.RowKit Go.Own Go.Own.Hd Go.Own.Fn Go.WideShapes Go.Shelf
attribute [local go_sem] Oper.semAt_some
theorem hw_lit (w : World) (l : List HdrV) (hl : l.length ≤ 1000) : Hw (w.alloc (.cells (hcells l).toArray 26)) w.heap.size (.slice (some ⟨w.heap.size, 0, none⟩) l.length l.length) l :=
  World.ownsRow_lit w (hcells l).toArray l.length (Nat.le_refl _) (by simp only [maxLen]; omega) (by rw [List.size_toArray, hcells_len])
set_option maxRecDepth 100000 in
theorem run_mk_h (n : Nat) (hn : n ≤ 1000) (w : World) : ∃ w', (Instr.makeSlice 22 (.int .i64 0) (.int .i64 (n : Int))).run Tryd.prog w = .ok (.slice (some ⟨w.heap.size, 0, none⟩) 0 n) w' ∧ Hw w' w.heap.size (.slice (some ⟨w.heap.size, 0, none⟩) 0 n) [] ∧ Below w.heap.size w w' := by
  obtain ⟨i, hi, hz, h1, h2⟩ := infoH
  obtain ⟨w', hrun, r1, r2⟩ := run_make_own (P := Tryd.prog) w w.heap.size 22 26 i _ 3 Tryd.underlying22 hi hz h1 .i64 .i64 n (by rw [h2]; omega) (by simp only [maxLen]; omega) (Nat.le_refl _)
  exact ⟨w', hrun, r1, (Below.refl _ _).grown r2 (Nat.le_refl _) (fun k e => by cases e)⟩
section
variable {ops : Array Oper} {rest : List Oper} {o : Oper} {a : Act} {Q : Exit → Act → World → Prop}
set_option maxRecDepth 100000 in
theorem wpList_mk_h (w : World) (hgd : o.guard = none) (x : Operand) (n : Nat) (hn : n ≤ 1000) (hop : o.op = Op.makeSlice 22 (.const (.int .i64 0)) x) (hx : a.eval x = .int .i64 (n : Int))
    (h : ∀ w', Hw w' w.heap.size (.slice (some ⟨w.heap.size, 0, none⟩) 0 n) [] → Below w.heap.size w w' → wpList Tryd.prog ops Q rest (a.put o.dst (.slice (some ⟨w.heap.size, 0, none⟩) 0 n)) w') : wpList Tryd.prog ops Q (o :: rest) a w := by
  refine wpList_plain hgd fun K hK => ?_
  obtain ⟨w', hrun, r1, r2⟩ := run_mk_h n hn w
  unfold Oper.wp
  have e1 : a.eval (.const (.int .i64 0)) = .int .i64 0 := rfl
  have hrun : (Instr.makeSlice 22 (.int .i64 0) (.int .i64 (n : Int))).run Tryd.prog w = _ := hrun
  simp [execOp, hop, e1, hx, hrun, Result.andThen]
  exact hK _ _ (h w' r1 r2)
end
structure CpJ (w : World) (l : List HdrV) (k : Nat) (v : Value) (W : World) : Prop where
  bel : Below w.heap.size w W
  own : Hw W w.heap.size v (l.take k)
set_option maxHeartbeats 2000000 in
set_option maxRecDepth 100000 in
/-- parleyref.Headers: a copy. -/
theorem headers_any (A : Option Addr) (n c : Nat) (l : List HdrV) (w : World) (hn : n ≤ 500) (hr : Hr w A n l) :
    Calls Tryd.prog 8 #[.slice A n c] w fun e w' => ∃ v, e = .returned v ∧ Hid (Hw w' w.heap.size v l ∧ Below w.heap.size w w') := by
  have HR := Lib.hid hr
  have HL := Lib.hid hr.1
  clear hr
  go_enter Tryd.func8, Tryd.ntmps8
  go_wp2_with (refine wpList_mk_h _ rfl (.tmp 6) n (by omega) rfl rfl ?_; intro w1 hm0 hm1; have HJ := Lib.hid (show CpJ w l 0 (.slice (some ⟨w.heap.size, 0, none⟩) 0 n) w1 from ⟨hm1, hm0⟩); clear hm0 hm1)
  go_loopw [3, 4] (fun v i wr => ∃ k : Nat, k ≤ n ∧ i = .int .i64 (k : Int) ∧ Hid (CpJ w l k v wr)) (fun _ i _ => n - (intOf i).toNat)
  case atStart => exact ⟨0, Nat.zero_le _, rfl, HJ⟩
  case round =>
    obtain ⟨k, hk, rfl, hh⟩ := hrel
    by_cases hlt : k < n
    · obtain ⟨ad, rfl, a0, a1, a2⟩ := (HR.out.below hh.out.bel).at_ hlt
      obtain ⟨x, hx⟩ : ∃ x, l.getD k ⟨⟨#[]⟩, ⟨#[]⟩, false⟩ = x := ⟨_, rfl⟩
      rw [hx] at a0 a1 a2
      have HX := Lib.hid (show l.take k ++ [x] = l.take (k + 1) by
        have hkl : k < l.length := by rw [HL.out]; exact hlt
        rw [← hx, List.take_succ_eq_append_getElem hkl]
        simp [List.getD, hkl])
      obtain ⟨xn, xv, xb⟩ := x
      simp only at a0 a1 a2
      have HLk := Lib.hid (show (l.take k).length = k by rw [List.length_take, HL.out]; omega)
      clear hx
      obtain ⟨A7, c7, e7, _⟩ := hh.out.own.form
      rw [HLk.out] at e7
      subst e7
      have i0 : (0 : Int) ≤ (k : Int) := by omega
      have i1 : (k : Int) < (n : Int) := by omega
      go_wp2_with (at_builtin
                   refine wpList_app_hg _ rfl (.tmp 14) (.tmp 19) rfl w.heap.size (.slice A7 k c7) (l.take k) rfl (hh.out.own.below ((Below.refl _ _).alloc (Nat.le_refl _) _)) (some ⟨wr.heap.size, 0, none⟩) 1 1 [⟨xn, xv, xb⟩] rfl (Hw.hr (hw_lit wr [⟨xn, xv, xb⟩] (by simp))) ?_ ?_ ?_
                   · rw [HLk.out]; omega
                   · have := hh.out.bel.size; simp; omega
                   intro v4 w4 hown hg hv
                   have H4 := Lib.hid (show CpJ w l (k + 1) v4 w4 from ⟨(hh.out.bel.alloc hh.out.bel.size _).grown hg (by have := hh.out.bel.size; simp; omega) (fun j e => (hh.out.own.lt j e).1), by rw [← HX.out]; exact hown⟩)
                   clear hown hg hv)
      go_roundw
      case rel => exact ⟨k + 1, hlt, by go_num, H4⟩
      case measure => simp [intOf]; omega
    · obtain rfl : k = n := by omega
      have hown := hh.out.own
      rw [List.take_of_length_le (by rw [HL.out]; exact Nat.le_refl _)] at hown
      have HO := Lib.hid hown
      clear hown
      obtain ⟨A7, c7, e7, _⟩ := HO.out.form
      rw [HL.out] at e7
      subst e7
      go_wp2
      go_ret
      exact ⟨_, rfl, Lib.hid ⟨HO.out, hh.out.bel⟩⟩
set_option maxRecDepth 100000 in
theorem sameHeader_yes (a : HdrV) (w : World) : Calls Tryd.prog 26 #[.agg #[.string a.name, .string a.value, .bool a.never], .agg #[.string a.name, .string a.value, .bool a.never]] w fun e w' => e = .returned (.bool true) ∧ Below w.heap.size w w' := by
  obtain ⟨n, v, b⟩ := a
  simp only
  go_enter Tryd.func26, Tryd.ntmps26
  go_wp2
  go_ret
  exact ⟨rfl, ((Below.refl _ _).alloc (Nat.le_refl _) _).alloc (by simp) _⟩
set_option maxHeartbeats 1000000 in
set_option maxRecDepth 100000 in
theorem sameHeaders_yes (A A2 : Option Addr) (n c c2 : Nat) (l : List HdrV) (w : World) (hn : n ≤ 1000000000) (h1 : Hr w A n l) (h2 : Hr w A2 n l) :
    Calls Tryd.prog 13 #[.slice A n c, .slice A2 n c2] w fun e w' => e = .returned (.bool true) ∧ Below w.heap.size w w' := by
  have H1 := Lib.hid h1
  have H2 := Lib.hid h2
  clear h1 h2
  go_enter Tryd.func13, Tryd.ntmps13
  go_wp2
  go_loopw [5] (fun i wr => ∃ k : Nat, k ≤ n ∧ i = .int .i64 (k : Int) ∧ Hid (Below w.heap.size w wr)) (fun i _ => n - (intOf i).toNat)
  case atStart => exact ⟨0, by omega, rfl, Lib.hid (Below.refl _ _)⟩
  case round =>
    obtain ⟨k, hk, rfl, hb⟩ := hrel
    by_cases hlt : k < n
    · obtain ⟨ad, rfl, a0, a1, a2⟩ := (H1.out.below hb.out).at_ hlt
      obtain ⟨ad2, rfl, b0, b1, b2⟩ := (H2.out.below hb.out).at_ hlt
      obtain ⟨x, hx⟩ : ∃ x, l.getD k ⟨⟨#[]⟩, ⟨#[]⟩, false⟩ = x := ⟨_, rfl⟩
      rw [hx] at a0 a1 a2 b0 b1 b2
      obtain ⟨xn, xv, xb⟩ := x
      simp only at a0 a1 a2 b0 b1 b2
      clear hx
      have i0 : (0 : Int) ≤ (k : Int) := by omega
      have i1 : (k : Int) < (n : Int) := by omega
      have HS := Lib.hid fun W => sameHeader_yes ⟨xn, xv, xb⟩ W
      go_wp2_with fail
      go_region_with ((refine (HS.out _).mono ?_; rintro e w2 ⟨rfl, g1⟩; have HB := Lib.hid (hb.out.trans (Below.mono (B := wr.heap.size) (by exact ⟨g1.os, g1.tape, g1.output, g1.size, g1.block⟩) hb.out.size)); clear g1))
      all_goals
        go_wp2_with fail
        go_roundw
        case rel => exact ⟨k + 1, hlt, by go_num, HB⟩
        case measure => simp [intOf]; omega
    · obtain rfl : k = n := by omega
      go_wp2
      go_ret
      exact ⟨rfl, hb.out⟩
end Go.Proofs.YtkikcinpgbgbdaaDoor
