/-
  StampAlgebra: its row and its card: what is added, and what lies between, undo one another; spans together hang not on the order; for all times and spans; the variables hold what the program's text lays.
-/
import Derived.Test.YtacmlpgakibdgaaDoorCards
import Derived.Test.YtacmlpgakibdgaaDoorTie
import Derived.Test.YtacmlpgakibdgaaDoorLd
import Derived.Test.YtacmlpgakibdgaaDoorAgb
import Derived.Test.YtacmlpgakibdgaaDoorPair
import Derived.ChangeOld
import Derived.Lay
import Derived.Below
namespace Go.Proofs.YtacmlpgakibdgaaDoor.stampAlgebra
open Go.ChangeShapes Go.WideShapes Go.ChangeAt Go.RowKit Go.Own

theorem laidOut : laidOutB Tryd.prog = true := by kernel_rfl
theorem door_met (os : Os) (args : Array Value) : laidMetH Tryd.prog Rows.stampAlgebraRow.laid ((World.laidAll Tryd.prog os Rows.stampAlgebraRow.laid).forCall (fun _ _ => 0) ⟨#[], args, []⟩).memory := by
  rw [MakeChecks.laidMetH_plain _ _ _ (by kernel_rfl)]
  exact laidMet_laidAll _ (by kernel_rfl) (by kernel_rfl)

theorem env {W : World} (h : laidMetH Tryd.prog Rows.stampAlgebraRow.laid W) : ∃ ea, EnvS W ea := by
  rw [MakeChecks.laidMetH_plain _ _ _ (by kernel_rfl)] at h
  exact envS_of h (by simp [Rows.stampAlgebraRow]) (by simp [Rows.stampAlgebraRow]) (by simp [Rows.stampAlgebraRow])

set_option maxRecDepth 100000 in
theorem lifted (os : Os) (started : os.Started) (H : Type) (enc : TypeId × Value → H) :
    ReturnsInHanded {} Tryd.checked os 6 .any (fun w args => (Rows.stampAlgebraSpec.pre enc Tryd.prog Tryd.f6 [] false w args ∧ laidMetH Tryd.prog Rows.stampAlgebraRow.laid w) ∧ sizedMet enc Tryd.prog Tryd.f6 (OpenSpec.ofChange Rows.stampAlgebraSpec) false w args)
      (Rows.stampAlgebraSpec.post enc Tryd.prog Tryd.f6 false true false false) := by
  refine returnsInHanded_of_change_and (C := Tryd.checked) (X := fun w _ => laidMetH Tryd.prog Rows.stampAlgebraRow.laid w) (fun _ _ _ hh h => h.of_heap hh) knob started (by kernel_rfl) Tryd.func6
    (ChangeSpec.witness_shaped (enc := enc) (C := Tryd.checked) (os := os) (X := fun w _ => laidMetH Tryd.prog Rows.stampAlgebraRow.laid w) false (World.laidAll Tryd.prog os Rows.stampAlgebraRow.laid) #[.agg #[.int .i64 0, .int .i64 0], .agg #[.int .i64 0, .int .i64 0], .agg #[.int .i64 0, .int .i64 0], .agg #[.int .i64 0, .int .i64 0], .agg #[.int .i64 0, .int .i64 0]] 8 (World.laidAll_os _ _ _) (World.shaped_of_ZipB (by kernel_rfl) (by kernel_rfl)) (by kernel_rfl) (by kernel_rfl) (by kernel_rfl) (door_met os _)) ?_
  intro W base args ds gs before hval0 hW _ _ hL _
  have hval : ∀ (j : Nat) t v, Tryd.f6.params[j]? = some t → args[j]? = some v → Value.okWide Tryd.prog W .any base t v := hval0
  have hW' := hW
  obtain ⟨p, q, hA0, hV, rfl, hfz, hnd⟩ := hW
  have hA : DataW.TrodAll enc Tryd.prog W 0 (fun _ => true) true Tryd.f6.params.toList args.toList ds p := hA0
  rw [Tryd.params6] at hA hval
  obtain ⟨v0, vs0, d0, ds0, p0, q0, hargs, rfl, rfl, h0, r0⟩ := trodAll_cons hA
  obtain ⟨v1, vs1, d1, ds1, p1, q1, rfl, rfl, rfl, h1, r1⟩ := trodAll_cons r0
  obtain ⟨v2, vs2, d2, ds2, p2, q2, rfl, rfl, rfl, h2, r2⟩ := trodAll_cons r1
  obtain ⟨v3, vs3, d3, ds3, p3, q3, rfl, rfl, rfl, h3, r3⟩ := trodAll_cons r2
  obtain ⟨v4, vs4, d4, ds4, p4, q4, rfl, rfl, rfl, h4, r4⟩ := trodAll_cons r3
  obtain ⟨rfl, rfl, rfl⟩ := trodAll_nil r4
  obtain rfl : args = #[v0, v1, v2, v3, v4] := by cases args; simp_all
  obtain ⟨rfl, rfl⟩ := trodVars_none hV
  obtain ⟨a1, a2, rfl, rfl, rfl, wf_a1, wf_a2⟩ := open_pair Tryd.underlying24 (by kernel_rfl) (by kernel_rfl) rfl rfl Tryd.underlying3 (hval 0 24 v0 rfl rfl) h0
  obtain ⟨b1, b2, rfl, rfl, rfl, wf_b1, wf_b2⟩ := open_pair Tryd.underlying24 (by kernel_rfl) (by kernel_rfl) rfl rfl Tryd.underlying3 (hval 1 24 v1 rfl rfl) h1
  obtain ⟨x1, x2, rfl, rfl, rfl, wf_x1, wf_x2⟩ := open_pair Tryd.underlying32 (by kernel_rfl) (by kernel_rfl) rfl rfl Tryd.underlying3 (hval 2 32 v2 rfl rfl) h2
  obtain ⟨y1, y2, rfl, rfl, rfl, wf_y1, wf_y2⟩ := open_pair Tryd.underlying32 (by kernel_rfl) (by kernel_rfl) rfl rfl Tryd.underlying3 (hval 3 32 v3 rfl rfl) h3
  obtain ⟨z1, z2, rfl, rfl, rfl, wf_z1, wf_z2⟩ := open_pair Tryd.underlying32 (by kernel_rfl) (by kernel_rfl) rfl rfl Tryd.underlying3 (hval 4 32 v4 rfl rfl) h4
  clear hA0 hval0
  obtain ⟨ea, he⟩ := env hL
  refine Calls.mono (stampAlgebra_any a1 a2 b1 b2 x1 x2 y1 y2 z1 z2 W ea he) fun e W' ⟨hr, bel⟩ => ?_
  subst hr
  exact ⟨_, rfl, _, _, _, [], _, [], hW', trodAll_mk1 (shut_bool Tryd.underlying4 _), (trodAll_cons_mk (shut_pair Tryd.underlying24 (by kernel_rfl) (by kernel_rfl) rfl rfl Tryd.underlying3 wf_a1 wf_a2) (trodAll_cons_mk (shut_pair Tryd.underlying24 (by kernel_rfl) (by kernel_rfl) rfl rfl Tryd.underlying3 wf_b1 wf_b2) (trodAll_cons_mk (shut_pair Tryd.underlying32 (by kernel_rfl) (by kernel_rfl) rfl rfl Tryd.underlying3 wf_x1 wf_x2) (trodAll_cons_mk (shut_pair Tryd.underlying32 (by kernel_rfl) (by kernel_rfl) rfl rfl Tryd.underlying3 wf_y1 wf_y2) (trodAll_cons_mk (shut_pair Tryd.underlying32 (by kernel_rfl) (by kernel_rfl) rfl rfl Tryd.underlying3 wf_z1 wf_z2) trodAll_mk0))))), rfl, bel.frame _, fun h => by cases h⟩

theorem said : Rows.StampAlgebraSaid :=
  OpenClaim.holds_of_wide 6 Tryd.f6 rfl rfl rfl rfl rfl rfl rfl ⟨rfl, rfl, rfl, rfl, rfl⟩ rfl rfl rfl rfl rfl (by kernel_rfl) Tryd.func6 (by kernel_rfl)
    (of_decide_eq_true (by kernel_rfl)) (by unfold Func.isWrapper; first | (rw [if_pos (by decide +kernel)]; kernel_rfl) | (rw [if_neg (by decide +kernel)]; exact ⟨rfl, rfl⟩))
    (fun os started H enc _ => lifted os started H enc)

theorem plain (f : FuncId) (fn : Func) (hf : Tryd.pinned.checked.prog.funcNamed "parley/parleylaw24.StampAlgebra" = some f) (hfn : Tryd.pinned.checked.prog.funcs[f]? = some fn) :
    true = Tryd.pinned.checked.prog.looks [] ∧ ∀ (j : Nat) t, fn.params[j]? = some t → Tryd.pinned.checked.prog.wantsStandIn t = false := by
  obtain rfl : f = 6 := Option.some.inj ((show Tryd.prog.funcNamed "parley/parleylaw24.StampAlgebra" = some 6 by kernel_rfl).symm.trans hf) |>.symm
  obtain rfl : fn = Tryd.f6 := (Option.some.inj (Tryd.func6.symm.trans hfn)).symm
  refine ⟨by kernel_rfl, fun j t ht => ?_⟩
  rw [Tryd.params6] at ht
  have hm := Array.mem_of_getElem? ht
  simp only [List.mem_toArray, List.mem_cons, List.not_mem_nil, or_false] at hm
  rcases hm with rfl | rfl | rfl | rfl | rfl
  · exact (show Tryd.prog.wantsStandIn 24 = false by kernel_rfl)
  · exact (show Tryd.prog.wantsStandIn 24 = false by kernel_rfl)
  · exact (show Tryd.prog.wantsStandIn 32 = false by kernel_rfl)
  · exact (show Tryd.prog.wantsStandIn 32 = false by kernel_rfl)
  · exact (show Tryd.prog.wantsStandIn 32 = false by kernel_rfl)

theorem card : Rows.StampAlgebraCardSaid :=
  Claim7.holds_tied_plain_at .later [] _ _ _ _ said (fun _ h => by cases h) (by kernel_rfl) (fun _ h => by cases h) stampAlgebra_row_tie rfl ⟨rfl, rfl⟩ (by kernel_rfl) rfl plain (by kernel_rfl)
end Go.Proofs.YtacmlpgakibdgaaDoor.stampAlgebra
