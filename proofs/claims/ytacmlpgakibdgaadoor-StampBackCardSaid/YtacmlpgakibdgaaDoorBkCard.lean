/-
  StampBack: its row and its card: a time and a span are read back from their texts, a time from its date; texts of one length rise as the times do; for all times and spans; the variables hold what the text of the program lays.
-/
import Derived.Test.YtacmlpgakibdgaaDoorCards
import Derived.Test.YtacmlpgakibdgaaDoorTie
import Derived.Test.YtacmlpgakibdgaaDoorLd
import Derived.Test.YtacmlpgakibdgaaDoorBk
import Derived.Test.YtacmlpgakibdgaaDoorPair
import Derived.ChangeOld
import Derived.Lay
import Derived.Below
namespace Go.Proofs.YtacmlpgakibdgaaDoor.stampBack
open Go.ChangeShapes Go.WideShapes Go.ChangeAt Go.RowKit Go.Own

theorem laidOut : laidOutB Tryd.prog = true := by kernel_rfl
theorem door_met (os : Os) (args : Array Value) : laidMetH Tryd.prog Rows.stampBackRow.laid ((World.laidAll Tryd.prog os Rows.stampBackRow.laid).forCall (fun _ _ => 0) ⟨#[], args, []⟩).memory := by
  rw [MakeChecks.laidMetH_plain _ _ _ (by kernel_rfl)]
  exact laidMet_laidAll _ (by kernel_rfl) (by kernel_rfl)

theorem env {W : World} (h : laidMetH Tryd.prog Rows.stampBackRow.laid W) : ∃ ea, EnvS W ea := by
  rw [MakeChecks.laidMetH_plain _ _ _ (by kernel_rfl)] at h
  exact envS_of h (by simp [Rows.stampBackRow]) (by simp [Rows.stampBackRow]) (by simp [Rows.stampBackRow])

set_option maxRecDepth 100000 in
theorem lifted (os : Os) (started : os.Started) (H : Type) (enc : TypeId × Value → H) :
    ReturnsInHanded {} Tryd.checked os 5 .any (fun w args => (Rows.stampBackSpec.pre enc Tryd.prog Tryd.f5 [] false w args ∧ laidMetH Tryd.prog Rows.stampBackRow.laid w) ∧ sizedMet enc Tryd.prog Tryd.f5 (OpenSpec.ofChange Rows.stampBackSpec) false w args)
      (Rows.stampBackSpec.post enc Tryd.prog Tryd.f5 false true false false) := by
  refine returnsInHanded_of_change_and (C := Tryd.checked) (X := fun w _ => laidMetH Tryd.prog Rows.stampBackRow.laid w) (fun _ _ _ hh h => h.of_heap hh) knob started (by kernel_rfl) Tryd.func5
    (ChangeSpec.witness_shaped (enc := enc) (C := Tryd.checked) (os := os) (X := fun w _ => laidMetH Tryd.prog Rows.stampBackRow.laid w) false (World.laidAll Tryd.prog os Rows.stampBackRow.laid) #[.agg #[.int .i64 0, .int .i64 0], .agg #[.int .i64 0, .int .i64 0], .agg #[.int .i64 0, .int .i64 0]] 8 (World.laidAll_os _ _ _) (World.shaped_of_ZipB (by kernel_rfl) (by kernel_rfl)) (by kernel_rfl) (by kernel_rfl) (by kernel_rfl) (door_met os _)) ?_
  intro W base args ds gs before hval0 hW _ _ hL _
  have hval : ∀ (j : Nat) t v, Tryd.f5.params[j]? = some t → args[j]? = some v → Value.okWide Tryd.prog W .any base t v := hval0
  have hW' := hW
  obtain ⟨p, q, hA0, hV, rfl, hfz, hnd⟩ := hW
  have hA : DataW.TrodAll enc Tryd.prog W 0 (fun _ => true) true Tryd.f5.params.toList args.toList ds p := hA0
  rw [Tryd.params5] at hA hval
  obtain ⟨v0, vs0, d0, ds0, p0, q0, hargs, rfl, rfl, h0, r0⟩ := trodAll_cons hA
  obtain ⟨v1, vs1, d1, ds1, p1, q1, rfl, rfl, rfl, h1, r1⟩ := trodAll_cons r0
  obtain ⟨v2, vs2, d2, ds2, p2, q2, rfl, rfl, rfl, h2, r2⟩ := trodAll_cons r1
  obtain ⟨rfl, rfl, rfl⟩ := trodAll_nil r2
  obtain rfl : args = #[v0, v1, v2] := by cases args; simp_all
  obtain ⟨rfl, rfl⟩ := trodVars_none hV
  obtain ⟨a1, a2, rfl, rfl, rfl, wf_a1, wf_a2⟩ := open_pair Tryd.underlying24 (by kernel_rfl) (by kernel_rfl) rfl rfl Tryd.underlying3 (hval 0 24 v0 rfl rfl) h0
  obtain ⟨c1, c2, rfl, rfl, rfl, wf_c1, wf_c2⟩ := open_pair Tryd.underlying24 (by kernel_rfl) (by kernel_rfl) rfl rfl Tryd.underlying3 (hval 1 24 v1 rfl rfl) h1
  obtain ⟨x1, x2, rfl, rfl, rfl, wf_x1, wf_x2⟩ := open_pair Tryd.underlying32 (by kernel_rfl) (by kernel_rfl) rfl rfl Tryd.underlying3 (hval 2 32 v2 rfl rfl) h2
  clear hA0 hval0
  obtain ⟨ea, he⟩ := env hL
  refine Calls.mono (stampBack_any a1 a2 c1 c2 x1 x2 W ea he) fun e W' ⟨hr, bel⟩ => ?_
  subst hr
  exact ⟨_, rfl, _, _, _, [], _, [], hW', trodAll_mk1 (shut_bool Tryd.underlying4 _), (trodAll_cons_mk (shut_pair Tryd.underlying24 (by kernel_rfl) (by kernel_rfl) rfl rfl Tryd.underlying3 wf_a1 wf_a2) (trodAll_cons_mk (shut_pair Tryd.underlying24 (by kernel_rfl) (by kernel_rfl) rfl rfl Tryd.underlying3 wf_c1 wf_c2) (trodAll_cons_mk (shut_pair Tryd.underlying32 (by kernel_rfl) (by kernel_rfl) rfl rfl Tryd.underlying3 wf_x1 wf_x2) trodAll_mk0))), rfl, bel.frame _, fun h => by cases h⟩

theorem said : Rows.StampBackSaid :=
  OpenClaim.holds_of_wide 5 Tryd.f5 rfl rfl rfl rfl rfl rfl rfl ⟨rfl, rfl, rfl, rfl, rfl⟩ rfl rfl rfl rfl rfl (by kernel_rfl) Tryd.func5 (by kernel_rfl)
    (of_decide_eq_true (by kernel_rfl)) (by unfold Func.isWrapper; first | (rw [if_pos (by decide +kernel)]; kernel_rfl) | (rw [if_neg (by decide +kernel)]; exact ⟨rfl, rfl⟩))
    (fun os started H enc _ => lifted os started H enc)

theorem plain (f : FuncId) (fn : Func) (hf : Tryd.pinned.checked.prog.funcNamed "parley/parleylaw24.StampBack" = some f) (hfn : Tryd.pinned.checked.prog.funcs[f]? = some fn) :
    true = Tryd.pinned.checked.prog.looks [] ∧ ∀ (j : Nat) t, fn.params[j]? = some t → Tryd.pinned.checked.prog.wantsStandIn t = false := by
  obtain rfl : f = 5 := Option.some.inj ((show Tryd.prog.funcNamed "parley/parleylaw24.StampBack" = some 5 by kernel_rfl).symm.trans hf) |>.symm
  obtain rfl : fn = Tryd.f5 := (Option.some.inj (Tryd.func5.symm.trans hfn)).symm
  refine ⟨by kernel_rfl, fun j t ht => ?_⟩
  rw [Tryd.params5] at ht
  have hm := Array.mem_of_getElem? ht
  simp only [List.mem_toArray, List.mem_cons, List.not_mem_nil, or_false] at hm
  rcases hm with rfl | rfl | rfl
  · exact (show Tryd.prog.wantsStandIn 24 = false by kernel_rfl)
  · exact (show Tryd.prog.wantsStandIn 24 = false by kernel_rfl)
  · exact (show Tryd.prog.wantsStandIn 32 = false by kernel_rfl)

theorem card : Rows.StampBackCardSaid :=
  Claim7.holds_tied_plain_at .later [] _ _ _ _ said (fun _ h => by cases h) (by kernel_rfl) (fun _ h => by cases h) stampBack_row_tie rfl ⟨rfl, rfl⟩ (by kernel_rfl) rfl plain (by kernel_rfl)
end Go.Proofs.YtacmlpgakibdgaaDoor.stampBack
