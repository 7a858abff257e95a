/-
  What an end tells and puts out hangs on the bytes that it was fed, not on their pieces; conditions: 16384 bytes and 200 pieces at most are looked at.
-/
import Derived.Test.YtkpppjhbmnfmkaaGreatDoorCards
import Derived.Test.YtkpppjhbmnfmkaaGreatDoorTie
import Derived.Test.YtkpppjhbmnfmkaaGreatDoorJav
import Derived.Test.YtkpppjhbmnfmkaaGreatDoorJaa
import Derived.Test.YtkpppjhbmnfmkaaGreatDoorMz
import Derived.ChangeOld
import Derived.Lay
import Derived.Below
set_option linter.unusedSimpArgs false
set_option linter.unusedVariables false
set_option maxHeartbeats 8000000
set_option maxRecDepth 100000
namespace Go.Proofs.YtkpppjhbmnfmkaaGreatDoor.connPieces
open Go.ChangeShapes Go.WideShapes Go.ChangeAt Go.RowKit Go.Own
open Go.ChangeMaps (open_string shut_string)
theorem laidOut : laidOutB Tryz.prog = true := by kernel_rfl
theorem door_met (os : Os) (args : Array Value) : laidMetH Tryz.prog Rows.connPiecesRow.laid ((World.laidAll Tryz.prog os Rows.connPiecesRow.laid).forCall (fun _ _ => 0) ⟨#[], args, []⟩).memory := by
 rw [MakeChecks.laidMetH_plain _ _ _ (by kernel_rfl)]
 exact laidMet_laidAll _ (by kernel_rfl) (by kernel_rfl)
theorem env {W : World} (h : laidMetH Tryz.prog Rows.connPiecesRow.laid W) (hsh : W.ShapedOpen Tryz.prog) : ∃ a1 a2, EnvS W a1 a2 := by
 rw [MakeChecks.laidMetH_plain _ _ _ (by kernel_rfl)] at h
 exact envS_of h hsh (by simp [Rows.connPiecesRow]) (by simp [Rows.connPiecesRow]) (by simp [Rows.connPiecesRow]) (by simp [Rows.connPiecesRow]) (by simp [Rows.connPiecesRow]) (by simp [Rows.connPiecesRow]) (by simp [Rows.connPiecesRow]) (by simp [Rows.connPiecesRow]) (by simp [Rows.connPiecesRow]) (by simp [Rows.connPiecesRow]) (by simp [Rows.connPiecesRow]) (by simp [Rows.connPiecesRow]) (by simp [Rows.connPiecesRow]) (by simp [Rows.connPiecesRow])
theorem lifted (os : Os) (started : os.Started) (H : Type) (enc : TypeId × Value → H) :
 ReturnsInHanded {} Tryz.checked os 4 .any (fun w args => (Rows.connPiecesSpec.pre enc Tryz.prog Tryz.f4 [] false w args ∧ laidMetH Tryz.prog Rows.connPiecesRow.laid w) ∧ sizedMet enc Tryz.prog Tryz.f4 (OpenSpec.ofChange Rows.connPiecesSpec) false w args)
  (Rows.connPiecesSpec.post enc Tryz.prog Tryz.f4 false true false false) := by
 refine returnsHanded_shaped (C := Tryz.checked) (X := fun w _ => laidMetH Tryz.prog Rows.connPiecesRow.laid w) (fun _ _ _ hh h => h.of_heap hh) knob started (by kernel_rfl) Tryz.func4
  (ChangeSpec.witness_shaped (enc := enc) (C := Tryz.checked) (os := os) (X := fun w _ => laidMetH Tryz.prog Rows.connPiecesRow.laid w) false (World.laidAll Tryz.prog os Rows.connPiecesRow.laid) #[.int .i64 0, .agg #[.int .i64 0, .int .i64 0], .bool false, .slice none 0 0, .slice none 0 0] 8 (World.laidAll_os _ _ _) (World.shaped_of_ZipB (by kernel_rfl) (by kernel_rfl)) (by kernel_rfl) (by kernel_rfl) (by kernel_rfl) (door_met os _)) ?_
 intro W base args ds gs before hval0 hW hsz0 hL hsh
 have hval : ∀ (j : Nat) t v, Tryz.f4.params[j]? = some t → args[j]? = some v → Value.okWide Tryz.prog W .any base t v := hval0
 have hW' := hW
 obtain ⟨p, q, hA0, hV, rfl, hfz, hnd⟩ := hW
 have hA : DataW.TrodAll enc Tryz.prog W 0 (fun _ => true) true Tryz.f4.params.toList args.toList ds p := hA0
 have hsz : (DataW.weightsEach Tryz.prog (Tryz.f4.params.toList ++ Rows.connPiecesSpec.plain.varTypes Tryz.prog) (ds ++ gs)).all (· ≤ reachBytes) = true := hsz0
 clear hsz0
 rw [Tryz.params4] at hA hval hsz
 obtain ⟨v0, vs0, d0, ds0, p0, q0, hargs, rfl, rfl, h0, r0⟩ := trodAll_cons hA
 obtain ⟨v1, vs1, d1, ds1, p1, q1, rfl, rfl, rfl, h1, r1⟩ := trodAll_cons r0
 obtain ⟨v2, vs2, d2, ds2, p2, q2, rfl, rfl, rfl, h2, r2⟩ := trodAll_cons r1
 obtain ⟨v3, vs3, d3, ds3, p3, q3, rfl, rfl, rfl, h3, r3⟩ := trodAll_cons r2
 obtain ⟨v4, vs4, d4, ds4, p4, q4, rfl, rfl, rfl, h4, r4⟩ := trodAll_cons r3
 obtain ⟨rfl, rfl, rfl⟩ := trodAll_nil r4
 obtain rfl : args = #[v0, v1, v2, v3, v4] := by cases args; simp_all
 obtain ⟨rfl, rfl⟩ := trodVars_none hV
 obtain ⟨side, rfl, rfl, rfl, wf_side⟩ := open_int Tryz.underlying3 (hval 0 3 v0 rfl rfl) h0
 obtain ⟨c1, c2, rfl, rfl, rfl, wf_c1, wf_c2⟩ := open_pair Tryz.underlying32 (by kernel_rfl) (by kernel_rfl) rfl rfl Tryz.underlying3 (hval 1 32 v1 rfl rfl) h1
 obtain ⟨started, rfl, rfl, rfl⟩ := open_bool Tryz.underlying4 (hval 2 4 v2 rfl rfl) h2
 obtain ⟨ab, lb, cb, rfl⟩ := okWide_slice Tryz.underlying22 (hval 3 22 v3 rfl rfl)
 have k3 := h3
 have lt3 : ∀ x ∈ p3, x.block < W.heap.size := by obtain ⟨m, hm⟩ := k3; exact DataW.trod_lt m _ _ _ hm
 obtain ⟨bb, Rb, Cb⟩ := rd_of_trod Tryz.underlying22 Tryz.underlying5 (by kernel_rfl) h3
 obtain ⟨acuts, lcuts, ccuts, rfl⟩ := okWide_slice Tryz.underlying46 (hval 4 46 v4 rfl rfl)
 have k4 := h4
 have lt4 : ∀ x ∈ p4, x.block < W.heap.size := by obtain ⟨m, hm⟩ := k4; exact DataW.trod_lt m _ _ _ hm
 obtain ⟨bcuts, Rcuts, Ccuts⟩ := ri_of_trod Tryz.underlying46 Tryz.underlying3 (by kernel_rfl) h4
 clear hA0 hval0
 obtain ⟨a1, a2, he⟩ := env hL hsh
 refine Calls.mono (connPieces_any W he side c1 c2 started ab lb cb bb Rb acuts lcuts ccuts bcuts Rcuts) fun e W' ⟨hr, bel⟩ => ?_
 subst hr
 exact ⟨_, rfl, _, _, _, [], _, [], hW', trodAll_mk1 (shut_bool Tryz.underlying4 _), (trodAll_cons_mk (shut_int Tryz.underlying3 wf_side) (trodAll_cons_mk (shut_pair Tryz.underlying32 (by kernel_rfl) (by kernel_rfl) rfl rfl Tryz.underlying3 wf_c1 wf_c2) (trodAll_cons_mk (shut_bool Tryz.underlying4 _) (trodAll_cons_mk (Below.trod laidOut (by kernel_rfl) (of_decide_eq_true (by kernel_rfl)) k3 bel lt3) (trodAll_cons_mk (Below.trod laidOut (by kernel_rfl) (of_decide_eq_true (by kernel_rfl)) k4 bel lt4) trodAll_mk0))))), rfl, bel.frame _, fun h => by cases h⟩
theorem closed : joinedFacts Tryz.checked.prog 4 Tryz.f4 Rows.connPiecesSpec Rows.connPiecesRow = true := by
 unfold joinedFacts
 simp only [Bool.and_eq_true]
 repeat' (with_reducible apply And.intro)
 all_goals (as_aux_lemma => kernel_rfl)
theorem inst : Tryz.f4.isInstance Tryz.checked.prog Rows.connPiecesRow.origin Rows.connPiecesRow.targs := of_decide_eq_true (by kernel_rfl)
theorem wrap : Tryz.f4.isWrapper Tryz.checked.prog Rows.connPiecesRow.wrapper Rows.connPiecesRow.mainSum := by unfold Func.isWrapper; first | (rw [if_pos (by decide +kernel)]; kernel_rfl) | (rw [if_neg (by decide +kernel)]; exact ⟨rfl, rfl⟩)
theorem named : Tryz.pinned.checked.prog.funcNamed Rows.connPiecesRow.func = some 4 := by kernel_rfl
theorem said : Rows.ConnPiecesSaid :=
 OpenClaim.holds_of_wide 4 Tryz.f4 rfl rfl rfl rfl rfl rfl rfl ⟨rfl, rfl, rfl, rfl, rfl⟩ rfl rfl rfl rfl rfl named Tryz.func4 closed inst wrap
  (fun os started H enc _ => lifted os started H enc)
theorem plain (f : FuncId) (fn : Func) (hf : Tryz.pinned.checked.prog.funcNamed "parley/parleylaw8.ConnPieces" = some f) (hfn : Tryz.pinned.checked.prog.funcs[f]? = some fn) :
 true = Tryz.pinned.checked.prog.looks [] ∧ ∀ (j : Nat) t, fn.params[j]? = some t → Tryz.pinned.checked.prog.wantsStandIn t = false := by
 obtain rfl : f = 4 := Option.some.inj ((show Tryz.prog.funcNamed "parley/parleylaw8.ConnPieces" = some 4 by kernel_rfl).symm.trans hf) |>.symm
 obtain rfl : fn = Tryz.f4 := (Option.some.inj (Tryz.func4.symm.trans hfn)).symm
 refine ⟨by kernel_rfl, fun j t ht => ?_⟩
 rw [Tryz.params4] at ht
 have hm := Array.mem_of_getElem? ht
 simp only [List.mem_toArray, List.mem_cons, List.not_mem_nil, or_false] at hm
 rcases hm with rfl | rfl | rfl | rfl | rfl
 · exact (show Tryz.prog.wantsStandIn 3 = false by kernel_rfl)
 · exact (show Tryz.prog.wantsStandIn 32 = false by kernel_rfl)
 · exact (show Tryz.prog.wantsStandIn 4 = false by kernel_rfl)
 · exact (show Tryz.prog.wantsStandIn 22 = false by kernel_rfl)
 · exact (show Tryz.prog.wantsStandIn 46 = false by kernel_rfl)
theorem card : Rows.ConnPiecesCardSaid :=
 Claim7.holds_tied_plain_at .later [] _ _ _ _ said (fun _ h => by cases h) (by kernel_rfl) (fun _ h => by cases h) connPieces_row_tie rfl ⟨rfl, rfl⟩ (by kernel_rfl) rfl plain (by kernel_rfl)
end Go.Proofs.YtkpppjhbmnfmkaaGreatDoor.connPieces
