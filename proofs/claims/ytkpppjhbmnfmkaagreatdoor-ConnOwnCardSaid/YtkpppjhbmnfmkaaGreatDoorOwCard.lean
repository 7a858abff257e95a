/-
  What is told and put out is new memory, and hangs not on what was handed in; conditions: texts of 8000 bytes and lists of 20 headers of 300 bytes each at most are looked at.
-/
import Derived.Test.YtkpppjhbmnfmkaaGreatDoorCards
import Derived.Test.YtkpppjhbmnfmkaaGreatDoorTie
import Derived.Test.YtkpppjhbmnfmkaaGreatDoorJau
import Derived.Test.YtkpppjhbmnfmkaaGreatDoorJaa
import Derived.Test.YtkpppjhbmnfmkaaGreatDoorUn
import Derived.ChangeOld
import Derived.Lay
import Derived.Below
set_option linter.unusedSimpArgs false
set_option linter.unusedVariables false
set_option maxHeartbeats 8000000
set_option maxRecDepth 100000
namespace Go.Proofs.YtkpppjhbmnfmkaaGreatDoor.connOwn
open Go.ChangeShapes Go.WideShapes Go.ChangeAt Go.RowKit Go.Own
open Go.ChangeMaps (open_string shut_string)
theorem laidOut : laidOutB Tryz.prog = true := by kernel_rfl
theorem door_met (os : Os) (args : Array Value) : laidMetH Tryz.prog Rows.connOwnRow.laid ((World.laidAll Tryz.prog os Rows.connOwnRow.laid).forCall (fun _ _ => 0) ⟨#[], args, []⟩).memory := by
 rw [MakeChecks.laidMetH_plain _ _ _ (by kernel_rfl)]
 exact laidMet_laidAll _ (by kernel_rfl) (by kernel_rfl)
theorem env {W : World} (h : laidMetH Tryz.prog Rows.connOwnRow.laid W) (hsh : W.ShapedOpen Tryz.prog) : ∃ a1 a2, EnvS W a1 a2 := by
 rw [MakeChecks.laidMetH_plain _ _ _ (by kernel_rfl)] at h
 exact envS_of h hsh (by simp [Rows.connOwnRow]) (by simp [Rows.connOwnRow]) (by simp [Rows.connOwnRow]) (by simp [Rows.connOwnRow]) (by simp [Rows.connOwnRow]) (by simp [Rows.connOwnRow]) (by simp [Rows.connOwnRow]) (by simp [Rows.connOwnRow]) (by simp [Rows.connOwnRow]) (by simp [Rows.connOwnRow]) (by simp [Rows.connOwnRow]) (by simp [Rows.connOwnRow]) (by simp [Rows.connOwnRow]) (by simp [Rows.connOwnRow])
theorem lifted (os : Os) (started : os.Started) (H : Type) (enc : TypeId × Value → H) :
 ReturnsInHanded {} Tryz.checked os 6 .any (fun w args => (Rows.connOwnSpec.pre enc Tryz.prog Tryz.f6 [] false w args ∧ laidMetH Tryz.prog Rows.connOwnRow.laid w) ∧ sizedMet enc Tryz.prog Tryz.f6 (OpenSpec.ofChange Rows.connOwnSpec) false w args)
  (Rows.connOwnSpec.post enc Tryz.prog Tryz.f6 false true false false) := by
 refine returnsHanded_shaped (C := Tryz.checked) (X := fun w _ => laidMetH Tryz.prog Rows.connOwnRow.laid w) (fun _ _ _ hh h => h.of_heap hh) knob started (by kernel_rfl) Tryz.func6
  (ChangeSpec.witness_shaped (enc := enc) (C := Tryz.checked) (os := os) (X := fun w _ => laidMetH Tryz.prog Rows.connOwnRow.laid w) false (World.laidAll Tryz.prog os Rows.connOwnRow.laid) #[.slice none 0 0, .slice none 0 0] 8 (World.laidAll_os _ _ _) (World.shaped_of_ZipB (by kernel_rfl) (by kernel_rfl)) (by kernel_rfl) (by kernel_rfl) (by kernel_rfl) (door_met os _)) ?_
 intro W base args ds gs before hval0 hW hsz0 hL hsh
 have hval : ∀ (j : Nat) t v, Tryz.f6.params[j]? = some t → args[j]? = some v → Value.okWide Tryz.prog W .any base t v := hval0
 have hW' := hW
 obtain ⟨p, q, hA0, hV, rfl, hfz, hnd⟩ := hW
 have hA : DataW.TrodAll enc Tryz.prog W 0 (fun _ => true) true Tryz.f6.params.toList args.toList ds p := hA0
 have hsz : (DataW.weightsEach Tryz.prog (Tryz.f6.params.toList ++ Rows.connOwnSpec.plain.varTypes Tryz.prog) (ds ++ gs)).all (· ≤ reachBytes) = true := hsz0
 clear hsz0
 rw [Tryz.params6] at hA hval hsz
 obtain ⟨v0, vs0, d0, ds0, p0, q0, hargs, rfl, rfl, h0, r0⟩ := trodAll_cons hA
 obtain ⟨v1, vs1, d1, ds1, p1, q1, rfl, rfl, rfl, h1, r1⟩ := trodAll_cons r0
 obtain ⟨rfl, rfl, rfl⟩ := trodAll_nil r1
 obtain rfl : args = #[v0, v1] := by cases args; simp_all
 obtain ⟨rfl, rfl⟩ := trodVars_none hV
 obtain ⟨ab, lb, cb, rfl⟩ := okWide_slice Tryz.underlying22 (hval 0 22 v0 rfl rfl)
 have k0 := h0
 have lt0 : ∀ x ∈ p0, x.block < W.heap.size := by obtain ⟨m, hm⟩ := k0; exact DataW.trod_lt m _ _ _ hm
 obtain ⟨bb, Rb, Cb⟩ := rd_of_trod Tryz.underlying22 Tryz.underlying5 (by kernel_rfl) h0
 obtain ⟨al, ll, cl, rfl⟩ := okWide_slice Tryz.underlying41 (hval 1 41 v1 rfl rfl)
 have k1 := h1
 have lt1 : ∀ x ∈ p1, x.block < W.heap.size := by obtain ⟨m, hm⟩ := k1; exact DataW.trod_lt m _ _ _ hm
 obtain ⟨bl, Rl, Cl⟩ := hdrs_any h1
 clear hA0 hval0
 obtain ⟨a1, a2, he⟩ := env hL hsh
 refine Calls.mono (connOwn_any W he.wd ab lb cb bb Rb al ll cl bl Rl) fun e W' ⟨hr, bel⟩ => ?_
 subst hr
 exact ⟨_, rfl, _, _, _, [], _, [], hW', trodAll_mk1 (shut_bool Tryz.underlying4 _), (trodAll_cons_mk (Below.trod laidOut (by kernel_rfl) (of_decide_eq_true (by kernel_rfl)) k0 bel lt0) (trodAll_cons_mk (Below.trod laidOut (by kernel_rfl) (of_decide_eq_true (by kernel_rfl)) k1 bel lt1) trodAll_mk0)), rfl, bel.frame _, fun h => by cases h⟩
theorem closed : joinedFacts Tryz.checked.prog 6 Tryz.f6 Rows.connOwnSpec Rows.connOwnRow = true := by
 unfold joinedFacts
 simp only [Bool.and_eq_true]
 repeat' (with_reducible apply And.intro)
 all_goals (as_aux_lemma => kernel_rfl)
theorem inst : Tryz.f6.isInstance Tryz.checked.prog Rows.connOwnRow.origin Rows.connOwnRow.targs := of_decide_eq_true (by kernel_rfl)
theorem wrap : Tryz.f6.isWrapper Tryz.checked.prog Rows.connOwnRow.wrapper Rows.connOwnRow.mainSum := by unfold Func.isWrapper; first | (rw [if_pos (by decide +kernel)]; kernel_rfl) | (rw [if_neg (by decide +kernel)]; exact ⟨rfl, rfl⟩)
theorem named : Tryz.pinned.checked.prog.funcNamed Rows.connOwnRow.func = some 6 := by kernel_rfl
theorem said : Rows.ConnOwnSaid :=
 OpenClaim.holds_of_wide 6 Tryz.f6 rfl rfl rfl rfl rfl rfl rfl ⟨rfl, rfl, rfl, rfl, rfl⟩ rfl rfl rfl rfl rfl named Tryz.func6 closed inst wrap
  (fun os started H enc _ => lifted os started H enc)
theorem plain (f : FuncId) (fn : Func) (hf : Tryz.pinned.checked.prog.funcNamed "parley/parleylaw8.ConnOwn" = some f) (hfn : Tryz.pinned.checked.prog.funcs[f]? = some fn) :
 true = Tryz.pinned.checked.prog.looks [] ∧ ∀ (j : Nat) t, fn.params[j]? = some t → Tryz.pinned.checked.prog.wantsStandIn t = false := by
 obtain rfl : f = 6 := Option.some.inj ((show Tryz.prog.funcNamed "parley/parleylaw8.ConnOwn" = some 6 by kernel_rfl).symm.trans hf) |>.symm
 obtain rfl : fn = Tryz.f6 := (Option.some.inj (Tryz.func6.symm.trans hfn)).symm
 refine ⟨by kernel_rfl, fun j t ht => ?_⟩
 rw [Tryz.params6] at ht
 have hm := Array.mem_of_getElem? ht
 simp only [List.mem_toArray, List.mem_cons, List.not_mem_nil, or_false] at hm
 rcases hm with rfl | rfl
 · exact (show Tryz.prog.wantsStandIn 22 = false by kernel_rfl)
 · exact (show Tryz.prog.wantsStandIn 41 = false by kernel_rfl)
theorem card : Rows.ConnOwnCardSaid :=
 Claim7.holds_tied_plain_at .later [] _ _ _ _ said (fun _ h => by cases h) (by kernel_rfl) (fun _ h => by cases h) connOwn_row_tie rfl ⟨rfl, rfl⟩ (by kernel_rfl) rfl plain (by kernel_rfl)
end Go.Proofs.YtkpppjhbmnfmkaaGreatDoor.connOwn
