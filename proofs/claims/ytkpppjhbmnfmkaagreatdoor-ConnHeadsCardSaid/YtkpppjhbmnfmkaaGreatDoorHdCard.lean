/-
  A header list that comes to a server, in whatever pieces its block is cut, opens a stream and is told, or resets it: as chapters 4 and 6 say; conditions: lists of 50 headers and 12000 bytes at most are looked at.
-/
import Derived.Test.YtkpppjhbmnfmkaaGreatDoorCards
import Derived.Test.YtkpppjhbmnfmkaaGreatDoorTie
import Derived.Test.YtkpppjhbmnfmkaaGreatDoorUf
import Derived.Test.YtkpppjhbmnfmkaaGreatDoorJaa
import Derived.ChangeOld
import Derived.Lay
import Derived.Below
set_option linter.unusedSimpArgs false
set_option linter.unusedVariables false
set_option maxHeartbeats 8000000
set_option maxRecDepth 100000
namespace Go.Proofs.YtkpppjhbmnfmkaaGreatDoor.connHeads
open Go.ChangeShapes Go.WideShapes Go.ChangeAt Go.RowKit Go.Own
open Go.ChangeMaps (open_string shut_string)
theorem laidOut:laidOutB Tryz.prog=true:=by kernel_rfl
theorem door_met (os:Os) (args:Array Value):laidMetH Tryz.prog Rows.connHeadsRow.laid ((World.laidAll Tryz.prog os Rows.connHeadsRow.laid).forCall (λ_ _=>0) ⟨#[],args,[]⟩).memory:=by
 rw[MakeChecks.laidMetH_plain _ _ _ (by kernel_rfl)];exact laidMet_laidAll _ (by kernel_rfl) (by kernel_rfl)
theorem env {W:World} (h:laidMetH Tryz.prog Rows.connHeadsRow.laid W) (hsh:W.ShapedOpen Tryz.prog):∃a1 a2,EnvS W a1 a2:=by
 rw[MakeChecks.laidMetH_plain _ _ _ (by kernel_rfl)]at h;exact envS_of h hsh (by simp[Rows.connHeadsRow]) (by simp[Rows.connHeadsRow]) (by simp[Rows.connHeadsRow]) (by simp[Rows.connHeadsRow]) (by simp[Rows.connHeadsRow]) (by simp[Rows.connHeadsRow]) (by simp[Rows.connHeadsRow]) (by simp[Rows.connHeadsRow]) (by simp[Rows.connHeadsRow]) (by simp[Rows.connHeadsRow]) (by simp[Rows.connHeadsRow]) (by simp[Rows.connHeadsRow]) (by simp[Rows.connHeadsRow])
theorem lifted (os:Os) (started:os.Started) (H:Type) (enc:TypeId×Value->H):
 ReturnsInHanded {} Tryz.checked os 5 .any (λw args=>(Rows.connHeadsSpec.pre enc Tryz.prog Tryz.f5 [] false w args/\laidMetH Tryz.prog Rows.connHeadsRow.laid w)/\sizedMet enc Tryz.prog Tryz.f5 (OpenSpec.ofChange Rows.connHeadsSpec) false w args)
  (Rows.connHeadsSpec.post enc Tryz.prog Tryz.f5 false true false false):=by
 refine returnsHanded_shaped (C:=Tryz.checked) (X:=λw _=>laidMetH Tryz.prog Rows.connHeadsRow.laid w) (λ_ _ _ hh h=>h.of_heap hh) knob started (by kernel_rfl) Tryz.func5
  (ChangeSpec.witness_shaped (enc:=enc) (C:=Tryz.checked) (os:=os) (X:=λw _=>laidMetH Tryz.prog Rows.connHeadsRow.laid w) false (World.laidAll Tryz.prog os Rows.connHeadsRow.laid) #[.slice none 0 0,.bool false,.int .i64 0,.int .i64 0,.int .i64 0] 8 (World.laidAll_os _ _ _) (World.shaped_of_ZipB (by kernel_rfl) (by kernel_rfl)) (by kernel_rfl) (by kernel_rfl) (by kernel_rfl) (door_met os _)) ?_
 intro W base args ds gs before hval0 hW hsz0 hL hsh;have hval:∀(j:Nat) t v,Tryz.f5.params[j]?=some t->args[j]?=some v->Value.okWide Tryz.prog W .any base t v:=hval0;have hW':=hW;obtain⟨p,q,hA0,hV,rfl,hfz,hnd⟩:=hW;have hA:DataW.TrodAll enc Tryz.prog W 0 (λ_=>true) true Tryz.f5.params.toList args.toList ds p:=hA0;have hsz:(DataW.weightsEach Tryz.prog (Tryz.f5.params.toList++Rows.connHeadsSpec.plain.varTypes Tryz.prog) (ds++gs)).all (·<=reachBytes)=true:=hsz0;clear hsz0;rw[Tryz.params5]at hA hval hsz;obtain⟨v0,vs0,d0,ds0,p0,q0,hargs,rfl,rfl,h0,r0⟩:=trodAll_cons hA;obtain⟨v1,vs1,d1,ds1,p1,q1,rfl,rfl,rfl,h1,r1⟩:=trodAll_cons r0;obtain⟨v2,vs2,d2,ds2,p2,q2,rfl,rfl,rfl,h2,r2⟩:=trodAll_cons r1;obtain⟨v3,vs3,d3,ds3,p3,q3,rfl,rfl,rfl,h3,r3⟩:=trodAll_cons r2;obtain⟨v4,vs4,d4,ds4,p4,q4,rfl,rfl,rfl,h4,r4⟩:=trodAll_cons r3;obtain⟨rfl,rfl,rfl⟩:=trodAll_nil r4;obtain rfl:args= #[v0,v1,v2,v3,v4]:=by cases args;simp_all
 obtain⟨rfl,rfl⟩:=trodVars_none hV;obtain⟨al,ll,cl,rfl⟩:=okWide_slice Tryz.underlying41 (hval 0 41 v0 rfl rfl);have k0:=h0;have lt0:∀x∈p0,x.block<W.heap.size:=by obtain⟨m,hm⟩:=k0;exact DataW.trod_lt m _ _ _ hm
 obtain⟨bl,Rl,Cl,Zl⟩:=hdrs_z h0 (λn hn=>of_decide_eq_true (List.all_eq_true.1 hsz n (DataW.weights_mem_each (j:=0) rfl rfl n hn)));obtain⟨fin,rfl,rfl,rfl⟩:=open_bool Tryz.underlying4 (hval 1 4 v1 rfl rfl) h1;obtain⟨cut,rfl,rfl,rfl,wf_cut⟩:=open_int Tryz.underlying3 (hval 2 3 v2 rfl rfl) h2;obtain⟨pad,rfl,rfl,rfl,wf_pad⟩:=open_int Tryz.underlying3 (hval 3 3 v3 rfl rfl) h3;obtain⟨stream,rfl,rfl,rfl,wf_stream⟩:=open_int Tryz.underlying3 (hval 4 3 v4 rfl rfl) h4;clear hA0 hval0;obtain⟨a1,a2,he⟩:=env hL hsh;refine Calls.mono (connHeads_any W he fin cut pad stream al ll cl bl Rl Cl Zl) λe W' ⟨hr,bel⟩=>?_;subst hr;exact⟨_,rfl,_,_,_,[],_,[],hW',trodAll_mk1 (shut_bool Tryz.underlying4 _),(trodAll_cons_mk (Below.trod laidOut (by kernel_rfl) (of_decide_eq_true (by kernel_rfl)) k0 bel lt0) (trodAll_cons_mk (shut_bool Tryz.underlying4 _) (trodAll_cons_mk (shut_int Tryz.underlying3 wf_cut) (trodAll_cons_mk (shut_int Tryz.underlying3 wf_pad) (trodAll_cons_mk (shut_int Tryz.underlying3 wf_stream) trodAll_mk0))))),rfl,bel.frame _,λh=>by cases h⟩
theorem closed:joinedFacts Tryz.checked.prog 5 Tryz.f5 Rows.connHeadsSpec Rows.connHeadsRow=true:=by
 unfold joinedFacts;simp only[Bool.and_eq_true]
 repeat' (with_reducible apply And.intro)
 all_goals(as_aux_lemma=>kernel_rfl)
theorem inst:Tryz.f5.isInstance Tryz.checked.prog Rows.connHeadsRow.origin Rows.connHeadsRow.targs:=of_decide_eq_true (by kernel_rfl)
theorem wrap:Tryz.f5.isWrapper Tryz.checked.prog Rows.connHeadsRow.wrapper Rows.connHeadsRow.mainSum:=by unfold Func.isWrapper;first|(rw[if_pos (by decide+kernel)];kernel_rfl)|(rw[if_neg (by decide+kernel)];exact⟨rfl,rfl⟩)
theorem named:Tryz.pinned.checked.prog.funcNamed Rows.connHeadsRow.func=some 5:=by kernel_rfl
theorem said:Rows.ConnHeadsSaid:=
 OpenClaim.holds_of_wide 5 Tryz.f5 rfl rfl rfl rfl rfl rfl rfl ⟨rfl,rfl,rfl,rfl,rfl⟩ rfl rfl rfl rfl rfl named Tryz.func5 closed inst wrap
  (λos started H enc _=>lifted os started H enc)
theorem plain (f:FuncId) (fn:Func) (hf:Tryz.pinned.checked.prog.funcNamed "parley/parleylaw8.ConnHeads" =some f) (hfn:Tryz.pinned.checked.prog.funcs[f]?=some fn):
 true=Tryz.pinned.checked.prog.looks []/\∀(j:Nat) t,fn.params[j]?=some t->Tryz.pinned.checked.prog.wantsStandIn t=false:=by
 obtain rfl:f=5:=Option.some.inj ((show Tryz.prog.funcNamed "parley/parleylaw8.ConnHeads" =some 5 by kernel_rfl).symm.trans hf) |>.symm
 obtain rfl:fn=Tryz.f5:=(Option.some.inj (Tryz.func5.symm.trans hfn)).symm;refine⟨by kernel_rfl,λj t ht=>?_⟩;rw[Tryz.params5]at ht;have hm:=Array.mem_of_getElem? ht;simp only[List.mem_toArray,List.mem_cons,List.not_mem_nil,or_false]at hm;rcases hm with rfl|rfl|rfl|rfl|rfl
 · exact(show Tryz.prog.wantsStandIn 41=false by kernel_rfl)
 · exact(show Tryz.prog.wantsStandIn 4=false by kernel_rfl)
 · exact(show Tryz.prog.wantsStandIn 3=false by kernel_rfl)
 · exact(show Tryz.prog.wantsStandIn 3=false by kernel_rfl)
 · exact(show Tryz.prog.wantsStandIn 3=false by kernel_rfl)
theorem card:Rows.ConnHeadsCardSaid:=
 Claim7.holds_tied_plain_at .later [] _ _ _ _ said (λ_ h=>by cases h) (by kernel_rfl) (λ_ h=>by cases h) connHeads_row_tie rfl ⟨rfl,rfl⟩ (by kernel_rfl) rfl plain (by kernel_rfl)
end Go.Proofs.YtkpppjhbmnfmkaaGreatDoor.connHeads
