/-
  Each: the iterator of a board.
-/
import Derived.Test.YtnffhmkcegiacaaDoorAl
import Derived.Test.YtnffhmkcegiacaaDoorRng
namespace Go.Proofs.YtnffhmkcegiacaaDoor
open Go.RowKit Go.Own Go.Own.Hl Go.Own.Rng Go.Maps Go.Shelf Go.MuLone Go.Sort
attribute [local go_sem] Oper.semAt_some
section
variable {w : World} {bb ms mw n nw : Nat} {most last : Int} {sh : Bool} {D : DataW Unit} {Dw : DataW Value} {ea : Nat → Addr}
theorem each_any (b : Nat) (w : World) : Calls Tryd.prog 9 #[.pointer (some ⟨b, 0, none⟩)] w fun e w' => e = .returned (.func (.func 19) #[] #[.pointer (some ⟨w.heap.size, 0, none⟩)]) ∧ w' = w.alloc (.cells #[.pointer (some ⟨b, 0, none⟩)] 25) := by
  go_enter Tryd.func9, Tryd.ntmps9
  go_wp2
  go_ret
  exact ⟨rfl, rfl⟩
/-- Between two rounds of a range over a board: V: the world where the names have been told. -/
structure RL (Z : World) (C : LoopState → Option Code → Loop) (xb : Nat) (st : LoopState) (pe : Option Code) (V U : World) : Prop where
  start : Below (Z.heap.size + 2) ((Z.alloc (.deferred (some []))).alloc (.loop (C .ready none))) V
  os : U.os = V.os
  tape : U.tape = V.tape
  output : U.output = V.output
  size : V.heap.size ≤ U.heap.size
  same : ∀ k, k < V.heap.size → k ≠ xb → k ≠ Z.heap.size + 1 → U.heap[k]? = V.heap[k]?
  entry : U.heap[Z.heap.size + 1]? = some (.loop (C st pe))
section
variable {Z V U U' : World} {C : LoopState → Option Code → Loop} {xb : Nat} {st : LoopState} {pe : Option Code}
theorem RL.vsize (h : RL Z C xb st pe V U) : Z.heap.size + 2 ≤ V.heap.size := by
  have := h.start.size
  simpa using this
theorem RL.init (hb : Below (Z.heap.size + 2) ((Z.alloc (.deferred (some []))).alloc (.loop (C .ready none))) V) : RL Z C xb .ready none V V :=
  ⟨hb, rfl, rfl, rfl, Nat.le_refl _, fun _ _ _ _ => rfl, (hb.block _ (by omega)).trans (InLoop.start Z C).entry⟩
theorem RL.old (h : RL Z C xb st pe V U) {k : Nat} (hk : k < Z.heap.size) (hx : k ≠ xb) : U.heap[k]? = Z.heap[k]? := by
  have hv := h.vsize
  rw [h.same k (by omega) hx (by omega), h.start.block k (by omega)]
  exact (InLoop.start Z C).below.block k hk
theorem RL.mark (h : RL Z C xb st pe V U) (hx : xb < Z.heap.size) : U.heap[Z.heap.size]? = some (.deferred (some [])) := by
  have hv := h.vsize
  rw [h.same _ (by omega) (by omega) (by omega), h.start.block _ (by omega)]
  exact (InLoop.start Z C).mark
theorem RL.put (h : RL Z C xb st pe V U) (st' : LoopState) (pe' : Option Code) : RL Z C xb st' pe' V (U.putObj (Z.heap.size + 1) (.loop (C st' pe'))) :=
  ⟨h.start, h.os, h.tape, h.output, by rw [World.putObj_size]; exact h.size, fun k h1 h2 h3 => (World.putObj_heap_other (by omega)).trans (h.same k h1 h2 h3), World.putObj_heap_same (by have := h.size; have := h.vsize; omega)⟩
theorem RL.step (h : RL Z C xb st pe V U) {row : Option Nat} (hg : U.grownBy U' row) (hx : xb < Z.heap.size) (hr : ∀ r, row = some r → r = xb ∨ V.heap.size ≤ r) : RL Z C xb st pe V U' := by
  have hv := h.vsize
  have hs := h.size
  refine ⟨h.start, hg.os.trans h.os, hg.tape.trans h.tape, hg.output.trans h.output, Nat.le_trans hs hg.size, fun k h1 h2 h3 => ?_, ?_⟩
  · refine (hg.block k (by omega) (fun e => ?_)).trans (h.same k h1 h2 h3)
    rcases hr k e.symm with h4 | h4 <;> omega
  · refine (hg.block _ (by omega) (fun e => ?_)).trans h.entry
    rcases hr _ e.symm with h4 | h4 <;> omega
/-- All ahead of the loop but its box is as it was. -/
theorem RL.grown (h : RL Z C xb st pe V U) : Z.grownBy U (some xb) := by
  have hi := (InLoop.start Z C).below
  have hv := h.vsize
  exact ⟨h.os.trans (h.start.os.trans hi.os), h.tape.trans (h.start.tape.trans hi.tape), h.output.trans (h.start.output.trans hi.output), by have := h.size; omega, fun k hk hn => h.old hk (fun e => hn (by rw [e]))⟩
end
/-- How the iterator ends. -/
def EndE (k : Nat) (W : World) (J : World → Nat → World → Prop) (e : Ending) (U : World) : Prop := (∃ v, e = .returned v) ∧ ∃ V, Below W.heap.size W V ∧ J V k U
/-- What is told of a round. -/
def ToldE (J : World → Nat → World → Prop) (V : World) (p : Nat) (e : Ending) (U : World) : Prop := e = .returned (.bool true) ∧ J V (p + 1) U
set_option maxHeartbeats 4000000 in
set_option maxRecDepth 100000 in
theorem each_in (m lp cb : Nat) (J : World → Nat → World → Prop) (W : World) (hBd : Bd W bb ms mw most last sh n nw D Dw) (hn : n < 1000) (hD : Maps.has D (.string []) = true)
    (hc : Blk W cb 25 #[.pointer (some ⟨bb, 0, none⟩)])
    (hM : ∀ V, Below W.heap.size W V → J V 0 V) (hK : ∀ V p U, J V p U → ∀ k, W.heap.size ≤ k → k < V.heap.size → U.heap[k]? = V.heap[k]?)
    (hY : ∀ V p x U, Below W.heap.size W V → J V p U → (namesOf D)[p]? = some x → Maps.has D (.string x) = true → (namesOf D).length ≤ 1000 → YieldAt Fence.wide (m - 1) Tryd.prog lp #[encStr x, .int .i64 (statB sh D x)] U (ToldE J V p)) :
    CallsIn Fence.wide m Tryd.prog 19 #[.func (.yield lp) #[] #[], .pointer (some ⟨cb, 0, none⟩)] W (EndE (namesOf D).length W J) := by
  have HM := Lib.hid hM
  have HK := Lib.hid hK
  have HY := Lib.hid hY
  have c0 := hc.cell 0
  simp only [List.getElem?_toArray, List.getElem?_cons_zero] at c0
  have hAll := Lib.hid (all_any hBd hn hD)
  clear hM hY hBd hK
  refine callsIn_of_wp Tryd.func19 rfl trivial ?_ rfl
  simp only [Tryd.ntmps19, List.size_toArray, List.length_cons, List.length_nil, Nat.reduceAdd, Nat.reduceSub, Array.replicate_succ, Array.replicate_zero, List.push_toArray, List.append_toArray, List.nil_append, List.cons_append]
  gi_wp2_with fail
  refine ⟨trivial, fun h => (by cases h), ?_⟩
  refine (callsIn_wide.2 hAll.out).mono ?_
  rintro e V ⟨⟨a, b, rfl, hR⟩, hNl, hHas⟩
  obtain ⟨⟨g, cap, cur, g2, cap2, cur2, rfl, rfl, hg, hg2, hk1, hk2, hn1, hn2⟩, hgr⟩ := hR
  have HBV := Lib.hid (below_grown hgr)
  have HJ0 := Lib.hid (HM.out V HBV.out)
  have hl1 := hk1.lt
  have hl2 := hk2.lt
  have K1 := Lib.hid fun (U : World) (p : Nat) (h : J V p U) => (show Blk U g 9 cur from (HK.out V p U h g hg hl1).trans hk1)
  have K2 := Lib.hid fun (U : World) (p : Nat) (h : J V p U) => (show Blk U g2 3 cur2 from (HK.out V p U h g2 hg2 hl2).trans hk2)
  have HN1 := Lib.hid hn1
  have HN2 := Lib.hid hn2
  have HH := Lib.hid hHas
  clear hAll hk1 hk2 hn1 hn2 hgr HM HK hHas hl1 hl2
  generalize namesOf D = N at *
  gi_wp2_with fail
  gi_loopw [14] (fun i wr => ∃ k : Nat, k ≤ N.length ∧ i = .int .i64 (k : Int) ∧ Hid (J V k wr)) (fun i _ => N.length - (intOf i).toNat)
  case atStart => exact ⟨0, Nat.zero_le _, rfl, HJ0⟩
  case round =>
    obtain ⟨k, hk, rfl, hh⟩ := hrel
    by_cases hlt : k < N.length
    · have hx : N[k]? = some N[k] := List.getElem?_eq_getElem hlt
      have c1 := (K1.out _ _ hh.out).cell k
      have c2 := (K2.out _ _ hh.out).cell k
      rw [HN1.out k _ hx] at c1
      rw [HN2.out k _ hx] at c2
      obtain ⟨fn, tmps, assign, body, hy, hR⟩ := HY.out V k _ _ HBV.out hh.out hx (HH.out _ (List.getElem_mem hlt)) hNl
      generalize N[k] = x at *
      have HR := Lib.hid hR
      clear hx hR
      gi_wp2_with fail
      refine ⟨fun h => (by cases h), ?_⟩
      refine HR.out.mono ?_
      clear hy HR c1 c2
      rintro e W3 ⟨rfl, hJ3⟩
      have H3 := Lib.hid hJ3
      clear hJ3 hh
      gi_wp2
      go_roundw
      case rel => exact ⟨k + 1, by omega, by go_num, H3⟩
      case measure => simp [intOf]; omega
    · obtain rfl : k = N.length := by omega
      gi_wp2
      go_end0
      exact ⟨⟨_, rfl⟩, V, HBV.out, hh.out⟩
end
end Go.Proofs.YtnffhmkcegiacaaDoor
