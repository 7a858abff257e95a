/-
  A range over a function, at the wide fence: the loop and its rounds, where the body is told of the memory of what it is handed.
-/
import Derived.RangeFuncNested
import Derived.RangeFuncBound
import Derived.RangeFuncCalls
import Derived.RangeFuncLeaves
import Derived.Shelf.Abstract
import Derived.Shelf.RegionOpen
import Derived.WalkKit
import Derived.OwnWalkIn
import Derived.TacticsInMore
import Derived.LoopNIn
import Derived.LoopIn
namespace Go.Own.Rng
open Go Go.RowKit Go.Shelf

variable {P : Program}

/-- A loop's record. -/
def recOf (fn : FuncId) (tmps : Array Value) (ps : Array Tmp) (assign body : Code) (D : Nat) (st : LoopState) (pe : Option Code) : Loop :=
  { state := st, pending := pe, fn, tmps, params := ps, assign, body, defers := D }

/-- What is owed behind the iterator. -/
def Behind (P : Program) (n : Nat) (Q : Exit → Act → World → Prop) (a : Act) : Option Code → World → Prop
  | none, w => Q .normal a w
  | some c, w => c.wpIn Fence.wide n P Q a w

set_option maxHeartbeats 1000000 in
/-- The statement: the iterator is called with yield; the record tells how it was left. -/
theorem range_wide {n : Nat} {g : Operand} {ps : Array Tmp} {assign body : Code} {Q : Exit → Act → World → Prop} {a : Act} {w : World} {gf : Nat} {lb : Array Value}
    (hg : a.eval g = .func (.func gf) #[] lb) (eg : ∀ args w, (callFunc gf args).run P w = .ok (.enter gf args) w)
    (h : ∀ fn, CallsIn Fence.wide (n - 1) P gf (#[.func (.yield (w.heap.size + 1)) #[] #[]] ++ lb)
      ((w.alloc (.deferred (some []))).alloc (.loop (recOf fn a.tmps ps assign body w.heap.size .ready none)))
      fun e W => (∃ v, e = .returned v) ∧ ∃ st pe, st ≠ .busy ∧ W.heap[w.heap.size + 1]? = some (.loop (recOf fn a.tmps ps assign body w.heap.size st pe)) ∧
        Behind P n Q { a with defers := { target := .collected w.heap.size, args := #[] } :: a.defers } pe (W.putObj (w.heap.size + 1) (.loop (recOf fn a.tmps ps assign body w.heap.size .exhausted pe)))) :
    (Code.rangeFunc g ps assign body).wpIn Fence.wide n P Q a w := by
  refine wpIn_rangeFunc ?_
  intro fn _
  obtain ⟨W1, hW1⟩ : ∃ W1, (w.alloc (.deferred (some []))).alloc (.loop (recOf fn a.tmps ps assign body w.heap.size .ready none)) = W1 := ⟨_, rfl⟩
  have h1 := h fn
  rw [hW1] at h1
  refine ⟨w.heap.size + 1, [{ target := .collected w.heap.size, args := #[] }], W1, { target := .fn (.func gf) lb, args := #[.func (.yield (w.heap.size + 1)) #[] #[]] }, W1, gf,
    #[.func (.yield (w.heap.size + 1)) #[] #[]] ++ lb, W1, ?_, ?_, ?_, ?_, ?_, ?_⟩
  · rw [← hW1]; exact run_enterLoop_outer _ _ _ _ _
  · simp only [resolve, hg]
    simp [go_sem]
  · intro _ _; exact trivial
  · simp [invoke, go_sem, eg]
  · intro e; cases e
  · refine h1.mono ?_
    rintro e W ⟨⟨v, rfl⟩, st, pe, hst, hl, hb⟩
    refine ⟨pe, _, run_endLoop hl hst, ?_⟩
    cases pe with
    | none => exact hb
    | some c => exact hb

/-- How a round's body may be left. -/
def LeftBy (l : Nat) (rec : LoopState → Option Code → Loop) (R : Ending → World → Prop) : Exit → Act → World → Prop
  | .normal, _, w => w.heap[l]? = some (.loop (rec .busy none)) ∧ R (.returned (.bool true)) (w.putObj l (.loop (rec .ready none)))
  | .ret, _, w => w.heap[l]? = some (.loop (rec .busy none)) ∧ R (.returned (.bool false)) (w.putObj l (.loop (rec .done (some .ret))))
  | .exit id, _, w => w.heap[l]? = some (.loop (rec .busy none)) ∧ R (.returned (.bool false)) (w.putObj l (.loop (rec .done (some (.exit id)))))
  | .goto t, _, w => w.heap[l]? = some (.loop (rec .busy none)) ∧ R (.returned (.bool false)) (w.putObj l (.loop (rec .done (some (.goto t)))))
  | .panic _, _, _ => False
  | .outgrown, _, _ => False

/-- A call of yield is a round. -/
theorem yield_wide {m l D : Nat} {fn : FuncId} {tmps : Array Value} {ps : Array Tmp} {assign body : Code} {args : Array Value} {W : World} {R : Ending → World → Prop}
    (hl : W.heap[l]? = some (.loop (recOf fn tmps ps assign body D .ready none))) (hs : args.size = ps.size)
    (h : assign.wpIn (Fence.wide.inRound l) m P (Exit.then (fun a₁ w₁ => w₁.heap[l]? = some (.loop (recOf fn tmps ps assign body D .ready none)) ∧
        body.wpIn (Fence.wide.inRound l) m P (LeftBy l (recOf fn tmps ps assign body D) R) a₁ (w₁.putObj l (.loop (recOf fn tmps ps assign body D .busy none)))) (fun _ _ _ => False))
      { tmps := (ps.zip args).foldl (fun t (p, v) => t.setIfInBounds p v) tmps, defers := [] } W) :
    YieldAt Fence.wide m P l args W R := by
  refine ⟨fn, _, assign, body, run_yield hl hs, roundIn_of_wpIn trivial (wpIn_mono h ?_)⟩
  intro e a₁ w₁ hq
  cases e with
  | normal =>
    obtain ⟨hl1, hb⟩ := hq
    refine ⟨_, run_beginRound hl1 rfl, wpIn_mono hb ?_⟩
    intro e a₂ w₂ hq
    cases e with
    | normal => exact ⟨_, _, run_endRound none hq.1, hq.2⟩
    | ret => exact ⟨_, _, run_endRound (some .ret) hq.1, hq.2⟩
    | exit id => exact ⟨_, _, run_endRound (some (.exit id)) hq.1, hq.2⟩
    | goto t => exact ⟨_, _, run_endRound (some (.goto t)) hq.1, hq.2⟩
    | panic ch => exact hq.elim
    | outgrown => exact hq.elim
  | ret => exact hq.elim
  | exit id => exact hq.elim
  | goto t => exact hq.elim
  | panic ch => exact hq.elim
  | outgrown => exact hq.elim

/-- The statement, its record by a letter. -/
theorem range_rec {n : Nat} {g : Operand} {ps : Array Tmp} {assign body : Code} {Q : Exit → Act → World → Prop} {a : Act} {w : World} {gf : Nat} {lb : Array Value}
    (hg : a.eval g = .func (.func gf) #[] lb) (eg : ∀ args w, (callFunc gf args).run P w = .ok (.enter gf args) w)
    (h : ∀ fn (R : LoopState → Option Code → Loop), R = recOf fn a.tmps ps assign body w.heap.size → CallsIn Fence.wide (n - 1) P gf (#[.func (.yield (w.heap.size + 1)) #[] #[]] ++ lb)
      ((w.alloc (.deferred (some []))).alloc (.loop (R .ready none)))
      fun e W => (∃ v, e = .returned v) ∧ ∃ st pe, st ≠ .busy ∧ W.heap[w.heap.size + 1]? = some (.loop (R st pe)) ∧
        Behind P n Q { a with defers := { target := .collected w.heap.size, args := #[] } :: a.defers } pe (W.putObj (w.heap.size + 1) (.loop (R .exhausted pe)))) :
    (Code.rangeFunc g ps assign body).wpIn Fence.wide n P Q a w :=
  range_wide hg eg fun fn => h fn _ rfl
/-- A call of yield, the record by a letter. -/
theorem yield_rec {m l D : Nat} {fn : FuncId} {tmps : Array Value} {ps : Array Tmp} {assign body : Code} {args : Array Value} {W : World} {R : Ending → World → Prop} {C : LoopState → Option Code → Loop}
    (hC : C = recOf fn tmps ps assign body D) (hl : W.heap[l]? = some (.loop (C .ready none))) (hs : args.size = ps.size)
    (h : assign.wpIn (Fence.wide.inRound l) m P (Exit.then (fun a₁ w₁ => w₁.heap[l]? = some (.loop (C .ready none)) ∧
        body.wpIn (Fence.wide.inRound l) m P (LeftBy l C R) a₁ (w₁.putObj l (.loop (C .busy none)))) (fun _ _ _ => False))
      { tmps := (ps.zip args).foldl (fun t (p, v) => t.setIfInBounds p v) tmps, defers := [] } W) :
    YieldAt Fence.wide m P l args W R := by
  subst hC
  exact yield_wide hl hs h

/-- Where the loop's own two blocks stand, and all ahead of them is as it was. -/
structure InLoop (Z : World) (C : LoopState → Option Code → Loop) (st : LoopState) (pe : Option Code) (W : World) : Prop where
  below : Below Z.heap.size Z W
  mark : W.heap[Z.heap.size]? = some (.deferred (some []))
  entry : W.heap[Z.heap.size + 1]? = some (.loop (C st pe))
  size : Z.heap.size + 2 ≤ W.heap.size
theorem InLoop.start (Z : World) (C : LoopState → Option Code → Loop) : InLoop Z C .ready none ((Z.alloc (.deferred (some []))).alloc (.loop (C .ready none))) := by
  have h1 := heap_alloc_new Z (.deferred (some []))
  have h2 := heap_alloc_new (Z.alloc (.deferred (some []))) (.loop (C .ready none))
  have e : (Z.alloc (.deferred (some []))).heap.size = Z.heap.size + 1 := by simp
  rw [e] at h2
  refine ⟨((Below.refl _ _).alloc (Nat.le_refl _) _).alloc (by simp) _, ?_, h2, by simp⟩
  exact (Below.heap_alloc _ _ _ (by simp)).trans h1
theorem InLoop.step {Z W W' : World} {C : LoopState → Option Code → Loop} {st : LoopState} {pe : Option Code} {B : Nat} (h : InLoop Z C st pe W) (hb : Below B W W') (hB : Z.heap.size + 2 ≤ B) : InLoop Z C st pe W' :=
  ⟨h.below.trans (hb.mono (by omega)), (hb.block _ (by omega)).trans h.mark, (hb.block _ (by omega)).trans h.entry, Nat.le_trans h.size hb.size⟩
theorem InLoop.put {Z W : World} {C : LoopState → Option Code → Loop} {st : LoopState} {pe : Option Code} (h : InLoop Z C st pe W) (st' : LoopState) (pe' : Option Code) : InLoop Z C st' pe' (W.putObj (Z.heap.size + 1) (.loop (C st' pe'))) :=
  ⟨h.below.trans (belowK_b (w := Z) (Nat.le_refl _) W _ _ _ (by omega) h.entry rfl rfl), (World.putObj_heap_other (by omega)).trans h.mark, World.putObj_heap_same (by have := h.size; omega), by rw [World.putObj_size]; exact h.size⟩
end Go.Own.Rng
