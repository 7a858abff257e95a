/-
  HealthShut: what stands between its statements.
-/
import Derived.Test.YtnffhmkcegiacaaDoorEa
import Derived.Test.YtnffhmkcegiacaaDoorLi
namespace Go.Own.Hl
open Go Go.RowKit Go.Own
theorem st_mod (x : Int) : 0 ≤ (wrap64 (x.tmod 3 + 3)).tmod 3 ∧ (wrap64 (x.tmod 3 + 3)).tmod 3 ≤ 2 := by
  have h1 : -3 < x.tmod 3 := Int.lt_tmod_of_pos x (by omega)
  have h2 : x.tmod 3 < 3 := Int.tmod_lt_of_pos x (by omega)
  rw [IntWalk.wrap64_in _ ⟨by omega, by omega⟩]
  have h3 : (x.tmod 3 + 3).tmod 3 = (x.tmod 3 + 3) % 3 := Int.tmod_eq_emod_of_nonneg (by omega)
  omega
end Go.Own.Hl
namespace Go.Proofs.YtnffhmkcegiacaaDoor
open Go.RowKit Go.Own Go.Own.Hl Go.Own.Rng Go.Maps Go.Shelf Go.MuLone Go.Sort
theorem row_form {w : World} {base n : Nat} {e : TypeId} {v : Value} {xs : List Value} (h : w.ownsRow base e 1 v n xs) : ∃ A cap, v = .slice A n cap := by
  rcases h.2 with ⟨rfl, h1⟩ | ⟨g', cap, cur, rfl, _⟩
  · subst h1; exact ⟨_, _, rfl⟩
  · exact ⟨_, _, rfl⟩
/-- The board, its names told, and all ahead of it. -/
structure Sg (W1 : World) (lo bb ms mw kk : Nat) (sh : Bool) (D : DataW Unit) (nb g cap : Nat) (Z : World) : Prop where
  bel : Below W1.heap.size W1 Z
  bd : Bd Z bb ms mw 5 0 sh kk 0 D (.map [])
  nbk : Blk Z nb 33 #[.slice (some ⟨g, 0, none⟩) (namesOf D).length cap]
  row : Z.ownsRow lo 9 1 (.slice (some ⟨g, 0, none⟩) (namesOf D).length cap) (namesOf D).length ((namesOf D).map encStr)
  b1 : W1.heap.size ≤ bb
  lo1 : W1.heap.size ≤ lo
  l1 : bb < lo
  l2 : ms < lo
  l3 : mw < lo
  l4 : lo ≤ nb
  ne : nb ≠ g
section
variable {W1 Z Z' : World} {lo bb ms mw kk nb g cap : Nat} {sh sh' : Bool} {D : DataW Unit}
theorem Sg.lg (h : Sg W1 lo bb ms mw kk sh D nb g cap Z) : lo ≤ g := (h.row.lt g (by simp [Value.ownBlock])).1
theorem Sg.grown (h : Sg W1 lo bb ms mw kk sh D nb g cap Z) {row : Option Nat} (hg : Z.grownBy Z' row) (hr : ∀ r, row = some r → lo ≤ r ∧ r ≠ nb ∧ r ≠ g) : Sg W1 lo bb ms mw kk sh D nb g cap Z' :=
  have h1 := h.l1; have h2 := h.l2; have h3 := h.l3
  ⟨h.bel.grown hg h.bel.size (fun r e => by have := (hr r e).1; have := h.lo1; omega),
   h.bd.grown hg (fun e => by have := (hr _ e.symm).1; omega) (fun e => by have := (hr _ e.symm).1; omega) (fun e => by have := (hr _ e.symm).1; omega),
   Blk.grown h.nbk hg (fun e => (hr _ e.symm).2.1 rfl), h.row.kept hg (Or.inr (fun e => by have := (hr g (by simpa [Value.ownBlock] using e.symm)).2.2; exact this rfl)), h.b1, h.lo1, h.l1, h.l2, h.l3, h.l4, h.ne⟩
theorem Sg.turn (h : Sg W1 lo bb ms mw kk sh D nb g cap Z) (hb : Bd Z' bb ms mw 5 0 sh' kk 0 D (.map [])) (hg : Z.grownBy Z' (some bb)) : Sg W1 lo bb ms mw kk sh' D nb g cap Z' :=
  have h1 := h.l1; have h4 := h.l4; have h5 := h.lg
  ⟨h.bel.grown hg h.bel.size (fun r e => by cases e; exact h.b1), hb, Blk.grown h.nbk hg (fun e => by have := Option.some.inj e; omega),
   h.row.kept hg (Or.inr (fun e => by have : g = bb := by simpa [Value.ownBlock] using e
                                      omega)), h.b1, h.lo1, h.l1, h.l2, h.l3, h.l4, h.ne⟩
theorem Sg.alloc (h : Sg W1 lo bb ms mw kk sh D nb g cap Z) (o : Obj) : Sg W1 lo bb ms mw kk sh D nb g cap (Z.alloc o) := h.grown (World.grownBy_alloc Z o none) (fun _ e => by cases e)
/-- The statuses told. -/
structure Ss (lo bb : Nat) (D : DataW Unit) (nb g sb : Nat) (v : Value) (Z : World) : Prop where
  sbk : Blk Z sb 35 #[v]
  row : Z.ownsRow lo 3 1 v (namesOf D).length ((namesOf D).map (fun x => Value.int .i64 (statB false D x)))
  l1 : bb < lo
  l2 : lo ≤ sb
  ne1 : sb ≠ nb
  ne2 : sb ≠ g
  ne3 : v.ownBlock ≠ some sb
theorem Ss.grown {lo bb nb g sb : Nat} {v : Value} (h : Ss lo bb D nb g sb v Z) {row : Option Nat} (hg : Z.grownBy Z' row) (h1 : row ≠ some sb) (h2 : ∀ r, row = some r → v.ownBlock ≠ some r) : Ss lo bb D nb g sb v Z' :=
  ⟨Blk.grown h.sbk hg (Ne.symm h1), h.row.kept hg (by
    rcases hv : v.ownBlock with _ | r
    · exact Or.inl rfl
    · exact Or.inr (fun e => h2 r e.symm hv)), h.l1, h.l2, h.ne1, h.ne2, h.ne3⟩
theorem Ss.turn {lo bb nb g sb : Nat} {v : Value} (h : Ss lo bb D nb g sb v Z) (hg : Z.grownBy Z' (some bb)) : Ss lo bb D nb g sb v Z' :=
  have h1 := h.l1; have h2 := h.l2
  h.grown hg (fun e => by have := Option.some.inj e; omega) (fun r e hv => by cases e; have := (h.row.lt _ hv).1; omega)
theorem Ss.alloc {lo bb nb g sb : Nat} {v : Value} (h : Ss lo bb D nb g sb v Z) (o : Obj) : Ss lo bb D nb g sb v (Z.alloc o) := h.grown (World.grownBy_alloc Z o none) (by simp) (fun _ e => by cases e)
end
theorem row_base {w : World} {base base' n : Nat} {e : TypeId} {v : Value} {xs : List Value} (h : w.ownsRow base e 1 v n xs) (hb : base' ≤ base) : w.ownsRow base' e 1 v n xs := by
  rcases h.2 with ⟨rfl, h1⟩ | ⟨g', cap, cur, rfl, hg, r⟩
  · exact ⟨h.1, .inl ⟨rfl, h1⟩⟩
  · exact ⟨h.1, .inr ⟨g', cap, cur, rfl, Nat.le_trans hb hg, r⟩⟩
/-- All that stands behind the first loop. -/
structure Sb (W1 : World) (lo bb ms mw kk : Nat) (sh : Bool) (D : DataW Unit) (nb g cap : Nat) (sv : Value) (D1 : Nat) (T : World) : Prop where
  sg : Sg W1 lo bb ms mw kk sh D nb g cap T
  ss : Ss lo bb D nb g (nb + 1) sv T
  mark : T.heap[D1]? = some (.deferred (some []))
  far : lo ≤ D1
section
variable {W1 T T' : World} {lo bb ms mw kk nb g cap D1 : Nat} {sh sh' : Bool} {D : DataW Unit} {sv : Value}
theorem Sb.dlt (h : Sb W1 lo bb ms mw kk sh D nb g cap sv D1 T) : D1 < T.heap.size := (Array.getElem?_eq_some_iff.1 h.mark).1
theorem Sb.grown (h : Sb W1 lo bb ms mw kk sh D nb g cap sv D1 T) {row : Option Nat} (hg : T.grownBy T' row) (hr : ∀ r, row = some r → lo ≤ r ∧ r ≠ nb ∧ r ≠ nb + 1 ∧ r ≠ g ∧ sv.ownBlock ≠ some r ∧ r ≠ D1) : Sb W1 lo bb ms mw kk sh D nb g cap sv D1 T' :=
  ⟨h.sg.grown hg (fun r e => ⟨(hr r e).1, (hr r e).2.1, (hr r e).2.2.2.1⟩), h.ss.grown hg (fun e => (hr _ e).2.2.1 rfl) (fun r e => (hr r e).2.2.2.2.1),
   (hg.block _ h.dlt (fun e => (hr _ e.symm).2.2.2.2.2 rfl)).trans h.mark, h.far⟩
theorem Sb.stay (h : Sb W1 lo bb ms mw kk sh D nb g cap sv D1 T) (hg : T.grownBy T' none) : Sb W1 lo bb ms mw kk sh D nb g cap sv D1 T' := h.grown hg (fun _ e => by cases e)
theorem Sb.alloc (h : Sb W1 lo bb ms mw kk sh D nb g cap sv D1 T) (o : Obj) : Sb W1 lo bb ms mw kk sh D nb g cap sv D1 (T.alloc o) := h.stay (World.grownBy_alloc T o none)
theorem Sb.turn (h : Sb W1 lo bb ms mw kk sh D nb g cap sv D1 T) (hb : Bd T' bb ms mw 5 0 sh' kk 0 D (.map [])) (hg : T.grownBy T' (some bb)) : Sb W1 lo bb ms mw kk sh' D nb g cap sv D1 T' :=
  ⟨h.sg.turn hb hg, h.ss.turn hg, (hg.block _ h.dlt (fun e => by have := Option.some.inj e; have := h.far; have := h.sg.l1; omega)).trans h.mark, h.far⟩
/-- A block that lies ahead, in a world that has new memory, or has turned but the board. -/
theorem far_kept {k lo : Nat} {o : Obj} (h : T.heap[k]? = some o) (hg : T.grownBy T' (some bb)) (h1 : bb < lo) (h2 : lo ≤ k) : T'.heap[k]? = some o :=
  (hg.block k (Array.getElem?_eq_some_iff.1 h).1 (fun e => by have := Option.some.inj e; omega)).trans h
theorem new_kept {k : Nat} {o : Obj} (h : T.heap[k]? = some o) (hg : T.grownBy T' none) : T'.heap[k]? = some o :=
  (hg.block k (Array.getElem?_eq_some_iff.1 h).1 (by simp)).trans h
end
theorem two_boxes (T : World) (u v : Value) (t1 t2 : TypeId) : Blk ((T.alloc (.cells #[u] t1)).alloc (.cells #[v] t2)) T.heap.size t1 #[u] ∧ Blk ((T.alloc (.cells #[u] t1)).alloc (.cells #[v] t2)) (T.heap.size + 1) t2 #[v] ∧ ((T.alloc (.cells #[u] t1)).alloc (.cells #[v] t2)).heap.size = T.heap.size + 2 := by
  have h1 : (T.alloc (.cells #[u] t1)).heap.size = T.heap.size + 1 := by simp
  have h2 := Blk.new (T.alloc (.cells #[u] t1)) t2 #[v]
  rw [h1] at h2
  exact ⟨(Blk.new T t1 #[u]).alloc _, h2, by simp⟩
/-- A box behind all. -/
structure Far (lo nb g D1 ib : Nat) (sv : Value) : Prop where
  f1 : lo ≤ ib
  f2 : nb + 1 < ib
  f3 : g < ib
  f4 : D1 < ib
  f5 : sv.ownBlock ≠ some ib
theorem Sb.farbox {W1 T : World} {lo bb ms mw kk nb g cap D1 : Nat} {sh : Bool} {D : DataW Unit} {sv : Value} (h : Sb W1 lo bb ms mw kk sh D nb g cap sv D1 T) : Far lo nb g D1 T.heap.size sv :=
  have h1 := h.ss.sbk.lt; have h2 := (h.sg.row.lt g (by simp [Value.ownBlock])); have h3 := h.dlt; have h4 := h.ss.l2
  ⟨by omega, h1, h2.2, h3, fun e => by have := (h.ss.row.lt _ e).2; omega⟩
theorem Sb.atbox {W1 T T' : World} {lo bb ms mw kk nb g cap D1 ib : Nat} {sh : Bool} {D : DataW Unit} {sv : Value} (h : Sb W1 lo bb ms mw kk sh D nb g cap sv D1 T) (hf : Far lo nb g D1 ib sv) (hg : T.grownBy T' (some ib)) : Sb W1 lo bb ms mw kk sh D nb g cap sv D1 T' :=
  h.grown hg fun r e => by
    cases e
    exact ⟨hf.f1, by have := hf.f2; omega, by have := hf.f2; omega, by have := hf.f3; omega, hf.f5, by have := hf.f4; omega⟩
/-- Between two rounds of the first loop: sb holds the statuses told so far. -/
def J1 (Z : World) (C : LoopState → Option Code → Loop) (sb : Nat) (D : DataW Unit) (V : World) (p : Nat) (U : World) : Prop :=
  RL Z C sb .ready none V U ∧ ∃ v, Blk U sb 35 #[v] ∧ U.ownsRow V.heap.size 3 1 v p (((namesOf D).take p).map (fun x => Value.int .i64 (statB false D x)))
/-- Between two rounds of the other loops: ib counts them. -/
def J2 (Z : World) (C : LoopState → Option Code → Loop) (ib : Nat) (V : World) (p : Nat) (U : World) : Prop :=
  RL Z C ib .ready none V U ∧ Blk U ib 3 #[.int .i64 (p : Int)]
end Go.Proofs.YtnffhmkcegiacaaDoor
