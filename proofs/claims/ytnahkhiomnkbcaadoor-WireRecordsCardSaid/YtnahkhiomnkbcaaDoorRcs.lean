/-
  WireRecords: its walk.
-/
import Derived.Test.YtnahkhiomnkbcaaDoorRec
import Derived.Test.YtnahkhiomnkbcaaDoorRf4
import Derived.OpenShut
namespace Go.Proofs.YtnahkhiomnkbcaaDoor
open Go.RowKit Go.Own Go.Own.Wire Go.Own.Rng Go.Shelf
attribute [local go_sem] Oper.semAt_some

/-- Where a loop's own two blocks stand, and all below a place is as it was. -/
structure Lp (b0 : Nat) (Z : World) (C : LoopState → Option Code → Loop) (st : LoopState) (pe : Option Code) (W : World) : Prop where
  below : Below b0 Z W
  le : b0 ≤ Z.heap.size
  mark : W.heap[Z.heap.size]? = some (.deferred (some []))
  entry : W.heap[Z.heap.size + 1]? = some (.loop (C st pe))
  size : Z.heap.size + 2 ≤ W.heap.size
theorem Lp.start (b0 : Nat) (Z : World) (C : LoopState → Option Code → Loop) (h : b0 ≤ Z.heap.size) : Lp b0 Z C .ready none ((Z.alloc (.deferred (some []))).alloc (.loop (C .ready none))) :=
  have p := InLoop.start Z C
  ⟨p.below.mono h, h, p.mark, p.entry, p.size⟩
theorem Lp.step {b0 : Nat} {Z W W' : World} {C : LoopState → Option Code → Loop} {st : LoopState} {pe : Option Code} {B : Nat} (h : Lp b0 Z C st pe W) (hb : Below B W W') (hB : Z.heap.size + 2 ≤ B) : Lp b0 Z C st pe W' :=
  ⟨h.below.trans (hb.mono (by have := h.le; omega)), h.le, (hb.block _ (by omega)).trans h.mark, (hb.block _ (by omega)).trans h.entry, Nat.le_trans h.size hb.size⟩
theorem Lp.put {b0 : Nat} {Z W : World} {C : LoopState → Option Code → Loop} {st : LoopState} {pe : Option Code} (h : Lp b0 Z C st pe W) (st' : LoopState) (pe' : Option Code) : Lp b0 Z C st' pe' (W.putObj (Z.heap.size + 1) (.loop (C st' pe'))) :=
  ⟨h.below.trans (belowK_b (w := Z) h.le W _ _ _ (by omega) h.entry rfl rfl), h.le, (World.putObj_heap_other (by omega)).trans h.mark, World.putObj_heap_same (by have := h.size; omega), by rw [World.putObj_size]; exact h.size⟩
theorem Lp.cell {b0 : Nat} {Z W : World} {C : LoopState → Option Code → Loop} {st : LoopState} {pe : Option Code} (h : Lp b0 Z C st pe W) (g i : Nat) (v : Value) (h1 : b0 ≤ g) (h2 : g < Z.heap.size) : Lp b0 Z C st pe (W.setCell ⟨g, i, none⟩ v) :=
  ⟨h.below.setCell h1 v, h.le, (Below.heap_setCell W ⟨g, i, none⟩ v _ (by simp; omega)).trans h.mark, (Below.heap_setCell W ⟨g, i, none⟩ v _ (by simp; omega)).trans h.entry, by
    have := ((Below.refl 0 W).setCell (p := ⟨g, i, none⟩) (Nat.zero_le _) v).size; have := h.size; omega⟩

/-- Between two rounds: how far, how many, whether it was left. -/
structure Rs (g : Nat) (Z : World) (C : LoopState → Option Code → Loop) (st : LoopState) (pe : Option Code) (p k : Nat) (lf : Bool) (W : World) : Prop where
  lp : Lp g Z C st pe W
  z : Z.heap.size = g + 3
  at_ : Blk W g 3 #[.int .i64 (p : Int)]
  cnt : Blk W (g + 1) 3 #[.int .i64 (k : Int)]
  left : Blk W (g + 1 + 1) 4 #[.bool lf]
section
variable {g : Nat} {Z W W' : World} {C : LoopState → Option Code → Loop} {st : LoopState} {pe : Option Code} {p k : Nat} {lf : Bool}
theorem Rs.step {B : Nat} (h : Rs g Z C st pe p k lf W) (hb : Below B W W') (hB : Z.heap.size + 2 ≤ B) : Rs g Z C st pe p k lf W' :=
  have := h.z
  ⟨h.lp.step hb hB, h.z, h.at_.below hb (by omega), h.cnt.below hb (by omega), h.left.below hb (by omega)⟩
theorem Rs.put (h : Rs g Z C st pe p k lf W) (st' : LoopState) (pe' : Option Code) : Rs g Z C st' pe' p k lf (W.putObj (Z.heap.size + 1) (.loop (C st' pe'))) :=
  have := h.z
  ⟨h.lp.put st' pe', h.z, (World.putObj_heap_other (by omega)).trans h.at_, (World.putObj_heap_other (by omega)).trans h.cnt, (World.putObj_heap_other (by omega)).trans h.left⟩
theorem Rs.setAt (h : Rs g Z C st pe p k lf W) (q : Nat) (x : Int) (hx : x = (q : Int)) : Rs g Z C st pe q k lf (W.setCell ⟨g, 0, none⟩ (.int .i64 x)) :=
  have := h.z
  hx ▸
  ⟨h.lp.cell g 0 _ (Nat.le_refl _) (by omega), h.z, h.at_.put 0 _, h.cnt.far (by simp) _, h.left.far (by show g + 1 + 1 ≠ g; omega) _⟩
theorem Rs.setCnt (h : Rs g Z C st pe p k lf W) (q : Nat) (x : Int) (hx : x = (q : Int)) : Rs g Z C st pe p q lf (W.setCell ⟨g + 1, 0, none⟩ (.int .i64 x)) :=
  have := h.z
  hx ▸
  ⟨h.lp.cell (g + 1) 0 _ (by omega) (by omega), h.z, h.at_.far (by simp) _, h.cnt.put 0 _, h.left.far (by simp) _⟩
theorem Rs.setLeft (h : Rs g Z C st pe p k lf W) : Rs g Z C st pe p k true (W.setCell ⟨g + 1 + 1, 0, none⟩ (.bool true)) :=
  have := h.z
  ⟨h.lp.cell (g + 1 + 1) 0 _ (by omega) (by omega), h.z, h.at_.far (by show g ≠ g + 1 + 1; omega) _, h.cnt.far (by simp) _, h.left.put 0 _⟩
theorem Rs.cells (h : Rs g Z C st pe p k lf W) : W.cell? ⟨g, 0, none⟩ = some (.int .i64 (p : Int)) ∧ W.cell? ⟨g + 1, 0, none⟩ = some (.int .i64 (k : Int)) ∧ W.cell? ⟨g + 1 + 1, 0, none⟩ = some (.bool lf) ∧
    W.frozen? ⟨g, 0, none⟩ = false ∧ W.frozen? ⟨g + 1, 0, none⟩ = false ∧ W.frozen? ⟨g + 1 + 1, 0, none⟩ = false :=
  ⟨h.at_.cell 0, h.cnt.cell 0, h.left.cell 0, h.at_.frozen 0, h.cnt.frozen 0, h.left.frozen 0⟩
end

def JGo (g : Nat) (Z : World) (C : LoopState → Option Code → Loop) (p : Nat) (W : World) : Prop := ∃ k, k ≤ p ∧ Rs g Z C .ready none p k false W
def JLeft (g n : Nat) (Z : World) (C : LoopState → Option Code → Loop) (W : World) : Prop := ∃ p k, p ≤ n ∧ Rs g Z C .done (some (.exit 2)) p k true W
theorem run_eql_fn_nil {P : Program} {t : TypeId} {s r : Array TypeId} {v : Bool} (ht : P.underlying t = some (.func s r v)) (fn : Fn) (a b : Array Value) (w : World) : (binOp .eql t (.func fn a b) .nilFunc).run P w = .ok (.bool false) w := by
  simp only [binOp, Op.equal, Op.maxDepth]
  rw [show (10000 : Nat) = 9999 + 1 from rfl]
  unfold Op.equalIn
  simp [run_underlying ht]
theorem results_rcs (tmps : Array Value) (w : World) (g : Nat) (a : Value) (ht : tmps[4]? = some (.pointer (some ⟨g, 0, none⟩))) (hb : Blk w g 4 #[a]) :
    (results Tryd.f4 tmps).run Tryd.prog w = .ok a w := by
  have c0 : w.cell? ⟨g, 0, none⟩ = some a := hb.cell 0
  simp [results, Tryd.results4, go_sem, ht, c0]

/-- What was handed in, and the answer's place. -/
structure Hd (w W0 : World) (A : Option Addr) (n c : Nat) (st : Int) (W : World) : Prop where
  below : Below W0.heap.size W0 W
  all : Below w.heap.size w W
  z : W0.heap.size = w.heap.size + 3
  b : Blk W w.heap.size 23 #[.slice A n c]
  stop : Blk W (w.heap.size + 1) 3 #[.int .i64 st]
  ans : Blk W (w.heap.size + 1 + 1) 4 #[.bool false]
theorem Hd.step {w W0 W W' : World} {A : Option Addr} {n c : Nat} {st : Int} {B : Nat} (h : Hd w W0 A n c st W) (hb : Below B W W') (hB : W0.heap.size ≤ B) : Hd w W0 A n c st W' :=
  have := h.z
  ⟨h.below.trans (hb.mono hB), h.all.trans (hb.mono (by omega)), h.z, h.b.below hb (by omega), h.stop.below hb (by omega), h.ans.below hb (by omega)⟩

theorem rcs_leave {w W0 X : World} {A : Option Addr} {n c : Nat} {st : Int} {D1 D2 : Nat} (N : Nat) (hd : Hd w W0 A n c st X) (m1 : X.heap[D1]? = some (.deferred (some []))) (m2 : X.heap[D2]? = some (.deferred (some []))) (h1 : w.heap.size ≤ D1) (h2 : D1 < D2)
    (tmps : Array Value) (ht : tmps[4]? = some (.pointer (some ⟨w.heap.size + 1 + 1, 0, none⟩))) :
    bodyPostM Fence.wide N Tryd.prog Tryd.f4 (fun e w' => e = Ending.returned (Value.bool true) ∧ Below w.heap.size w w') Exit.ret { tmps := tmps, defers := [{ target := .collected D2, args := #[] }, { target := .collected D1, args := #[] }] } (X.setCell ⟨w.heap.size + 1 + 1, 0, none⟩ (.bool true)) := by
  have ne : ∀ D, X.heap[D]? = some (.deferred (some [])) → D ≠ w.heap.size + 1 + 1 := fun D h e => by
    have b : X.heap[w.heap.size + 1 + 1]? = _ := hd.ans
    rw [e, b] at h
    cases h
  have k1 : (X.setCell ⟨w.heap.size + 1 + 1, 0, none⟩ (.bool true)).heap[D1]? = some (.deferred (some [])) := (Below.heap_setCell X ⟨w.heap.size + 1 + 1, 0, none⟩ _ D1 (ne D1 m1)).trans m1
  have k2 : (X.setCell ⟨w.heap.size + 1 + 1, 0, none⟩ (.bool true)).heap[D2]? = some (.deferred (some [])) := (Below.heap_setCell X ⟨w.heap.size + 1 + 1, 0, none⟩ _ D2 (ne D2 m2)).trans m2
  have ha : Blk (X.setCell ⟨w.heap.size + 1 + 1, 0, none⟩ (.bool true)) (w.heap.size + 1 + 1) 4 #[.bool true] := hd.ans.put 0 _
  have hb : Below w.heap.size w (X.setCell ⟨w.heap.size + 1 + 1, 0, none⟩ (.bool true)) := hd.all.setCell (by simp; omega) _
  have n1 := ne D1 m1
  have n2 := ne D2 m2
  generalize X.setCell _ _ = Y at k1 k2 ha hb ⊢
  have k3 : (Y.putObj D2 (.deferred none)).heap[D1]? = some (.deferred (some [])) := (World.putObj_heap_other (by omega)).trans k1
  refine ⟨by simp, .inl ⟨_, _, rfl, run_takeDeferred k2, ?_⟩⟩
  refine ⟨by simp, .inl ⟨_, _, rfl, run_takeDeferred k3, ?_⟩⟩
  have ha2 : Blk ((Y.putObj D2 (.deferred none)).putObj D1 (.deferred none)) (w.heap.size + 1 + 1) 4 #[.bool true] := (World.putObj_heap_other (by omega)).trans ((World.putObj_heap_other (by omega)).trans ha)
  exact ⟨_, results_rcs _ _ (w.heap.size + 1 + 1) _ ht ha2, rfl, (hb.trans (belowK_b (w := w) (Nat.le_refl _) Y D2 _ _ (by omega) k2 rfl rfl)).trans (belowK_b (w := w) (Nat.le_refl _) _ D1 _ _ h1 k3 rfl rfl)⟩

/-- Between two rounds of the outer loop. -/
structure Out (w W0 W2 : World) (A : Option Addr) (n c : Nat) (st : Int) (q i : Nat) (W : World) : Prop where
  s : Below W2.heap.size W2 W
  hd : Hd w W0 A n c st W
  rd : Blk W q 3 #[.int .i64 (i : Int)]
  q2 : W2.heap.size ≤ q
def RSt1 (w W0 W2 : World) (A : Option Addr) (n c : Nat) (st : Int) (gb : Nat) (a : Act) (W : World) : Prop :=
  ∃ (D1 q : Nat) (u8 u9 u10 u11 u12 u13 u14 u15 u16 u17 u18 u19 u20 u21 u22 u23 u24 u25 u26 u27 u28 u29 u30 u31 u32 u33 u34 u35 u36 u37 u38 u39 u40 u41 u42 u43 u44 u45 u46 u47 u48 u49 u50 u51 u52 u53 u54 u55 u56 u57 u58 u59 u60 u61 u62 u63 u64 u65 u66 u67 u68 u69 u70 u71 u72 u73 u74 u75 u76 u77 u78 u79 u80 u81 u82 u83 u84 u85 u86 u87 u88 u89 u90 u91 u92 u93 u94 u95 u96 u97 u98 : Value), a = { tmps := #[.slice A n c, .int .i64 st, .pointer (some ⟨w.heap.size, 0, none⟩), .pointer (some ⟨w.heap.size + 1, 0, none⟩), .pointer (some ⟨w.heap.size + 1 + 1, 0, none⟩), .bool true, .func (.func 31) #[] #[.pointer (some ⟨gb, 0, none⟩)], .pointer (some ⟨q, 0, none⟩), u8, u9, u10, u11, u12, u13, u14, u15, u16, u17, u18, u19, u20, u21, u22, u23, u24, u25, u26, u27, u28, u29, u30, u31, u32, u33, u34, u35, u36, u37, u38, u39, u40, u41, u42, u43, u44, u45, u46, u47, u48, u49, u50, u51, u52, u53, u54, u55, u56, u57, u58, u59, u60, u61, u62, u63, u64, u65, u66, u67, u68, u69, u70, u71, u72, u73, u74, u75, u76, u77, u78, u79, u80, u81, u82, u83, u84, u85, u86, u87, u88, u89, u90, u91, u92, u93, u94, u95, u96, u97, u98], defers := [{ target := .collected D1, args := #[] }] } ∧ Out w W0 W2 A n c st q 1 W ∧ W.heap[D1]? = some (.deferred (some [])) ∧ w.heap.size ≤ D1 ∧ D1 < W.heap.size
def RSt2 (w W0 W2 : World) (A : Option Addr) (n c : Nat) (st : Int) (gb : Nat) (a : Act) (W : World) : Prop :=
  ∃ (D1 D2 q : Nat) (u8 u9 u10 u11 u12 u13 u14 u15 u16 u17 u18 u19 u20 u21 u22 u23 u24 u25 u26 u27 u28 u29 u30 u31 u32 u33 u34 u35 u36 u37 u38 u39 u40 u41 u42 u43 u44 u45 u46 u47 u48 u49 u50 u51 u52 u53 u54 u55 u56 u57 u58 u59 u60 u61 u62 u63 u64 u65 u66 u67 u68 u69 u70 u71 u72 u73 u74 u75 u76 u77 u78 u79 u80 u81 u82 u83 u84 u85 u86 u87 u88 u89 u90 u91 u92 u93 u94 u95 u96 u97 u98 : Value), a = { tmps := #[.slice A n c, .int .i64 st, .pointer (some ⟨w.heap.size, 0, none⟩), .pointer (some ⟨w.heap.size + 1, 0, none⟩), .pointer (some ⟨w.heap.size + 1 + 1, 0, none⟩), .bool true, .func (.func 31) #[] #[.pointer (some ⟨gb, 0, none⟩)], .pointer (some ⟨q, 0, none⟩), u8, u9, u10, u11, u12, u13, u14, u15, u16, u17, u18, u19, u20, u21, u22, u23, u24, u25, u26, u27, u28, u29, u30, u31, u32, u33, u34, u35, u36, u37, u38, u39, u40, u41, u42, u43, u44, u45, u46, u47, u48, u49, u50, u51, u52, u53, u54, u55, u56, u57, u58, u59, u60, u61, u62, u63, u64, u65, u66, u67, u68, u69, u70, u71, u72, u73, u74, u75, u76, u77, u78, u79, u80, u81, u82, u83, u84, u85, u86, u87, u88, u89, u90, u91, u92, u93, u94, u95, u96, u97, u98], defers := [{ target := .collected D2, args := #[] }, { target := .collected D1, args := #[] }] } ∧ Out w W0 W2 A n c st q 2 W ∧ W.heap[D1]? = some (.deferred (some [])) ∧ W.heap[D2]? = some (.deferred (some [])) ∧ w.heap.size ≤ D1 ∧ D1 < D2 ∧ D2 < W.heap.size
theorem rounds_cut {F : Fence} {n m : Nat} {P : Program} {c : Code} {Q : Exit → Act → World → Prop} {a : Act} {w : World} (I : Act → World → Prop) (h : c.wpIn F n P (Exit.then I Q) a w) (hI : ∀ a w, I a w → Code.roundsIn F n P c Q m a w) : Code.roundsIn F n P c Q (m + 1) a w := by
  rw [roundsIn_succ]
  refine wpIn_mono h ?_
  intro e a w hq
  cases e with
  | normal => exact hI a w hq
  | ret => exact hq
  | exit id => exact hq
  | goto t => exact hq
  | panic ch => exact hq
  | outgrown => exact hq

set_option maxHeartbeats 4000000 in
set_option maxRecDepth 100000 in
theorem wireRecords_any (A : Option Addr) (n c : Nat) (l : List UInt8) (st : Int) (w : World) (ea : Nat → Addr) (he : Env w ea) (hr : Rd w w.heap.size A n l) (hnc : n ≤ c) :
    Calls Tryd.prog 4 #[.slice A n c, .int .i64 st] w fun e w' => e = .returned (.bool true) ∧ Below w.heap.size w w' := by
  have HE := Lib.hid he
  have HR := Lib.hid hr
  have h8 := he.room
  clear he hr
  have N : Nat := 9
  refine (callsIn_wide (n := N)).1 ?_
  refine callsIn_of_wp_marks Tryd.func4 rfl trivial ?_ rfl
  simp only [Tryd.ntmps4, List.size_toArray, List.length_cons, List.length_nil, Nat.reduceAdd, Nat.reduceSub, Array.replicate_succ, Array.replicate_zero, List.push_toArray, List.append_toArray, List.nil_append, List.cons_append]
  gi_wp2_with fail
  refine ⟨trivial, fun h => (by cases h), ?_⟩
  have H0 : Hid (Hd w (((w.alloc (.cells #[.slice A n c] 23)).alloc (.cells #[.int .i64 st] 3)).alloc (.cells #[.bool false] 4)) A n c st (((w.alloc (.cells #[.slice A n c] 23)).alloc (.cells #[.int .i64 st] 3)).alloc (.cells #[.bool false] 4))) := Lib.hid
    ⟨Below.refl _ _, (((Below.refl _ _).alloc (Nat.le_refl _) _).alloc (by simp) _).alloc (by simp; omega) _, by simp, ((Blk.new w _ _).alloc _).alloc _, (blk2 w _ _ _).alloc _, by
      have h := blk2 (w.alloc (.cells #[.slice A n c] 23)) (.cells #[.int .i64 st] 3) 4 #[.bool false]
      rwa [show (w.alloc (.cells #[.slice A n c] 23)).heap.size = w.heap.size + 1 by simp] at h⟩
  generalize ((w.alloc _).alloc _).alloc _ = W0 at H0 ⊢
  have hz0 : W0.heap.size = w.heap.size + 3 := H0.out.z
  have HZ0 := Lib.hid hz0
  clear hz0
  refine (callsIn_wide.2 (first_any W0 ea (by exact HE.out.below H0.out.all h8))).mono ?_
  rintro e W1 ⟨rfl, hb⟩
  have H1 := Lib.hid (H0.out.step hb (Nat.le_refl _))
  have hl1 := H1.out.below.size
  rw [HZ0.out] at hl1
  have hl1a : w.heap.size < W1.heap.size := by omega
  have hl1b : w.heap.size + 1 < W1.heap.size := by omega
  have hl1c : w.heap.size + 1 + 1 < W1.heap.size := by omega
  clear hb H0
  have b0 : W1.cell? ⟨w.heap.size, 0, none⟩ = some (.slice A n c) := H1.out.b.cell 0
  have a0 : W1.cell? ⟨w.heap.size + 1 + 1, 0, none⟩ = some (.bool false) := H1.out.ans.cell 0
  have a1 := H1.out.ans.frozen 0
  by_cases hlt : 16384 < n
  · gi_wp2
    exact ⟨_, results_rcs _ _ (w.heap.size + 1 + 1) _ rfl (H1.out.ans.put 0 _), rfl, H1.out.all.setCell (by simp; omega) _⟩
  have hdn : decide (16384 < (n : Int)) = false := by simp; omega
  have hn2 : n ≤ 16384 := by omega
  clear hlt
  gi_wp2_with fail
  refine ⟨trivial, fun h => (by cases h), ?_⟩
  refine (callsIn_wide.2 (records_any A n c l _ w.heap.size (by exact HR.out.below H1.out.all) H1.out.all.size (by omega))).mono ?_
  rintro e W2 ⟨rfl, hbx, ho, hb⟩
  have H2 := Lib.hid (H1.out.step hb H1.out.below.size)
  have HBX := Lib.hid hbx
  have HRC := Lib.hid ho.rd
  have hbl := hbx.lt
  have hl2 := H2.out.below.size
  rw [HZ0.out] at hl2
  clear b0 a0 a1 hl1a hl1b hl1c hbx ho hb H1
  generalize W1.heap.size = gb at *
  have hnf := fun W => run_eql_fn_nil (P := Tryd.prog) Tryd.underlying34 (.func 31) #[] #[.pointer (some ⟨gb, 0, none⟩)] W
  gi_wp2
  clear hnf
  refine wpIn_loop_rounds 3 ?_
  have S0 := Lib.hid ((Below.refl W2.heap.size W2).alloc (Nat.le_refl _) (.cells #[.int .i64 0] 3))
  have HX0 := Lib.hid (H2.out.step S0.out H2.out.below.size)
  have G0 := Lib.hid (Blk.new W2 3 #[.int .i64 0])
  have hg0 : W2.heap.size ≤ W2.heap.size := Nat.le_refl _
  clear H2
  generalize W2.alloc _ = X0 at S0 HX0 G0 ⊢
  obtain ⟨q0, hq0⟩ : ∃ q, W2.heap.size = q := ⟨_, rfl⟩
  rw [hq0] at G0 ⊢
  have hq0' : W2.heap.size ≤ q0 := by omega
  clear hq0
  refine rounds_cut (RSt1 w W0 W2 A n c st gb) ?_ ?_
  have g7 : X0.cell? ⟨q0, 0, none⟩ = some (.int .i64 0) := G0.out.cell 0
  have hq7 := G0.out.lt
  gi_wp2
  have SZ : Hid (Below W2.heap.size W2 (((X0.alloc (.cells #[.int .i64 0] 3)).alloc (.cells #[.int .i64 0] 3)).alloc (.cells #[.bool false] 4))) := Lib.hid ((((S0.out.alloc S0.out.size _).alloc (by have := S0.out.size; simp; omega) _).alloc (by have := S0.out.size; simp; omega) _))
  have BZ : Hid (Below X0.heap.size X0 (((X0.alloc (.cells #[.int .i64 0] 3)).alloc (.cells #[.int .i64 0] 3)).alloc (.cells #[.bool false] 4))) := Lib.hid ((((Below.refl _ _).alloc (Nat.le_refl _) _).alloc (by simp) _).alloc (by simp; omega) _)
  have hzz : (((X0.alloc (.cells #[.int .i64 0] 3)).alloc (.cells #[.int .i64 0] 3)).alloc (.cells #[.bool false] 4)).heap.size = X0.heap.size + 3 := by simp
  have Z8 : Hid (Blk (((X0.alloc (.cells #[.int .i64 0] 3)).alloc (.cells #[.int .i64 0] 3)).alloc (.cells #[.bool false] 4)) X0.heap.size 3 #[.int .i64 ((0 : Nat) : Int)]) := Lib.hid (((Blk.new X0 _ _).alloc _).alloc _)
  have Z9 : Hid (Blk (((X0.alloc (.cells #[.int .i64 0] 3)).alloc (.cells #[.int .i64 0] 3)).alloc (.cells #[.bool false] 4)) (X0.heap.size + 1) 3 #[.int .i64 ((0 : Nat) : Int)]) := Lib.hid ((blk2 X0 _ _ _).alloc _)
  have Z10 : Hid (Blk (((X0.alloc (.cells #[.int .i64 0] 3)).alloc (.cells #[.int .i64 0] 3)).alloc (.cells #[.bool false] 4)) (X0.heap.size + 1 + 1) 4 #[.bool false]) := Lib.hid (by
    have h := blk2 (X0.alloc (.cells #[.int .i64 0] 3)) (.cells #[.int .i64 0] 3) 4 #[.bool false]
    rwa [show (X0.alloc (.cells #[.int .i64 0] 3)).heap.size = X0.heap.size + 1 by simp] at h)
  have HZ := Lib.hid (HX0.out.step BZ.out HX0.out.below.size)
  have GZ := Lib.hid (G0.out.below BZ.out G0.out.lt)
  have hxs : W2.heap.size ≤ X0.heap.size := S0.out.size
  clear g7
  generalize ((X0.alloc _).alloc _).alloc _ = Z at SZ BZ hzz Z8 Z9 Z10 HZ GZ ⊢
  generalize X0.heap.size = g8 at *
  have HZZ := Lib.hid hzz
  have hzl : g8 ≤ Z.heap.size := by omega
  clear hzz
  refine range_rec (gf := 31) (lb := #[.pointer (some ⟨gb, 0, none⟩)]) rfl (enters_of Tryd.func31 (by kernel_rfl) rfl) (fun fn C hC => ?_)
  have HC := Lib.hid hC
  clear hC
  refine (recs_in (N - 1) (Z.heap.size + 1) gb n n W2.heap.size (some ⟨gb + 1, 0, none⟩) l ea (fun p W => JGo g8 Z C p W) (fun W => JLeft g8 n Z C W) (by omega) (Nat.le_refl _) ?_ ?_ ?_ _ ?_).mono ?_
  · rintro p W ⟨k, hk, hs⟩
    have hbW : Below W2.heap.size W2 W := SZ.out.trans (hs.lp.below.mono (by omega))
    exact ⟨HE.out.below (HZ.out.all.trans (hs.lp.below.mono (by have := HZ.out.all.size; have := HZ0.out; omega))) h8, (hbW.cell (p := ⟨gb, 0, none⟩) (by simp; omega)).trans (HBX.out.cell 0), HRC.out.below hbW, hbW.size⟩
  · rintro p W W' ⟨k, hk, hs⟩ hb
    exact ⟨k, hk, hs.step hb hs.lp.size⟩
  · rintro p r k v W W' ⟨cnt, hcp, hs⟩ hp hx hb ho
    have hs' := hs.step hb hs.lp.size
    have hsW : Z.heap.size + 2 ≤ W.heap.size := hs.lp.size
    have hsW' : W.heap.size ≤ W'.heap.size := hb.size
    refine yield_rec HC.out hs'.lp.entry rfl ?_
    have HS := Lib.hid hs'
    have HXX := Lib.hid hx
    clear hs hs' hb hx
    unfold recCells
    obtain ⟨Av, cv, rfl, _, _, _⟩ := ho.form
    have HO := Lib.hid ho
    clear ho
    gi_wp2
    have hs2 := HS.out.step ((Below.refl W'.heap.size W').alloc (Nat.le_refl _) (.cells #[.int .i64 (r.field : Int), .int .i64 (r.kind : Int), .int .u64 (r.u : Int), .slice Av r.b.length cv] 29)) (by omega)
    refine ⟨hs2.lp.entry, ?_⟩
    have hs3 := hs2.put .busy none
    have hbk : Blk ((W'.alloc (.cells #[.int .i64 (r.field : Int), .int .i64 (r.kind : Int), .int .u64 (r.u : Int), .slice Av r.b.length cv] 29)).putObj (Z.heap.size + 1) (.loop (C .busy none))) W'.heap.size 29 #[.int .i64 (r.field : Int), .int .i64 (r.kind : Int), .int .u64 (r.u : Int), .slice Av r.b.length cv] := (World.putObj_heap_other (by omega)).trans (Blk.new W' 29 _)
    have ho3 := (HO.out.alloc (.cells #[.int .i64 (r.field : Int), .int .i64 (r.kind : Int), .int .u64 (r.u : Int), .slice Av r.b.length cv] 29)).grown (grownBy_putObj' _ (Z.heap.size + 1) (.loop (C .busy none))) (far_own HO.out (by omega))
    clear hs2 HO HS
    generalize (W'.alloc _).putObj _ _ = U at hs3 hbk ho3 ⊢
    generalize W'.heap.size = gr at *
    have hbU := hs3.lp.below
    have HU := Lib.hid (HZ.out.step hbU (by have := HZ0.out; omega))
    have b0 : U.cell? ⟨w.heap.size, 0, none⟩ = some (.slice A n c) := HU.out.b.cell 0
    obtain ⟨e0, e1, e2, e3, e4, e5⟩ := hs3.cells
    have HS3 := Lib.hid hs3
    have HBK := Lib.hid hbk
    have HRV := Lib.hid ho3.rd
    have hgrU := hbk.lt
    have hUz := hs3.lp.size
    obtain ⟨A', hA', hsl⟩ := cut_from (c := c) byteP (HR.out.below HU.out.all) (p : Int) (k := p) rfl (Nat.le_of_lt hp) hnc
    have HA := Lib.hid hA'
    clear hs3 hbk ho3 hA' hbU
    gi_wp2_with fail
    refine ⟨trivial, fun h => (by cases h), ?_⟩
    refine (CallsIn.inRound _ (callsIn_wide.2 (r_Next_any A' (n - p) (c - p) (l.drop p) _ w.heap.size (by exact HA.out) (by exact HU.out.all.size) (by omega) (by omega)))).mono ?_
    rw [HXX.out]
    rintro e V ⟨v2, rfl, ho2, hbV⟩
    obtain ⟨Av2, cv2, rfl, _, _, _⟩ := ho2.form
    have HS4 := Lib.hid (HS3.out.step hbV hUz)
    have HV := Lib.hid (HU.out.step hbV HU.out.below.size)
    have hbk4 := HBK.out.below hbV hgrU
    have HRV4 := Lib.hid (HRV.out.below hbV)
    have HR2 := Lib.hid ho2.rd
    have hUV := hbV.size
    have hgrV : gr < V.heap.size := by omega
    unfold recCells
    clear e0 e1 e2 e3 e4 e5 b0 HS3 HBK HRV hbV ho2 hsl HA
    have r0 : V.cell? ⟨gr, 0, none⟩ = some (.int .i64 (r.field : Int)) := hbk4.cell 0
    have r1 : V.cell? ⟨gr, 1, none⟩ = some (.int .i64 (r.kind : Int)) := hbk4.cell 1
    have r2 : V.cell? ⟨gr, 2, none⟩ = some (.int .u64 (r.u : Int)) := hbk4.cell 2
    have r3 : V.cell? ⟨gr, 3, none⟩ = some (.slice Av r.b.length cv) := hbk4.cell 3
    have b0 : V.cell? ⟨w.heap.size, 0, none⟩ = some (.slice A n c) := HV.out.b.cell 0
    obtain ⟨e0, e1, e2, e3, e4, e5⟩ := HS4.out.cells
    have hwV : w.heap.size < V.heap.size := HV.out.b.lt
    have h8V : g8 < V.heap.size := HS4.out.at_.lt
    have hpb : ¬ (n : Int) ≤ (p : Int) := by omega
    have hpp : ((p : Int) != (p : Int)) = false := by simp
    clear hbk4
    gi_wp2_with fail
    refine ⟨trivial, fun h => (by cases h), ?_⟩
    refine (CallsIn.inRound _ (callsIn_wide.2 (is_any r.field r.kind r.u Av Av2 r.b.length cv r.b.length cv2 r.b _ U.heap.size V.heap.size (by exact HRV4.out.alloc hUV _) (by exact HR2.out.alloc (Nat.le_refl _) _) (by simp; omega) (by simp)))).mono ?_
    rintro e Y ⟨rfl, hbY⟩
    have hbVY : Below V.heap.size V Y := ((Below.refl V.heap.size V).alloc (Nat.le_refl _) _).trans (hbY.mono (by simp))
    have HS5 := Lib.hid (HS4.out.step hbVY (by omega))
    have HY := Lib.hid (HV.out.step hbVY HV.out.below.size)
    have GY := Lib.hid (GZ.out.below HS5.out.lp.below hq7)
    clear hbY hbVY r0 r1 r2 r3 b0 e0 e1 e2 e3 e4 e5 HS4 HV HRV4 HR2 hgrV hwV h8V hpb hpp
    have hkn := next_le HXX.out
    rw [List.length_drop, HR.out.len] at hkn
    obtain ⟨hk1, hk2⟩ := hkn
    obtain ⟨e0, e1, e2, e3, e4, e5⟩ := HS5.out.cells
    have g7 : Y.cell? ⟨q0, 0, none⟩ = some (.int .i64 0) := GY.out.cell 0
    have s0 : Y.cell? ⟨w.heap.size + 1, 0, none⟩ = some (.int .i64 st) := HY.out.stop.cell 0
    have m0 : g8 < Y.heap.size := HS5.out.at_.lt
    have m1 : g8 + 1 < Y.heap.size := HS5.out.cnt.lt
    have m2 : g8 + 1 + 1 < Y.heap.size := HS5.out.left.lt
    have m3 : q0 < Y.heap.size := GY.out.lt
    have n1 : ¬ g8 = q0 := by omega
    have n2 : ¬ q0 = g8 := by omega
    have n3 : ¬ g8 + 1 = q0 := by omega
    have n4 : ¬ q0 = g8 + 1 := by omega
    have n5 : ¬ g8 = w.heap.size + 1 := by omega
    have n6 : ¬ w.heap.size + 1 = g8 := by omega
    have n7 : ¬ g8 = w.heap.size := by omega
    have n8 : ¬ w.heap.size = g8 := by omega
    have HS6 := Lib.hid ((HS5.out.setAt (p + k) ((p : Int) + (k : Int)) (by omega)).setCnt (cnt + 1) ((cnt : Int) + 1) (by omega))
    cases hst : (((cnt : Int) + 1) == st)
    · gi_wp2
      exact ⟨HS6.out.lp.entry, .inl ⟨rfl, cnt + 1, by omega, HS6.out.put .ready none⟩⟩
    · gi_wp2
      exact ⟨HS6.out.setLeft.lp.entry, .inr ⟨rfl, p + k, cnt + 1, by omega, HS6.out.setLeft.put .done (some (.exit 2))⟩⟩
  · exact ⟨0, Nat.le_refl _, Lp.start g8 Z C hzl, HZZ.out, (Z8.out.alloc _).alloc _, (Z9.out.alloc _).alloc _, (Z10.out.alloc _).alloc _⟩
  · rintro e W ⟨⟨v, rfl⟩, ⟨p, hp, ⟨k, hk, hs⟩, hend⟩ | ⟨p, k, hp, hs⟩⟩
    · rcases hnx : next (l.drop p) with x | ⟨r, m⟩
      · have hx1 := nextD_pos (d := 32) hnx
        have HNX := Lib.hid hnx
        clear hnx hend
        have hs9 := hs.put .exhausted none
        refine ⟨⟨v, rfl⟩, .ready, none, by decide, hs.lp.entry, ?_⟩
        have HS9 := Lib.hid hs9
        have ST := Lib.hid (SZ.out.trans (hs9.lp.below.mono (by omega)))
        have HT := Lib.hid (HZ.out.step hs9.lp.below (by have := HZ0.out; omega))
        have GT := Lib.hid (GZ.out.below hs9.lp.below hq7)
        have MT9 := Lib.hid hs9.lp.mark
        have hD9 : Z.heap.size < (W.putObj (Z.heap.size + 1) (.loop (C .exhausted none))).heap.size := by have := hs9.lp.size; omega
        have hT8 := hs9.at_.lt
        have hT9 := hs9.cnt.lt
        have hT10 := hs9.left.lt
        have hT7 := GT.out.lt
        clear hs hs9
        generalize W.putObj _ _ = T at HS9 ST HT GT MT9 hD9 hT8 hT9 hT10 hT7 ⊢
        obtain ⟨D9, hD9e⟩ : ∃ D, Z.heap.size = D := ⟨_, rfl⟩
        have hD9w : w.heap.size ≤ D9 := by have := HZ.out.all.size; omega
        rw [hD9e] at MT9 hD9 ⊢
        obtain ⟨t0, t1, t2, t3, t4, t5⟩ := HS9.out.cells
        have b0 : T.cell? ⟨w.heap.size, 0, none⟩ = some (.slice A n c) := HT.out.b.cell 0
        have g7 := GT.out.cell 0
        obtain ⟨A', hA', hsl⟩ := cut_from (c := c) byteP (HR.out.below HT.out.all) (p : Int) (k := p) rfl hp hnc
        have HA := Lib.hid hA'
        clear hA'
        simp only [Behind]
        gi_wp2_with fail
        refine ⟨trivial, fun h => (by cases h), ?_⟩
        refine (callsIn_wide.2 (r_Next_any A' (n - p) (c - p) (l.drop p) _ w.heap.size (by exact HA.out) (by exact HT.out.all.size) (by omega) (by omega))).mono ?_
        rw [HNX.out]
        rintro e V ⟨rfl, hbV⟩
        unfold recCells
        have hTV := hbV.size
        have hV := Lib.hid (hbV.alloc hTV (.cells #[.int .i64 0, .int .i64 0, .int .u64 0, .slice none 0 0] 36))
        clear hsl HA t0 t1 t2 t3 t4 t5 b0 g7
        have RV := Lib.hid (HS9.out.cells)
        have C1 := Lib.hid (HT.out.step hbV HT.out.below.size)
        have C2 := Lib.hid (ST.out.trans (hbV.mono ST.out.size))
        have C3 := Lib.hid ((hbV.block D9 hD9).trans MT9.out)
        have hD9V : D9 < V.heap.size := by omega
        have v0 : V.cell? ⟨g8, 0, none⟩ = some (.int .i64 (p : Int)) := (hbV.cell (p := ⟨g8, 0, none⟩) hT8).trans RV.out.1
        have v2 : V.cell? ⟨g8 + 1 + 1, 0, none⟩ = some (.bool false) := (hbV.cell (p := ⟨g8 + 1 + 1, 0, none⟩) hT10).trans RV.out.2.2.1
        have b0 : V.cell? ⟨w.heap.size, 0, none⟩ = some (.slice A n c) := C1.out.b.cell 0
        have g7 : V.cell? ⟨q0, 0, none⟩ = some (.int .i64 0) := (hbV.cell (p := ⟨q0, 0, none⟩) hT7).trans (GT.out.cell 0)
        have hV8 : g8 < V.heap.size := by omega
        have hV10 : g8 + 1 + 1 < V.heap.size := by omega
        have hVb : w.heap.size < V.heap.size := C1.out.b.lt
        have hV7 : q0 < V.heap.size := by omega
        clear hbV
        have q2 : ((x : Int) == 0) = false := by simp; omega
        by_cases hpn : p < n
        · have hpn2 : (p : Int) < (n : Int) := by omega
          gi_wp2
          exact ⟨D9, _, _, _, _, _, _, _, _, _, _, _, _, _, _, _, _, _, _, _, _, _, _, _, _, _, _, _, _, _, _, _, _, _, _, _, _, _, _, _, _, _, _, _, _, _, _, _, _, _, _, _, _, _, _, _, _, _, _, _, _, _, _, _, _, _, _, _, _, _, _, _, _, _, _, _, _, _, _, _, _, _, _, _, _, _, _, _, _, _, _, _, _, rfl, ⟨(C2.out.alloc C2.out.size _).alloc (by have := C2.out.size; simp; omega) _, C1.out.step (((Below.refl V.heap.size V).alloc (Nat.le_refl _) _).alloc (by simp) _) C1.out.below.size, blk2 V _ _ _, by have := C2.out.size; omega⟩, ((((Below.refl V.heap.size V).alloc (Nat.le_refl _) _).alloc (by simp) _).block D9 hD9V).trans C3.out, hD9w, by simp; omega⟩
        have hpn2 : ¬ (p : Int) < (n : Int) := by omega
        gi_wp2
        exact ⟨D9, _, _, _, _, _, _, _, _, _, _, _, _, _, _, _, _, _, _, _, _, _, _, _, _, _, _, _, _, _, _, _, _, _, _, _, _, _, _, _, _, _, _, _, _, _, _, _, _, _, _, _, _, _, _, _, _, _, _, _, _, _, _, _, _, _, _, _, _, _, _, _, _, _, _, _, _, _, _, _, _, _, _, _, _, _, _, _, _, _, _, _, _, rfl, ⟨(C2.out.alloc C2.out.size _).alloc (by have := C2.out.size; simp; omega) _, C1.out.step (((Below.refl V.heap.size V).alloc (Nat.le_refl _) _).alloc (by simp) _) C1.out.below.size, blk2 V _ _ _, by have := C2.out.size; omega⟩, ((((Below.refl V.heap.size V).alloc (Nat.le_refl _) _).alloc (by simp) _).block D9 hD9V).trans C3.out, hD9w, by simp; omega⟩
      · have hpe : p = n := by rcases hend with h | ⟨k', h⟩; exact h; rw [hnx] at h; cases h
        have HPE := Lib.hid hpe
        have HNX := Lib.hid hnx
        clear hnx hend hpe
        have hs9 := hs.put .exhausted none
        refine ⟨⟨v, rfl⟩, .ready, none, by decide, hs.lp.entry, ?_⟩
        have HS9 := Lib.hid hs9
        have ST := Lib.hid (SZ.out.trans (hs9.lp.below.mono (by omega)))
        have HT := Lib.hid (HZ.out.step hs9.lp.below (by have := HZ0.out; omega))
        have GT := Lib.hid (GZ.out.below hs9.lp.below hq7)
        have MT9 := Lib.hid hs9.lp.mark
        have hD9 : Z.heap.size < (W.putObj (Z.heap.size + 1) (.loop (C .exhausted none))).heap.size := by have := hs9.lp.size; omega
        have hT8 := hs9.at_.lt
        have hT9 := hs9.cnt.lt
        have hT10 := hs9.left.lt
        have hT7 := GT.out.lt
        clear hs hs9
        generalize W.putObj _ _ = T at HS9 ST HT GT MT9 hD9 hT8 hT9 hT10 hT7 ⊢
        obtain ⟨D9, hD9e⟩ : ∃ D, Z.heap.size = D := ⟨_, rfl⟩
        have hD9w : w.heap.size ≤ D9 := by have := HZ.out.all.size; omega
        rw [hD9e] at MT9 hD9 ⊢
        obtain ⟨t0, t1, t2, t3, t4, t5⟩ := HS9.out.cells
        have b0 : T.cell? ⟨w.heap.size, 0, none⟩ = some (.slice A n c) := HT.out.b.cell 0
        have g7 := GT.out.cell 0
        obtain ⟨A', hA', hsl⟩ := cut_from (c := c) byteP (HR.out.below HT.out.all) (p : Int) (k := p) rfl hp hnc
        have HA := Lib.hid hA'
        clear hA'
        simp only [Behind]
        gi_wp2_with fail
        refine ⟨trivial, fun h => (by cases h), ?_⟩
        refine (callsIn_wide.2 (r_Next_any A' (n - p) (c - p) (l.drop p) _ w.heap.size (by exact HA.out) (by exact HT.out.all.size) (by omega) (by omega))).mono ?_
        rw [HNX.out]
        rintro e V ⟨v2', rfl, ho2, hbV⟩
        obtain ⟨Av2, cv2, rfl, _, _, _⟩ := ho2.form
        clear ho2
        unfold recCells
        have hTV := hbV.size
        have hV := Lib.hid (hbV.alloc hTV (.cells #[.int .i64 (r.field : Int), .int .i64 (r.kind : Int), .int .u64 (r.u : Int), .slice Av2 r.b.length cv2] 36))
        clear hsl HA t0 t1 t2 t3 t4 t5 b0 g7
        have RV := Lib.hid (HS9.out.cells)
        have C1 := Lib.hid (HT.out.step hbV HT.out.below.size)
        have C2 := Lib.hid (ST.out.trans (hbV.mono ST.out.size))
        have C3 := Lib.hid ((hbV.block D9 hD9).trans MT9.out)
        have hD9V : D9 < V.heap.size := by omega
        have v0 : V.cell? ⟨g8, 0, none⟩ = some (.int .i64 (p : Int)) := (hbV.cell (p := ⟨g8, 0, none⟩) hT8).trans RV.out.1
        have v2 : V.cell? ⟨g8 + 1 + 1, 0, none⟩ = some (.bool false) := (hbV.cell (p := ⟨g8 + 1 + 1, 0, none⟩) hT10).trans RV.out.2.2.1
        have b0 : V.cell? ⟨w.heap.size, 0, none⟩ = some (.slice A n c) := C1.out.b.cell 0
        have g7 : V.cell? ⟨q0, 0, none⟩ = some (.int .i64 0) := (hbV.cell (p := ⟨q0, 0, none⟩) hT7).trans (GT.out.cell 0)
        have hV8 : g8 < V.heap.size := by omega
        have hV10 : g8 + 1 + 1 < V.heap.size := by omega
        have hVb : w.heap.size < V.heap.size := C1.out.b.lt
        have hV7 : q0 < V.heap.size := by omega
        clear hbV
        have hpn2 : ¬ (p : Int) < (n : Int) := by have := HPE.out; omega
        gi_wp2
        exact ⟨D9, _, _, _, _, _, _, _, _, _, _, _, _, _, _, _, _, _, _, _, _, _, _, _, _, _, _, _, _, _, _, _, _, _, _, _, _, _, _, _, _, _, _, _, _, _, _, _, _, _, _, _, _, _, _, _, _, _, _, _, _, _, _, _, _, _, _, _, _, _, _, _, _, _, _, _, _, _, _, _, _, _, _, _, _, _, _, _, _, _, _, _, _, rfl, ⟨(C2.out.alloc C2.out.size _).alloc (by have := C2.out.size; simp; omega) _, C1.out.step (((Below.refl V.heap.size V).alloc (Nat.le_refl _) _).alloc (by simp) _) C1.out.below.size, blk2 V _ _ _, by have := C2.out.size; omega⟩, ((((Below.refl V.heap.size V).alloc (Nat.le_refl _) _).alloc (by simp) _).block D9 hD9V).trans C3.out, hD9w, by simp; omega⟩
    · rcases hnx : next (l.drop p) with x | ⟨r, m⟩
      · have HNX := Lib.hid hnx
        clear hnx
        have hs9 := hs.put .exhausted (some (.exit 2))
        refine ⟨⟨v, rfl⟩, .done, (some (.exit 2)), by decide, hs.lp.entry, ?_⟩
        have HS9 := Lib.hid hs9
        have ST := Lib.hid (SZ.out.trans (hs9.lp.below.mono (by omega)))
        have HT := Lib.hid (HZ.out.step hs9.lp.below (by have := HZ0.out; omega))
        have GT := Lib.hid (GZ.out.below hs9.lp.below hq7)
        have MT9 := Lib.hid hs9.lp.mark
        have hD9 : Z.heap.size < (W.putObj (Z.heap.size + 1) (.loop (C .exhausted (some (.exit 2))))).heap.size := by have := hs9.lp.size; omega
        have hT8 := hs9.at_.lt
        have hT9 := hs9.cnt.lt
        have hT10 := hs9.left.lt
        have hT7 := GT.out.lt
        clear hs hs9
        generalize W.putObj _ _ = T at HS9 ST HT GT MT9 hD9 hT8 hT9 hT10 hT7 ⊢
        obtain ⟨D9, hD9e⟩ : ∃ D, Z.heap.size = D := ⟨_, rfl⟩
        have hD9w : w.heap.size ≤ D9 := by have := HZ.out.all.size; omega
        rw [hD9e] at MT9 hD9 ⊢
        obtain ⟨t0, t1, t2, t3, t4, t5⟩ := HS9.out.cells
        have b0 : T.cell? ⟨w.heap.size, 0, none⟩ = some (.slice A n c) := HT.out.b.cell 0
        have g7 := GT.out.cell 0
        obtain ⟨A', hA', hsl⟩ := cut_from (c := c) byteP (HR.out.below HT.out.all) (p : Int) (k := p) rfl hp hnc
        have HA := Lib.hid hA'
        clear hA'
        simp only [Behind]
        gi_wp2_with fail
        refine ⟨trivial, fun h => (by cases h), ?_⟩
        refine (callsIn_wide.2 (r_Next_any A' (n - p) (c - p) (l.drop p) _ w.heap.size (by exact HA.out) (by exact HT.out.all.size) (by omega) (by omega))).mono ?_
        rw [HNX.out]
        rintro e V ⟨rfl, hbV⟩
        unfold recCells
        have hTV := hbV.size
        have hV := Lib.hid (hbV.alloc hTV (.cells #[.int .i64 0, .int .i64 0, .int .u64 0, .slice none 0 0] 36))
        clear hsl HA t0 t1 t2 t3 t4 t5 b0 g7
        have RV := Lib.hid (HS9.out.cells)
        have C1 := Lib.hid (HT.out.step hbV HT.out.below.size)
        have C2 := Lib.hid (ST.out.trans (hbV.mono ST.out.size))
        have C3 := Lib.hid ((hbV.block D9 hD9).trans MT9.out)
        have hD9V : D9 < V.heap.size := by omega
        have v0 : V.cell? ⟨g8, 0, none⟩ = some (.int .i64 (p : Int)) := (hbV.cell (p := ⟨g8, 0, none⟩) hT8).trans RV.out.1
        have v2 : V.cell? ⟨g8 + 1 + 1, 0, none⟩ = some (.bool true) := (hbV.cell (p := ⟨g8 + 1 + 1, 0, none⟩) hT10).trans RV.out.2.2.1
        have b0 : V.cell? ⟨w.heap.size, 0, none⟩ = some (.slice A n c) := C1.out.b.cell 0
        have g7 : V.cell? ⟨q0, 0, none⟩ = some (.int .i64 0) := (hbV.cell (p := ⟨q0, 0, none⟩) hT7).trans (GT.out.cell 0)
        have hV8 : g8 < V.heap.size := by omega
        have hV10 : g8 + 1 + 1 < V.heap.size := by omega
        have hVb : w.heap.size < V.heap.size := C1.out.b.lt
        have hV7 : q0 < V.heap.size := by omega
        clear hbV
        gi_wp2
        exact ⟨D9, _, _, _, _, _, _, _, _, _, _, _, _, _, _, _, _, _, _, _, _, _, _, _, _, _, _, _, _, _, _, _, _, _, _, _, _, _, _, _, _, _, _, _, _, _, _, _, _, _, _, _, _, _, _, _, _, _, _, _, _, _, _, _, _, _, _, _, _, _, _, _, _, _, _, _, _, _, _, _, _, _, _, _, _, _, _, _, _, _, _, _, _, rfl, ⟨(C2.out.alloc C2.out.size _).alloc (by have := C2.out.size; simp; omega) _, C1.out.step (((Below.refl V.heap.size V).alloc (Nat.le_refl _) _).alloc (by simp) _) C1.out.below.size, blk2 V _ _ _, by have := C2.out.size; omega⟩, ((((Below.refl V.heap.size V).alloc (Nat.le_refl _) _).alloc (by simp) _).block D9 hD9V).trans C3.out, hD9w, by simp; omega⟩
      · have HNX := Lib.hid hnx
        clear hnx
        have hs9 := hs.put .exhausted (some (.exit 2))
        refine ⟨⟨v, rfl⟩, .done, (some (.exit 2)), by decide, hs.lp.entry, ?_⟩
        have HS9 := Lib.hid hs9
        have ST := Lib.hid (SZ.out.trans (hs9.lp.below.mono (by omega)))
        have HT := Lib.hid (HZ.out.step hs9.lp.below (by have := HZ0.out; omega))
        have GT := Lib.hid (GZ.out.below hs9.lp.below hq7)
        have MT9 := Lib.hid hs9.lp.mark
        have hD9 : Z.heap.size < (W.putObj (Z.heap.size + 1) (.loop (C .exhausted (some (.exit 2))))).heap.size := by have := hs9.lp.size; omega
        have hT8 := hs9.at_.lt
        have hT9 := hs9.cnt.lt
        have hT10 := hs9.left.lt
        have hT7 := GT.out.lt
        clear hs hs9
        generalize W.putObj _ _ = T at HS9 ST HT GT MT9 hD9 hT8 hT9 hT10 hT7 ⊢
        obtain ⟨D9, hD9e⟩ : ∃ D, Z.heap.size = D := ⟨_, rfl⟩
        have hD9w : w.heap.size ≤ D9 := by have := HZ.out.all.size; omega
        rw [hD9e] at MT9 hD9 ⊢
        obtain ⟨t0, t1, t2, t3, t4, t5⟩ := HS9.out.cells
        have b0 : T.cell? ⟨w.heap.size, 0, none⟩ = some (.slice A n c) := HT.out.b.cell 0
        have g7 := GT.out.cell 0
        obtain ⟨A', hA', hsl⟩ := cut_from (c := c) byteP (HR.out.below HT.out.all) (p : Int) (k := p) rfl hp hnc
        have HA := Lib.hid hA'
        clear hA'
        simp only [Behind]
        gi_wp2_with fail
        refine ⟨trivial, fun h => (by cases h), ?_⟩
        refine (callsIn_wide.2 (r_Next_any A' (n - p) (c - p) (l.drop p) _ w.heap.size (by exact HA.out) (by exact HT.out.all.size) (by omega) (by omega))).mono ?_
        rw [HNX.out]
        rintro e V ⟨v2', rfl, ho2, hbV⟩
        obtain ⟨Av2, cv2, rfl, _, _, _⟩ := ho2.form
        clear ho2
        unfold recCells
        have hTV := hbV.size
        have hV := Lib.hid (hbV.alloc hTV (.cells #[.int .i64 (r.field : Int), .int .i64 (r.kind : Int), .int .u64 (r.u : Int), .slice Av2 r.b.length cv2] 36))
        clear hsl HA t0 t1 t2 t3 t4 t5 b0 g7
        have RV := Lib.hid (HS9.out.cells)
        have C1 := Lib.hid (HT.out.step hbV HT.out.below.size)
        have C2 := Lib.hid (ST.out.trans (hbV.mono ST.out.size))
        have C3 := Lib.hid ((hbV.block D9 hD9).trans MT9.out)
        have hD9V : D9 < V.heap.size := by omega
        have v0 : V.cell? ⟨g8, 0, none⟩ = some (.int .i64 (p : Int)) := (hbV.cell (p := ⟨g8, 0, none⟩) hT8).trans RV.out.1
        have v2 : V.cell? ⟨g8 + 1 + 1, 0, none⟩ = some (.bool true) := (hbV.cell (p := ⟨g8 + 1 + 1, 0, none⟩) hT10).trans RV.out.2.2.1
        have b0 : V.cell? ⟨w.heap.size, 0, none⟩ = some (.slice A n c) := C1.out.b.cell 0
        have g7 : V.cell? ⟨q0, 0, none⟩ = some (.int .i64 0) := (hbV.cell (p := ⟨q0, 0, none⟩) hT7).trans (GT.out.cell 0)
        have hV8 : g8 < V.heap.size := by omega
        have hV10 : g8 + 1 + 1 < V.heap.size := by omega
        have hVb : w.heap.size < V.heap.size := C1.out.b.lt
        have hV7 : q0 < V.heap.size := by omega
        clear hbV
        gi_wp2
        exact ⟨D9, _, _, _, _, _, _, _, _, _, _, _, _, _, _, _, _, _, _, _, _, _, _, _, _, _, _, _, _, _, _, _, _, _, _, _, _, _, _, _, _, _, _, _, _, _, _, _, _, _, _, _, _, _, _, _, _, _, _, _, _, _, _, _, _, _, _, _, _, _, _, _, _, _, _, _, _, _, _, _, _, _, _, _, _, _, _, _, _, _, _, _, _, rfl, ⟨(C2.out.alloc C2.out.size _).alloc (by have := C2.out.size; simp; omega) _, C1.out.step (((Below.refl V.heap.size V).alloc (Nat.le_refl _) _).alloc (by simp) _) C1.out.below.size, blk2 V _ _ _, by have := C2.out.size; omega⟩, ((((Below.refl V.heap.size V).alloc (Nat.le_refl _) _).alloc (by simp) _).block D9 hD9V).trans C3.out, hD9w, by simp; omega⟩
  · rintro a1 X1 ⟨D1, q1, u8, u9, u10, u11, u12, u13, u14, u15, u16, u17, u18, u19, u20, u21, u22, u23, u24, u25, u26, u27, u28, u29, u30, u31, u32, u33, u34, u35, u36, u37, u38, u39, u40, u41, u42, u43, u44, u45, u46, u47, u48, u49, u50, u51, u52, u53, u54, u55, u56, u57, u58, u59, u60, u61, u62, u63, u64, u65, u66, u67, u68, u69, u70, u71, u72, u73, u74, u75, u76, u77, u78, u79, u80, u81, u82, u83, u84, u85, u86, u87, u88, u89, u90, u91, u92, u93, u94, u95, u96, u97, u98, rfl, ⟨s1, hd1, rd1, hq1'⟩, md1, hD1w, hD1x⟩
    clear hq0' S0 HX0 G0
    have S1 := Lib.hid s1
    have HX1 := Lib.hid hd1
    have G1 := Lib.hid rd1
    have MD1 := Lib.hid md1
    clear s1 hd1 rd1 md1
    refine rounds_cut (RSt2 w W0 W2 A n c st gb) ?_ ?_
    have g7 : X1.cell? ⟨q1, 0, none⟩ = some (.int .i64 1) := G1.out.cell 0
    have hq7 := G1.out.lt
    gi_wp2
    have SZ : Hid (Below W2.heap.size W2 (((X1.alloc (.cells #[.int .i64 0] 3)).alloc (.cells #[.int .i64 0] 3)).alloc (.cells #[.bool false] 4))) := Lib.hid ((((S1.out.alloc S1.out.size _).alloc (by have := S1.out.size; simp; omega) _).alloc (by have := S1.out.size; simp; omega) _))
    have BZ : Hid (Below X1.heap.size X1 (((X1.alloc (.cells #[.int .i64 0] 3)).alloc (.cells #[.int .i64 0] 3)).alloc (.cells #[.bool false] 4))) := Lib.hid ((((Below.refl _ _).alloc (Nat.le_refl _) _).alloc (by simp) _).alloc (by simp; omega) _)
    have hzz : (((X1.alloc (.cells #[.int .i64 0] 3)).alloc (.cells #[.int .i64 0] 3)).alloc (.cells #[.bool false] 4)).heap.size = X1.heap.size + 3 := by simp
    have Z8 : Hid (Blk (((X1.alloc (.cells #[.int .i64 0] 3)).alloc (.cells #[.int .i64 0] 3)).alloc (.cells #[.bool false] 4)) X1.heap.size 3 #[.int .i64 ((0 : Nat) : Int)]) := Lib.hid (((Blk.new X1 _ _).alloc _).alloc _)
    have Z9 : Hid (Blk (((X1.alloc (.cells #[.int .i64 0] 3)).alloc (.cells #[.int .i64 0] 3)).alloc (.cells #[.bool false] 4)) (X1.heap.size + 1) 3 #[.int .i64 ((0 : Nat) : Int)]) := Lib.hid ((blk2 X1 _ _ _).alloc _)
    have Z10 : Hid (Blk (((X1.alloc (.cells #[.int .i64 0] 3)).alloc (.cells #[.int .i64 0] 3)).alloc (.cells #[.bool false] 4)) (X1.heap.size + 1 + 1) 4 #[.bool false]) := Lib.hid (by
      have h := blk2 (X1.alloc (.cells #[.int .i64 0] 3)) (.cells #[.int .i64 0] 3) 4 #[.bool false]
      rwa [show (X1.alloc (.cells #[.int .i64 0] 3)).heap.size = X1.heap.size + 1 by simp] at h)
    have HZ := Lib.hid (HX1.out.step BZ.out HX1.out.below.size)
    have GZ := Lib.hid (G1.out.below BZ.out G1.out.lt)
    have hxs : W2.heap.size ≤ X1.heap.size := S1.out.size
    have MD := Lib.hid ((BZ.out.block D1 (by omega)).trans MD1.out)
    have hD8 : D1 < X1.heap.size := hD1x
    clear g7
    generalize ((X1.alloc _).alloc _).alloc _ = Z at SZ BZ hzz Z8 Z9 Z10 HZ GZ MD ⊢
    generalize X1.heap.size = g8 at *
    have HZZ := Lib.hid hzz
    have hzl : g8 ≤ Z.heap.size := by omega
    clear hzz
    refine range_rec (gf := 31) (lb := #[.pointer (some ⟨gb, 0, none⟩)]) rfl (enters_of Tryd.func31 (by kernel_rfl) rfl) (fun fn C hC => ?_)
    have HC := Lib.hid hC
    clear hC
    refine (recs_in (N - 1) (Z.heap.size + 1) gb n n W2.heap.size (some ⟨gb + 1, 0, none⟩) l ea (fun p W => JGo g8 Z C p W) (fun W => JLeft g8 n Z C W) (by omega) (Nat.le_refl _) ?_ ?_ ?_ _ ?_).mono ?_
    · rintro p W ⟨k, hk, hs⟩
      have hbW : Below W2.heap.size W2 W := SZ.out.trans (hs.lp.below.mono (by omega))
      exact ⟨HE.out.below (HZ.out.all.trans (hs.lp.below.mono (by have := HZ.out.all.size; have := HZ0.out; omega))) h8, (hbW.cell (p := ⟨gb, 0, none⟩) (by simp; omega)).trans (HBX.out.cell 0), HRC.out.below hbW, hbW.size⟩
    · rintro p W W' ⟨k, hk, hs⟩ hb
      exact ⟨k, hk, hs.step hb hs.lp.size⟩
    · rintro p r k v W W' ⟨cnt, hcp, hs⟩ hp hx hb ho
      have hs' := hs.step hb hs.lp.size
      have hsW : Z.heap.size + 2 ≤ W.heap.size := hs.lp.size
      have hsW' : W.heap.size ≤ W'.heap.size := hb.size
      refine yield_rec HC.out hs'.lp.entry rfl ?_
      have HS := Lib.hid hs'
      have HXX := Lib.hid hx
      clear hs hs' hb hx
      unfold recCells
      obtain ⟨Av, cv, rfl, _, _, _⟩ := ho.form
      have HO := Lib.hid ho
      clear ho
      gi_wp2
      have hs2 := HS.out.step ((Below.refl W'.heap.size W').alloc (Nat.le_refl _) (.cells #[.int .i64 (r.field : Int), .int .i64 (r.kind : Int), .int .u64 (r.u : Int), .slice Av r.b.length cv] 29)) (by omega)
      refine ⟨hs2.lp.entry, ?_⟩
      have hs3 := hs2.put .busy none
      have hbk : Blk ((W'.alloc (.cells #[.int .i64 (r.field : Int), .int .i64 (r.kind : Int), .int .u64 (r.u : Int), .slice Av r.b.length cv] 29)).putObj (Z.heap.size + 1) (.loop (C .busy none))) W'.heap.size 29 #[.int .i64 (r.field : Int), .int .i64 (r.kind : Int), .int .u64 (r.u : Int), .slice Av r.b.length cv] := (World.putObj_heap_other (by omega)).trans (Blk.new W' 29 _)
      have ho3 := (HO.out.alloc (.cells #[.int .i64 (r.field : Int), .int .i64 (r.kind : Int), .int .u64 (r.u : Int), .slice Av r.b.length cv] 29)).grown (grownBy_putObj' _ (Z.heap.size + 1) (.loop (C .busy none))) (far_own HO.out (by omega))
      clear hs2 HO HS
      generalize (W'.alloc _).putObj _ _ = U at hs3 hbk ho3 ⊢
      generalize W'.heap.size = gr at *
      have hbU := hs3.lp.below
      have HU := Lib.hid (HZ.out.step hbU (by have := HZ0.out; omega))
      have b0 : U.cell? ⟨w.heap.size, 0, none⟩ = some (.slice A n c) := HU.out.b.cell 0
      obtain ⟨e0, e1, e2, e3, e4, e5⟩ := hs3.cells
      have HS3 := Lib.hid hs3
      have HBK := Lib.hid hbk
      have HRV := Lib.hid ho3.rd
      have hgrU := hbk.lt
      have hUz := hs3.lp.size
      obtain ⟨A', hA', hsl⟩ := cut_from (c := c) byteP (HR.out.below HU.out.all) (p : Int) (k := p) rfl (Nat.le_of_lt hp) hnc
      have HA := Lib.hid hA'
      clear hs3 hbk ho3 hA' hbU
      gi_wp2_with fail
      refine ⟨trivial, fun h => (by cases h), ?_⟩
      refine (CallsIn.inRound _ (callsIn_wide.2 (r_Next_any A' (n - p) (c - p) (l.drop p) _ w.heap.size (by exact HA.out) (by exact HU.out.all.size) (by omega) (by omega)))).mono ?_
      rw [HXX.out]
      rintro e V ⟨v2, rfl, ho2, hbV⟩
      obtain ⟨Av2, cv2, rfl, _, _, _⟩ := ho2.form
      have HS4 := Lib.hid (HS3.out.step hbV hUz)
      have HV := Lib.hid (HU.out.step hbV HU.out.below.size)
      have hbk4 := HBK.out.below hbV hgrU
      have HRV4 := Lib.hid (HRV.out.below hbV)
      have HR2 := Lib.hid ho2.rd
      have hUV := hbV.size
      have hgrV : gr < V.heap.size := by omega
      unfold recCells
      clear e0 e1 e2 e3 e4 e5 b0 HS3 HBK HRV hbV ho2 hsl HA
      have r0 : V.cell? ⟨gr, 0, none⟩ = some (.int .i64 (r.field : Int)) := hbk4.cell 0
      have r1 : V.cell? ⟨gr, 1, none⟩ = some (.int .i64 (r.kind : Int)) := hbk4.cell 1
      have r2 : V.cell? ⟨gr, 2, none⟩ = some (.int .u64 (r.u : Int)) := hbk4.cell 2
      have r3 : V.cell? ⟨gr, 3, none⟩ = some (.slice Av r.b.length cv) := hbk4.cell 3
      have b0 : V.cell? ⟨w.heap.size, 0, none⟩ = some (.slice A n c) := HV.out.b.cell 0
      obtain ⟨e0, e1, e2, e3, e4, e5⟩ := HS4.out.cells
      have hwV : w.heap.size < V.heap.size := HV.out.b.lt
      have h8V : g8 < V.heap.size := HS4.out.at_.lt
      have hpb : ¬ (n : Int) ≤ (p : Int) := by omega
      have hpp : ((p : Int) != (p : Int)) = false := by simp
      clear hbk4
      gi_wp2_with fail
      refine ⟨trivial, fun h => (by cases h), ?_⟩
      refine (CallsIn.inRound _ (callsIn_wide.2 (is_any r.field r.kind r.u Av Av2 r.b.length cv r.b.length cv2 r.b _ U.heap.size V.heap.size (by exact HRV4.out.alloc hUV _) (by exact HR2.out.alloc (Nat.le_refl _) _) (by simp; omega) (by simp)))).mono ?_
      rintro e Y ⟨rfl, hbY⟩
      have hbVY : Below V.heap.size V Y := ((Below.refl V.heap.size V).alloc (Nat.le_refl _) _).trans (hbY.mono (by simp))
      have HS5 := Lib.hid (HS4.out.step hbVY (by omega))
      have HY := Lib.hid (HV.out.step hbVY HV.out.below.size)
      have GY := Lib.hid (GZ.out.below HS5.out.lp.below hq7)
      clear hbY hbVY r0 r1 r2 r3 b0 e0 e1 e2 e3 e4 e5 HS4 HV HRV4 HR2 hgrV hwV h8V hpb hpp
      have hkn := next_le HXX.out
      rw [List.length_drop, HR.out.len] at hkn
      obtain ⟨hk1, hk2⟩ := hkn
      obtain ⟨e0, e1, e2, e3, e4, e5⟩ := HS5.out.cells
      have g7 : Y.cell? ⟨q1, 0, none⟩ = some (.int .i64 1) := GY.out.cell 0
      have s0 : Y.cell? ⟨w.heap.size + 1, 0, none⟩ = some (.int .i64 st) := HY.out.stop.cell 0
      have m0 : g8 < Y.heap.size := HS5.out.at_.lt
      have m1 : g8 + 1 < Y.heap.size := HS5.out.cnt.lt
      have m2 : g8 + 1 + 1 < Y.heap.size := HS5.out.left.lt
      have m3 : q1 < Y.heap.size := GY.out.lt
      have n1 : ¬ g8 = q1 := by omega
      have n2 : ¬ q1 = g8 := by omega
      have n3 : ¬ g8 + 1 = q1 := by omega
      have n4 : ¬ q1 = g8 + 1 := by omega
      have n5 : ¬ g8 = w.heap.size + 1 := by omega
      have n6 : ¬ w.heap.size + 1 = g8 := by omega
      have n7 : ¬ g8 = w.heap.size := by omega
      have n8 : ¬ w.heap.size = g8 := by omega
      have HS6 := Lib.hid ((HS5.out.setAt (p + k) ((p : Int) + (k : Int)) (by omega)).setCnt (cnt + 1) ((cnt : Int) + 1) (by omega))
      gi_wp2
      exact ⟨HS6.out.lp.entry, .inl ⟨rfl, cnt + 1, by omega, HS6.out.put .ready none⟩⟩
    · exact ⟨0, Nat.le_refl _, Lp.start g8 Z C hzl, HZZ.out, (Z8.out.alloc _).alloc _, (Z9.out.alloc _).alloc _, (Z10.out.alloc _).alloc _⟩
    · rintro e W ⟨⟨v, rfl⟩, ⟨p, hp, ⟨k, hk, hs⟩, hend⟩ | ⟨p, k, hp, hs⟩⟩
      · rcases hnx : next (l.drop p) with x | ⟨r, m⟩
        · have hx1 := nextD_pos (d := 32) hnx
          have HNX := Lib.hid hnx
          clear hnx hend
          have hs9 := hs.put .exhausted none
          refine ⟨⟨v, rfl⟩, .ready, none, by decide, hs.lp.entry, ?_⟩
          have HS9 := Lib.hid hs9
          have ST := Lib.hid (SZ.out.trans (hs9.lp.below.mono (by omega)))
          have HT := Lib.hid (HZ.out.step hs9.lp.below (by have := HZ0.out; omega))
          have GT := Lib.hid (GZ.out.below hs9.lp.below hq7)
          have MT9 := Lib.hid hs9.lp.mark
          have hD9 : Z.heap.size < (W.putObj (Z.heap.size + 1) (.loop (C .exhausted none))).heap.size := by have := hs9.lp.size; omega
          have MT1 := Lib.hid ((hs9.lp.below.block D1 hD8).trans MD.out)
          have hD1T : D1 < (W.putObj (Z.heap.size + 1) (.loop (C .exhausted none))).heap.size := by have := hs9.lp.size; omega
          have hT8 := hs9.at_.lt
          have hT9 := hs9.cnt.lt
          have hT10 := hs9.left.lt
          have hT7 := GT.out.lt
          clear hs hs9
          generalize W.putObj _ _ = T at HS9 ST HT GT MT9 hD9 hT8 hT9 hT10 hT7 MT1 hD1T ⊢
          obtain ⟨D9, hD9e⟩ : ∃ D, Z.heap.size = D := ⟨_, rfl⟩
          have hD9w : w.heap.size ≤ D9 := by have := HZ.out.all.size; omega
          have hD19 : D1 < D9 := by omega
          rw [hD9e] at MT9 hD9 ⊢
          obtain ⟨t0, t1, t2, t3, t4, t5⟩ := HS9.out.cells
          have b0 : T.cell? ⟨w.heap.size, 0, none⟩ = some (.slice A n c) := HT.out.b.cell 0
          have g7 := GT.out.cell 0
          obtain ⟨A', hA', hsl⟩ := cut_from (c := c) byteP (HR.out.below HT.out.all) (p : Int) (k := p) rfl hp hnc
          have HA := Lib.hid hA'
          clear hA'
          simp only [Behind]
          gi_wp2_with fail
          refine ⟨trivial, fun h => (by cases h), ?_⟩
          refine (callsIn_wide.2 (r_Next_any A' (n - p) (c - p) (l.drop p) _ w.heap.size (by exact HA.out) (by exact HT.out.all.size) (by omega) (by omega))).mono ?_
          rw [HNX.out]
          rintro e V ⟨rfl, hbV⟩
          unfold recCells
          have hTV := hbV.size
          have hV := Lib.hid (hbV.alloc hTV (.cells #[.int .i64 0, .int .i64 0, .int .u64 0, .slice none 0 0] 36))
          clear hsl HA t0 t1 t2 t3 t4 t5 b0 g7
          have RV := Lib.hid (HS9.out.cells)
          have C1 := Lib.hid (HT.out.step hbV HT.out.below.size)
          have C2 := Lib.hid (ST.out.trans (hbV.mono ST.out.size))
          have C3 := Lib.hid ((hbV.block D9 hD9).trans MT9.out)
          have hD9V : D9 < V.heap.size := by omega
          have C4 := Lib.hid ((hbV.block D1 hD1T).trans MT1.out)
          have hD1V : D1 < V.heap.size := by omega
          have v0 : V.cell? ⟨g8, 0, none⟩ = some (.int .i64 (p : Int)) := (hbV.cell (p := ⟨g8, 0, none⟩) hT8).trans RV.out.1
          have v2 : V.cell? ⟨g8 + 1 + 1, 0, none⟩ = some (.bool false) := (hbV.cell (p := ⟨g8 + 1 + 1, 0, none⟩) hT10).trans RV.out.2.2.1
          have b0 : V.cell? ⟨w.heap.size, 0, none⟩ = some (.slice A n c) := C1.out.b.cell 0
          have g7 : V.cell? ⟨q1, 0, none⟩ = some (.int .i64 1) := (hbV.cell (p := ⟨q1, 0, none⟩) hT7).trans (GT.out.cell 0)
          have hV8 : g8 < V.heap.size := by omega
          have hV10 : g8 + 1 + 1 < V.heap.size := by omega
          have hVb : w.heap.size < V.heap.size := C1.out.b.lt
          have hV7 : q1 < V.heap.size := by omega
          clear hbV
          have q2 : ((x : Int) == 0) = false := by simp; omega
          by_cases hpn : p < n
          · have hpn2 : (p : Int) < (n : Int) := by omega
            gi_wp2
            exact ⟨D1, D9, _, _, _, _, _, _, _, _, _, _, _, _, _, _, _, _, _, _, _, _, _, _, _, _, _, _, _, _, _, _, _, _, _, _, _, _, _, _, _, _, _, _, _, _, _, _, _, _, _, _, _, _, _, _, _, _, _, _, _, _, _, _, _, _, _, _, _, _, _, _, _, _, _, _, _, _, _, _, _, _, _, _, _, _, _, _, _, _, _, _, _, _, rfl, ⟨(C2.out.alloc C2.out.size _).alloc (by have := C2.out.size; simp; omega) _, C1.out.step (((Below.refl V.heap.size V).alloc (Nat.le_refl _) _).alloc (by simp) _) C1.out.below.size, blk2 V _ _ _, by have := C2.out.size; omega⟩, ((((Below.refl V.heap.size V).alloc (Nat.le_refl _) _).alloc (by simp) _).block D1 hD1V).trans C4.out, ((((Below.refl V.heap.size V).alloc (Nat.le_refl _) _).alloc (by simp) _).block D9 hD9V).trans C3.out, hD1w, hD19, by simp; omega⟩
          have hpn2 : ¬ (p : Int) < (n : Int) := by omega
          gi_wp2
          exact ⟨D1, D9, _, _, _, _, _, _, _, _, _, _, _, _, _, _, _, _, _, _, _, _, _, _, _, _, _, _, _, _, _, _, _, _, _, _, _, _, _, _, _, _, _, _, _, _, _, _, _, _, _, _, _, _, _, _, _, _, _, _, _, _, _, _, _, _, _, _, _, _, _, _, _, _, _, _, _, _, _, _, _, _, _, _, _, _, _, _, _, _, _, _, _, _, rfl, ⟨(C2.out.alloc C2.out.size _).alloc (by have := C2.out.size; simp; omega) _, C1.out.step (((Below.refl V.heap.size V).alloc (Nat.le_refl _) _).alloc (by simp) _) C1.out.below.size, blk2 V _ _ _, by have := C2.out.size; omega⟩, ((((Below.refl V.heap.size V).alloc (Nat.le_refl _) _).alloc (by simp) _).block D1 hD1V).trans C4.out, ((((Below.refl V.heap.size V).alloc (Nat.le_refl _) _).alloc (by simp) _).block D9 hD9V).trans C3.out, hD1w, hD19, by simp; omega⟩
        · have hpe : p = n := by rcases hend with h | ⟨k', h⟩; exact h; rw [hnx] at h; cases h
          have HPE := Lib.hid hpe
          have HNX := Lib.hid hnx
          clear hnx hend hpe
          have hs9 := hs.put .exhausted none
          refine ⟨⟨v, rfl⟩, .ready, none, by decide, hs.lp.entry, ?_⟩
          have HS9 := Lib.hid hs9
          have ST := Lib.hid (SZ.out.trans (hs9.lp.below.mono (by omega)))
          have HT := Lib.hid (HZ.out.step hs9.lp.below (by have := HZ0.out; omega))
          have GT := Lib.hid (GZ.out.below hs9.lp.below hq7)
          have MT9 := Lib.hid hs9.lp.mark
          have hD9 : Z.heap.size < (W.putObj (Z.heap.size + 1) (.loop (C .exhausted none))).heap.size := by have := hs9.lp.size; omega
          have MT1 := Lib.hid ((hs9.lp.below.block D1 hD8).trans MD.out)
          have hD1T : D1 < (W.putObj (Z.heap.size + 1) (.loop (C .exhausted none))).heap.size := by have := hs9.lp.size; omega
          have hT8 := hs9.at_.lt
          have hT9 := hs9.cnt.lt
          have hT10 := hs9.left.lt
          have hT7 := GT.out.lt
          clear hs hs9
          generalize W.putObj _ _ = T at HS9 ST HT GT MT9 hD9 hT8 hT9 hT10 hT7 MT1 hD1T ⊢
          obtain ⟨D9, hD9e⟩ : ∃ D, Z.heap.size = D := ⟨_, rfl⟩
          have hD9w : w.heap.size ≤ D9 := by have := HZ.out.all.size; omega
          have hD19 : D1 < D9 := by omega
          rw [hD9e] at MT9 hD9 ⊢
          obtain ⟨t0, t1, t2, t3, t4, t5⟩ := HS9.out.cells
          have b0 : T.cell? ⟨w.heap.size, 0, none⟩ = some (.slice A n c) := HT.out.b.cell 0
          have g7 := GT.out.cell 0
          obtain ⟨A', hA', hsl⟩ := cut_from (c := c) byteP (HR.out.below HT.out.all) (p : Int) (k := p) rfl hp hnc
          have HA := Lib.hid hA'
          clear hA'
          simp only [Behind]
          gi_wp2_with fail
          refine ⟨trivial, fun h => (by cases h), ?_⟩
          refine (callsIn_wide.2 (r_Next_any A' (n - p) (c - p) (l.drop p) _ w.heap.size (by exact HA.out) (by exact HT.out.all.size) (by omega) (by omega))).mono ?_
          rw [HNX.out]
          rintro e V ⟨v2', rfl, ho2, hbV⟩
          obtain ⟨Av2, cv2, rfl, _, _, _⟩ := ho2.form
          clear ho2
          unfold recCells
          have hTV := hbV.size
          have hV := Lib.hid (hbV.alloc hTV (.cells #[.int .i64 (r.field : Int), .int .i64 (r.kind : Int), .int .u64 (r.u : Int), .slice Av2 r.b.length cv2] 36))
          clear hsl HA t0 t1 t2 t3 t4 t5 b0 g7
          have RV := Lib.hid (HS9.out.cells)
          have C1 := Lib.hid (HT.out.step hbV HT.out.below.size)
          have C2 := Lib.hid (ST.out.trans (hbV.mono ST.out.size))
          have C3 := Lib.hid ((hbV.block D9 hD9).trans MT9.out)
          have hD9V : D9 < V.heap.size := by omega
          have C4 := Lib.hid ((hbV.block D1 hD1T).trans MT1.out)
          have hD1V : D1 < V.heap.size := by omega
          have v0 : V.cell? ⟨g8, 0, none⟩ = some (.int .i64 (p : Int)) := (hbV.cell (p := ⟨g8, 0, none⟩) hT8).trans RV.out.1
          have v2 : V.cell? ⟨g8 + 1 + 1, 0, none⟩ = some (.bool false) := (hbV.cell (p := ⟨g8 + 1 + 1, 0, none⟩) hT10).trans RV.out.2.2.1
          have b0 : V.cell? ⟨w.heap.size, 0, none⟩ = some (.slice A n c) := C1.out.b.cell 0
          have g7 : V.cell? ⟨q1, 0, none⟩ = some (.int .i64 1) := (hbV.cell (p := ⟨q1, 0, none⟩) hT7).trans (GT.out.cell 0)
          have hV8 : g8 < V.heap.size := by omega
          have hV10 : g8 + 1 + 1 < V.heap.size := by omega
          have hVb : w.heap.size < V.heap.size := C1.out.b.lt
          have hV7 : q1 < V.heap.size := by omega
          clear hbV
          have hpn2 : ¬ (p : Int) < (n : Int) := by have := HPE.out; omega
          gi_wp2
          exact ⟨D1, D9, _, _, _, _, _, _, _, _, _, _, _, _, _, _, _, _, _, _, _, _, _, _, _, _, _, _, _, _, _, _, _, _, _, _, _, _, _, _, _, _, _, _, _, _, _, _, _, _, _, _, _, _, _, _, _, _, _, _, _, _, _, _, _, _, _, _, _, _, _, _, _, _, _, _, _, _, _, _, _, _, _, _, _, _, _, _, _, _, _, _, _, _, rfl, ⟨(C2.out.alloc C2.out.size _).alloc (by have := C2.out.size; simp; omega) _, C1.out.step (((Below.refl V.heap.size V).alloc (Nat.le_refl _) _).alloc (by simp) _) C1.out.below.size, blk2 V _ _ _, by have := C2.out.size; omega⟩, ((((Below.refl V.heap.size V).alloc (Nat.le_refl _) _).alloc (by simp) _).block D1 hD1V).trans C4.out, ((((Below.refl V.heap.size V).alloc (Nat.le_refl _) _).alloc (by simp) _).block D9 hD9V).trans C3.out, hD1w, hD19, by simp; omega⟩
      · rcases hnx : next (l.drop p) with x | ⟨r, m⟩
        · have HNX := Lib.hid hnx
          clear hnx
          have hs9 := hs.put .exhausted (some (.exit 2))
          refine ⟨⟨v, rfl⟩, .done, (some (.exit 2)), by decide, hs.lp.entry, ?_⟩
          have HS9 := Lib.hid hs9
          have ST := Lib.hid (SZ.out.trans (hs9.lp.below.mono (by omega)))
          have HT := Lib.hid (HZ.out.step hs9.lp.below (by have := HZ0.out; omega))
          have GT := Lib.hid (GZ.out.below hs9.lp.below hq7)
          have MT9 := Lib.hid hs9.lp.mark
          have hD9 : Z.heap.size < (W.putObj (Z.heap.size + 1) (.loop (C .exhausted (some (.exit 2))))).heap.size := by have := hs9.lp.size; omega
          have MT1 := Lib.hid ((hs9.lp.below.block D1 hD8).trans MD.out)
          have hD1T : D1 < (W.putObj (Z.heap.size + 1) (.loop (C .exhausted (some (.exit 2))))).heap.size := by have := hs9.lp.size; omega
          have hT8 := hs9.at_.lt
          have hT9 := hs9.cnt.lt
          have hT10 := hs9.left.lt
          have hT7 := GT.out.lt
          clear hs hs9
          generalize W.putObj _ _ = T at HS9 ST HT GT MT9 hD9 hT8 hT9 hT10 hT7 MT1 hD1T ⊢
          obtain ⟨D9, hD9e⟩ : ∃ D, Z.heap.size = D := ⟨_, rfl⟩
          have hD9w : w.heap.size ≤ D9 := by have := HZ.out.all.size; omega
          have hD19 : D1 < D9 := by omega
          rw [hD9e] at MT9 hD9 ⊢
          obtain ⟨t0, t1, t2, t3, t4, t5⟩ := HS9.out.cells
          have b0 : T.cell? ⟨w.heap.size, 0, none⟩ = some (.slice A n c) := HT.out.b.cell 0
          have g7 := GT.out.cell 0
          obtain ⟨A', hA', hsl⟩ := cut_from (c := c) byteP (HR.out.below HT.out.all) (p : Int) (k := p) rfl hp hnc
          have HA := Lib.hid hA'
          clear hA'
          simp only [Behind]
          gi_wp2_with fail
          refine ⟨trivial, fun h => (by cases h), ?_⟩
          refine (callsIn_wide.2 (r_Next_any A' (n - p) (c - p) (l.drop p) _ w.heap.size (by exact HA.out) (by exact HT.out.all.size) (by omega) (by omega))).mono ?_
          rw [HNX.out]
          rintro e V ⟨rfl, hbV⟩
          unfold recCells
          have hTV := hbV.size
          have hV := Lib.hid (hbV.alloc hTV (.cells #[.int .i64 0, .int .i64 0, .int .u64 0, .slice none 0 0] 36))
          clear hsl HA t0 t1 t2 t3 t4 t5 b0 g7
          have RV := Lib.hid (HS9.out.cells)
          have C1 := Lib.hid (HT.out.step hbV HT.out.below.size)
          have C2 := Lib.hid (ST.out.trans (hbV.mono ST.out.size))
          have C3 := Lib.hid ((hbV.block D9 hD9).trans MT9.out)
          have hD9V : D9 < V.heap.size := by omega
          have C4 := Lib.hid ((hbV.block D1 hD1T).trans MT1.out)
          have hD1V : D1 < V.heap.size := by omega
          have v0 : V.cell? ⟨g8, 0, none⟩ = some (.int .i64 (p : Int)) := (hbV.cell (p := ⟨g8, 0, none⟩) hT8).trans RV.out.1
          have v2 : V.cell? ⟨g8 + 1 + 1, 0, none⟩ = some (.bool true) := (hbV.cell (p := ⟨g8 + 1 + 1, 0, none⟩) hT10).trans RV.out.2.2.1
          have b0 : V.cell? ⟨w.heap.size, 0, none⟩ = some (.slice A n c) := C1.out.b.cell 0
          have g7 : V.cell? ⟨q1, 0, none⟩ = some (.int .i64 1) := (hbV.cell (p := ⟨q1, 0, none⟩) hT7).trans (GT.out.cell 0)
          have hV8 : g8 < V.heap.size := by omega
          have hV10 : g8 + 1 + 1 < V.heap.size := by omega
          have hVb : w.heap.size < V.heap.size := C1.out.b.lt
          have hV7 : q1 < V.heap.size := by omega
          clear hbV
          gi_wp2
          exact ⟨D1, D9, _, _, _, _, _, _, _, _, _, _, _, _, _, _, _, _, _, _, _, _, _, _, _, _, _, _, _, _, _, _, _, _, _, _, _, _, _, _, _, _, _, _, _, _, _, _, _, _, _, _, _, _, _, _, _, _, _, _, _, _, _, _, _, _, _, _, _, _, _, _, _, _, _, _, _, _, _, _, _, _, _, _, _, _, _, _, _, _, _, _, _, _, rfl, ⟨(C2.out.alloc C2.out.size _).alloc (by have := C2.out.size; simp; omega) _, C1.out.step (((Below.refl V.heap.size V).alloc (Nat.le_refl _) _).alloc (by simp) _) C1.out.below.size, blk2 V _ _ _, by have := C2.out.size; omega⟩, ((((Below.refl V.heap.size V).alloc (Nat.le_refl _) _).alloc (by simp) _).block D1 hD1V).trans C4.out, ((((Below.refl V.heap.size V).alloc (Nat.le_refl _) _).alloc (by simp) _).block D9 hD9V).trans C3.out, hD1w, hD19, by simp; omega⟩
        · have HNX := Lib.hid hnx
          clear hnx
          have hs9 := hs.put .exhausted (some (.exit 2))
          refine ⟨⟨v, rfl⟩, .done, (some (.exit 2)), by decide, hs.lp.entry, ?_⟩
          have HS9 := Lib.hid hs9
          have ST := Lib.hid (SZ.out.trans (hs9.lp.below.mono (by omega)))
          have HT := Lib.hid (HZ.out.step hs9.lp.below (by have := HZ0.out; omega))
          have GT := Lib.hid (GZ.out.below hs9.lp.below hq7)
          have MT9 := Lib.hid hs9.lp.mark
          have hD9 : Z.heap.size < (W.putObj (Z.heap.size + 1) (.loop (C .exhausted (some (.exit 2))))).heap.size := by have := hs9.lp.size; omega
          have MT1 := Lib.hid ((hs9.lp.below.block D1 hD8).trans MD.out)
          have hD1T : D1 < (W.putObj (Z.heap.size + 1) (.loop (C .exhausted (some (.exit 2))))).heap.size := by have := hs9.lp.size; omega
          have hT8 := hs9.at_.lt
          have hT9 := hs9.cnt.lt
          have hT10 := hs9.left.lt
          have hT7 := GT.out.lt
          clear hs hs9
          generalize W.putObj _ _ = T at HS9 ST HT GT MT9 hD9 hT8 hT9 hT10 hT7 MT1 hD1T ⊢
          obtain ⟨D9, hD9e⟩ : ∃ D, Z.heap.size = D := ⟨_, rfl⟩
          have hD9w : w.heap.size ≤ D9 := by have := HZ.out.all.size; omega
          have hD19 : D1 < D9 := by omega
          rw [hD9e] at MT9 hD9 ⊢
          obtain ⟨t0, t1, t2, t3, t4, t5⟩ := HS9.out.cells
          have b0 : T.cell? ⟨w.heap.size, 0, none⟩ = some (.slice A n c) := HT.out.b.cell 0
          have g7 := GT.out.cell 0
          obtain ⟨A', hA', hsl⟩ := cut_from (c := c) byteP (HR.out.below HT.out.all) (p : Int) (k := p) rfl hp hnc
          have HA := Lib.hid hA'
          clear hA'
          simp only [Behind]
          gi_wp2_with fail
          refine ⟨trivial, fun h => (by cases h), ?_⟩
          refine (callsIn_wide.2 (r_Next_any A' (n - p) (c - p) (l.drop p) _ w.heap.size (by exact HA.out) (by exact HT.out.all.size) (by omega) (by omega))).mono ?_
          rw [HNX.out]
          rintro e V ⟨v2', rfl, ho2, hbV⟩
          obtain ⟨Av2, cv2, rfl, _, _, _⟩ := ho2.form
          clear ho2
          unfold recCells
          have hTV := hbV.size
          have hV := Lib.hid (hbV.alloc hTV (.cells #[.int .i64 (r.field : Int), .int .i64 (r.kind : Int), .int .u64 (r.u : Int), .slice Av2 r.b.length cv2] 36))
          clear hsl HA t0 t1 t2 t3 t4 t5 b0 g7
          have RV := Lib.hid (HS9.out.cells)
          have C1 := Lib.hid (HT.out.step hbV HT.out.below.size)
          have C2 := Lib.hid (ST.out.trans (hbV.mono ST.out.size))
          have C3 := Lib.hid ((hbV.block D9 hD9).trans MT9.out)
          have hD9V : D9 < V.heap.size := by omega
          have C4 := Lib.hid ((hbV.block D1 hD1T).trans MT1.out)
          have hD1V : D1 < V.heap.size := by omega
          have v0 : V.cell? ⟨g8, 0, none⟩ = some (.int .i64 (p : Int)) := (hbV.cell (p := ⟨g8, 0, none⟩) hT8).trans RV.out.1
          have v2 : V.cell? ⟨g8 + 1 + 1, 0, none⟩ = some (.bool true) := (hbV.cell (p := ⟨g8 + 1 + 1, 0, none⟩) hT10).trans RV.out.2.2.1
          have b0 : V.cell? ⟨w.heap.size, 0, none⟩ = some (.slice A n c) := C1.out.b.cell 0
          have g7 : V.cell? ⟨q1, 0, none⟩ = some (.int .i64 1) := (hbV.cell (p := ⟨q1, 0, none⟩) hT7).trans (GT.out.cell 0)
          have hV8 : g8 < V.heap.size := by omega
          have hV10 : g8 + 1 + 1 < V.heap.size := by omega
          have hVb : w.heap.size < V.heap.size := C1.out.b.lt
          have hV7 : q1 < V.heap.size := by omega
          clear hbV
          gi_wp2
          exact ⟨D1, D9, _, _, _, _, _, _, _, _, _, _, _, _, _, _, _, _, _, _, _, _, _, _, _, _, _, _, _, _, _, _, _, _, _, _, _, _, _, _, _, _, _, _, _, _, _, _, _, _, _, _, _, _, _, _, _, _, _, _, _, _, _, _, _, _, _, _, _, _, _, _, _, _, _, _, _, _, _, _, _, _, _, _, _, _, _, _, _, _, _, _, _, _, rfl, ⟨(C2.out.alloc C2.out.size _).alloc (by have := C2.out.size; simp; omega) _, C1.out.step (((Below.refl V.heap.size V).alloc (Nat.le_refl _) _).alloc (by simp) _) C1.out.below.size, blk2 V _ _ _, by have := C2.out.size; omega⟩, ((((Below.refl V.heap.size V).alloc (Nat.le_refl _) _).alloc (by simp) _).block D1 hD1V).trans C4.out, ((((Below.refl V.heap.size V).alloc (Nat.le_refl _) _).alloc (by simp) _).block D9 hD9V).trans C3.out, hD1w, hD19, by simp; omega⟩
    · rintro a2 X2 ⟨D1, D2, q2, u8, u9, u10, u11, u12, u13, u14, u15, u16, u17, u18, u19, u20, u21, u22, u23, u24, u25, u26, u27, u28, u29, u30, u31, u32, u33, u34, u35, u36, u37, u38, u39, u40, u41, u42, u43, u44, u45, u46, u47, u48, u49, u50, u51, u52, u53, u54, u55, u56, u57, u58, u59, u60, u61, u62, u63, u64, u65, u66, u67, u68, u69, u70, u71, u72, u73, u74, u75, u76, u77, u78, u79, u80, u81, u82, u83, u84, u85, u86, u87, u88, u89, u90, u91, u92, u93, u94, u95, u96, u97, u98, rfl, ⟨s2, hd2, rd2, hq2'⟩, md1, md2, hD1w, hD12, hD2x⟩
      rw [roundsIn_succ]
      have g7 : X2.cell? ⟨q2, 0, none⟩ = some (.int .i64 2) := rd2.cell 0
      have a0 : X2.cell? ⟨w.heap.size + 1 + 1, 0, none⟩ = some (.bool false) := hd2.ans.cell 0
      have a1 := hd2.ans.frozen 0
      have a2 := hd2.ans.lt
      have q2l := rd2.lt
      have HD2 := Lib.hid hd2
      have M1 := Lib.hid md1
      have M2 := Lib.hid md2
      clear s2 hd2 rd2 md1 md2
      gi_wp2
      exact rcs_leave N HD2.out M1.out M2.out hD1w hD12 _ rfl

end Go.Proofs.YtnahkhiomnkbcaaDoor
