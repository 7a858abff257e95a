/-
  StampAlgebra: its walk.
-/
import Derived.Test.YtacmlpgakibdgaaDoorFst
import Derived.Test.YtacmlpgakibdgaaDoorSum
import Derived.LaidEql
import Derived.Deep.DeepCutAuto
import Derived.Deep.RegionHeld3
namespace Go.Proofs.YtacmlpgakibdgaaDoor
open Go.RowKit Go.Own Go.Own.Dig Go.Own.Alg

theorem neq_err (ev : Addr) (W : World) : (binOp .neq 27 (.iface 105 (.pointer (some ev))) (.iface 105 (.pointer (some ev)))).run Tryd.prog W = .ok (.bool false) W := by
  obtain ⟨i, hi⟩ : ∃ i, Tryd.prog.info? 105 = some i := Option.isSome_iff_exists.1 (by kernel_rfl)
  obtain ⟨j, hj⟩ : ∃ j, Tryd.prog.info? 119 = some j := Option.isSome_iff_exists.1 (by kernel_rfl)
  have hc : i.comparable = true := by
    have h : (Tryd.prog.info? 105).map (·.comparable) = some true := by kernel_rfl
    rw [hi] at h
    simpa using h
  simp only [binOp]
  simp [Op.equal, Op.maxDepth, run_equalIn_iface_ptr_same W 9998 ev Tryd.underlying27 Tryd.underlying105 hi hc hj]

set_option maxHeartbeats 400000 in
theorem neg_all (s n : Int) (w : World) :
    Calls Tryd.prog 18 #[.agg #[.int .i64 s, .int .i64 n]] w fun e w' => e = .returned (.agg #[.int .i64 (if okS s n then -s else 0), .int .i64 (if okS s n then -n else 0)]) ∧ Below w.heap.size w w' := by
  cases hv : okS s n
  · have HV := Lib.hid hv; clear hv
    go_enter Tryd.func18, Tryd.ntmps18
    go_wp2_with fail
    refine (validSpan_any s n _).mono ?_
    rw [HV.out]
    rintro e w1 ⟨rfl, rfl⟩
    go_wp2
    refine bodyPost_ret (v := .agg #[.int .i64 0, .int .i64 0]) (by simp [results, Tryd.results18, go_sem]) rfl ⟨rfl, ?_⟩
    exact (((Below.refl _ _).alloc (Nat.le_refl _) _).alloc (by simp) _).alloc (by simp; omega) _
  · have hb := of_decide_eq_true hv
    have := neg_any s n w (by omega) (by omega) (by omega) (by omega)
    rw [hv] at this
    exact this

theorem neg_yes (s n : Int) (w : World) (h : okS s n = true) :
    Calls Tryd.prog 18 #[.agg #[.int .i64 s, .int .i64 n]] w fun e w' => e = .returned (.agg #[.int .i64 (-s), .int .i64 (-n)]) ∧ Below w.heap.size w w' := by
  have := neg_all s n w
  rw [h] at this
  exact this
theorem neg_no (s n : Int) (w : World) (h : okS s n = false) :
    Calls Tryd.prog 18 #[.agg #[.int .i64 s, .int .i64 n]] w fun e w' => e = .returned (.agg #[.int .i64 0, .int .i64 0]) ∧ Below w.heap.size w w' := by
  have := neg_all s n w
  rw [h] at this
  exact this

theorem sum3_any (g : Nat) (x y z : Int × Int) (w : World) (ev : Addr) (he : EnvS w ev) (hr : SpanRow w g [x, y, z]) :
    Calls Tryd.prog 19 #[.slice (some ⟨g, 0, none⟩) 3 3] w fun e w' => e = .returned (resT ev (sumT [x, y, z])) ∧ Below w.heap.size w w' :=
  sum_any g [x, y, z] w ev he hr (by simp) 3
theorem sum2_any (g : Nat) (x y : Int × Int) (w : World) (ev : Addr) (he : EnvS w ev) (hr : SpanRow w g [x, y]) :
    Calls Tryd.prog 19 #[.slice (some ⟨g, 0, none⟩) 2 2] w fun e w' => e = .returned (resT ev (sumT [x, y])) ∧ Below w.heap.size w w' :=
  sum_any g [x, y] w ev he hr (by simp) 2
theorem row3 (w : World) (t : TypeId) (x y z : Int × Int) : SpanRow (w.alloc (.cells #[.int .i64 x.1, .int .i64 x.2, .int .i64 y.1, .int .i64 y.2, .int .i64 z.1, .int .i64 z.2] t)) w.heap.size [x, y, z] := by
  have h := Blk.new w t #[.int .i64 x.1, .int .i64 x.2, .int .i64 y.1, .int .i64 y.2, .int .i64 z.1, .int .i64 z.2]
  refine ⟨h.lt, fun k hk => ?_⟩
  have hk' : k = 0 ∨ k = 1 ∨ k = 2 := by simp at hk; omega
  rcases hk' with rfl | rfl | rfl
  · exact ⟨h.cell 0, h.cell 1⟩
  · exact ⟨h.cell 2, h.cell 3⟩
  · exact ⟨h.cell 4, h.cell 5⟩
theorem row2 (w : World) (t : TypeId) (x y : Int × Int) : SpanRow (w.alloc (.cells #[.int .i64 x.1, .int .i64 x.2, .int .i64 y.1, .int .i64 y.2] t)) w.heap.size [x, y] := by
  have h := Blk.new w t #[.int .i64 x.1, .int .i64 x.2, .int .i64 y.1, .int .i64 y.2]
  refine ⟨h.lt, fun k hk => ?_⟩
  have hk' : k = 0 ∨ k = 1 := by simp at hk; omega
  rcases hk' with rfl | rfl
  · exact ⟨h.cell 0, h.cell 1⟩
  · exact ⟨h.cell 2, h.cell 3⟩
theorem sum_bad (x y : Int × Int) (h : okS x.1 x.2 = false) : sumT [x, y] = none := by
  unfold sumT
  rw [if_neg]
  rintro ⟨ha, _⟩
  simp [h] at ha

/-- What was handed in lies in five boxes. -/
structure AW (w W : World) (a b c d x1 x2 y1 y2 z1 z2 : Int) : Prop where
  below : Below w.heap.size w W
  ga : Blk W w.heap.size 24 #[.int .i64 a, .int .i64 b]
  gb : Blk W (w.heap.size + 1) 24 #[.int .i64 c, .int .i64 d]
  gx : Blk W (w.heap.size + 1 + 1) 32 #[.int .i64 x1, .int .i64 x2]
  gy : Blk W (w.heap.size + 1 + 1 + 1) 32 #[.int .i64 y1, .int .i64 y2]
  gz : Blk W (w.heap.size + 1 + 1 + 1 + 1) 32 #[.int .i64 z1, .int .i64 z2]
section
variable {w W W' : World} {a b c d x1 x2 y1 y2 z1 z2 : Int}
theorem AW.step (p : AW w W a b c d x1 x2 y1 y2 z1 z2) (hb : Below W.heap.size W W') : AW w W' a b c d x1 x2 y1 y2 z1 z2 :=
  ⟨p.below.trans (hb.mono p.below.size), p.ga.below hb p.ga.lt, p.gb.below hb p.gb.lt, p.gx.below hb p.gx.lt, p.gy.below hb p.gy.lt, p.gz.below hb p.gz.lt⟩
theorem AW.alloc (p : AW w W a b c d x1 x2 y1 y2 z1 z2) (o : Obj) : AW w (W.alloc o) a b c d x1 x2 y1 y2 z1 z2 :=
  p.step ((Below.refl _ _).alloc (Nat.le_refl _) o)
theorem AW.drewN (p : AW w W a b c d x1 x2 y1 y2 z1 z2) (n : Nat) : AW w (W.drewN n) a b c d x1 x2 y1 y2 z1 z2 :=
  p.step (below_drewN (Below.refl _ _) n)
theorem AW.far (p : AW w W a b c d x1 x2 y1 y2 z1 z2) {q : Addr} (hq : w.heap.size + 1 + 1 + 1 + 1 < q.block) (v : Value) : AW w (W.setCell q v) a b c d x1 x2 y1 y2 z1 z2 :=
  ⟨p.below.setCell (by omega) v, p.ga.far (by omega) v, p.gb.far (by omega) v, p.gx.far (by omega) v, p.gy.far (by omega) v, p.gz.far (by omega) v⟩
theorem AW.lts (p : AW w W a b c d x1 x2 y1 y2 z1 z2) : w.heap.size < W.heap.size ∧ w.heap.size + 1 < W.heap.size ∧ w.heap.size + 1 + 1 < W.heap.size ∧ w.heap.size + 1 + 1 + 1 < W.heap.size ∧ w.heap.size + 1 + 1 + 1 + 1 < W.heap.size :=
  ⟨p.ga.lt, p.gb.lt, p.gx.lt, p.gy.lt, p.gz.lt⟩
theorem AW.times (p : AW w W a b c d x1 x2 y1 y2 z1 z2) : W.cell? ⟨w.heap.size, 0, none⟩ = some (.int .i64 a) ∧ W.cell? ⟨w.heap.size, 1, none⟩ = some (.int .i64 b) ∧ W.cell? ⟨w.heap.size + 1, 0, none⟩ = some (.int .i64 c) ∧ W.cell? ⟨w.heap.size + 1, 1, none⟩ = some (.int .i64 d) :=
  ⟨p.ga.cell 0, p.ga.cell 1, p.gb.cell 0, p.gb.cell 1⟩
theorem AW.xs (p : AW w W a b c d x1 x2 y1 y2 z1 z2) : W.cell? ⟨w.heap.size + 1 + 1, 0, none⟩ = some (.int .i64 x1) ∧ W.cell? ⟨w.heap.size + 1 + 1, 1, none⟩ = some (.int .i64 x2) := ⟨p.gx.cell 0, p.gx.cell 1⟩
theorem AW.spans (p : AW w W a b c d x1 x2 y1 y2 z1 z2) : W.cell? ⟨w.heap.size + 1 + 1, 0, none⟩ = some (.int .i64 x1) ∧ W.cell? ⟨w.heap.size + 1 + 1, 1, none⟩ = some (.int .i64 x2) ∧ W.cell? ⟨w.heap.size + 1 + 1 + 1, 0, none⟩ = some (.int .i64 y1) ∧ W.cell? ⟨w.heap.size + 1 + 1 + 1, 1, none⟩ = some (.int .i64 y2) ∧ W.cell? ⟨w.heap.size + 1 + 1 + 1 + 1, 0, none⟩ = some (.int .i64 z1) ∧ W.cell? ⟨w.heap.size + 1 + 1 + 1 + 1, 1, none⟩ = some (.int .i64 z2) :=
  ⟨p.gx.cell 0, p.gx.cell 1, p.gy.cell 0, p.gy.cell 1, p.gz.cell 0, p.gz.cell 1⟩
end
theorem new1 (w : World) (o : Obj) (t : TypeId) (cs : Array Value) : Blk ((w.alloc o).alloc (.cells cs t)) (w.heap.size + 1) t cs := by
  have h := Blk.new (w.alloc o) t cs
  rwa [show (w.alloc o).heap.size = w.heap.size + 1 by simp] at h
theorem row_alloc {w : World} {g : Nat} {l : List (Int × Int)} (h : SpanRow w g l) (o : Obj) : SpanRow (w.alloc o) g l := by
  have hb : Below w.heap.size w (w.alloc o) := (Below.refl _ _).alloc (Nat.le_refl _) o
  refine ⟨Nat.lt_of_lt_of_le h.1 hb.size, fun k hk => ?_⟩
  rw [hb.cell (p := ⟨g, k * 2, none⟩) h.1, hb.cell (p := ⟨g, k * 2 + 1, none⟩) h.1]
  exact h.2 k hk
theorem row2z (w : World) (t : TypeId) (x y : Int × Int) (o : Obj) : SpanRow ((w.alloc (.cells #[.int .i64 x.1, .int .i64 x.2, .int .i64 y.1, .int .i64 y.2] t)).alloc o) w.heap.size [x, y] := row_alloc (row2 w t x y) o
theorem row2y (w : World) (o : Obj) (t : TypeId) (x y : Int × Int) : SpanRow ((w.alloc o).alloc (.cells #[.int .i64 x.1, .int .i64 x.2, .int .i64 y.1, .int .i64 y.2] t)) (w.heap.size + 1) [x, y] := by
  have h := row2 (w.alloc o) t x y
  rwa [show (w.alloc o).heap.size = w.heap.size + 1 by simp] at h
theorem aw_start (w : World) (a b c d x1 x2 y1 y2 z1 z2 : Int) :
    AW w (((((w.alloc (.cells #[.int .i64 a, .int .i64 b] 24)).alloc (.cells #[.int .i64 c, .int .i64 d] 24)).alloc (.cells #[.int .i64 x1, .int .i64 x2] 32)).alloc (.cells #[.int .i64 y1, .int .i64 y2] 32)).alloc (.cells #[.int .i64 z1, .int .i64 z2] 32)) a b c d x1 x2 y1 y2 z1 z2 := by
  have h0 := Blk.new w 24 #[.int .i64 a, .int .i64 b]
  have h1 := new1 w (.cells #[.int .i64 a, .int .i64 b] 24) 24 #[.int .i64 c, .int .i64 d]
  have h2 := new1 (w.alloc (.cells #[.int .i64 a, .int .i64 b] 24)) (.cells #[.int .i64 c, .int .i64 d] 24) 32 #[.int .i64 x1, .int .i64 x2]
  have h3 := new1 ((w.alloc (.cells #[.int .i64 a, .int .i64 b] 24)).alloc (.cells #[.int .i64 c, .int .i64 d] 24)) (.cells #[.int .i64 x1, .int .i64 x2] 32) 32 #[.int .i64 y1, .int .i64 y2]
  have h4 := new1 (((w.alloc (.cells #[.int .i64 a, .int .i64 b] 24)).alloc (.cells #[.int .i64 c, .int .i64 d] 24)).alloc (.cells #[.int .i64 x1, .int .i64 x2] 32)) (.cells #[.int .i64 y1, .int .i64 y2] 32) 32 #[.int .i64 z1, .int .i64 z2]
  have e : ∀ (v : World) (o : Obj), (v.alloc o).heap.size = v.heap.size + 1 := fun v o => by simp
  simp only [e] at h1 h2 h3 h4
  refine ⟨?_, (((h0.alloc _).alloc _).alloc _).alloc _, ((h1.alloc _).alloc _).alloc _, (h2.alloc _).alloc _, h3.alloc _, h4⟩
  exact (((((Below.refl _ _).alloc (Nat.le_refl _) _).alloc (by simp) _).alloc (by simp; omega) _).alloc (by simp; omega) _).alloc (by simp; omega) _

/-- What Neg answers, and what a span and that are together. -/
theorem neg_some (x1 x2 : Int) : ∃ m1 m2 : Int, (∀ W, Calls Tryd.prog 18 #[.agg #[.int .i64 x1, .int .i64 x2]] W fun e w' => e = .returned (.agg #[.int .i64 m1, .int .i64 m2]) ∧ Below W.heap.size W w') ∧ (okS x1 x2 = true → sumT [(x1, x2), (m1, m2)] = some (0, 0)) := by
  cases h : okS x1 x2
  · exact ⟨0, 0, fun W => neg_no x1 x2 W h, fun h => by cases h⟩
  · exact ⟨-x1, -x2, fun W => neg_yes x1 x2 W h, fun _ => sum_neg h⟩
theorem res_some (ev : Addr) (x1 x2 m1 m2 : Int) (h : okS x1 x2 = true → sumT [(x1, x2), (m1, m2)] = some (0, 0)) : ∃ (r1 r2 : Int) (re : Value), resT ev (sumT [(x1, x2), (m1, m2)]) = .tuple #[.agg #[.int .i64 r1, .int .i64 r2], re] ∧ (okS x1 x2 = true → r1 = 0 ∧ r2 = 0 ∧ re = .nilIface) := by
  cases hs : sumT [(x1, x2), (m1, m2)] with
  | none => exact ⟨0, 0, _, rfl, fun hk => by rw [h hk] at hs; cases hs⟩
  | some r => exact ⟨r.1, r.2, _, rfl, fun hk => by rw [h hk] at hs; cases hs; exact ⟨rfl, rfl, rfl⟩⟩
/-- .. and the two sums. -/
structure QW (w W : World) (a b c d x1 x2 y1 y2 z1 z2 : Int) (gu gv : Nat) (u1 u2 : Int) : Prop where
  aw : AW w W a b c d x1 x2 y1 y2 z1 z2
  bu : Blk W gu 32 #[.int .i64 u1, .int .i64 u2]
  bv : Blk W gv 32 #[.int .i64 u1, .int .i64 u2]
def QFar (w : World) (gu gv g : Nat) : Prop := w.heap.size + 1 + 1 + 1 + 1 < g ∧ gu < g ∧ gv < g
theorem QFar.succ {w : World} {gu gv g : Nat} (h : QFar w gu gv g) : QFar w gu gv (g + 1) := ⟨by have := h.1; omega, by have := h.2.1; omega, by have := h.2.2; omega⟩
section
variable {w W W' : World} {a b c d x1 x2 y1 y2 z1 z2 u1 u2 : Int} {gu gv : Nat}
theorem QW.step (p : QW w W a b c d x1 x2 y1 y2 z1 z2 gu gv u1 u2) (hb : Below W.heap.size W W') : QW w W' a b c d x1 x2 y1 y2 z1 z2 gu gv u1 u2 :=
  ⟨p.aw.step hb, p.bu.below hb p.bu.lt, p.bv.below hb p.bv.lt⟩
theorem QW.alloc (p : QW w W a b c d x1 x2 y1 y2 z1 z2 gu gv u1 u2) (o : Obj) : QW w (W.alloc o) a b c d x1 x2 y1 y2 z1 z2 gu gv u1 u2 :=
  p.step ((Below.refl _ _).alloc (Nat.le_refl _) o)
theorem QW.xs (p : QW w W a b c d x1 x2 y1 y2 z1 z2 gu gv u1 u2) : W.cell? ⟨w.heap.size + 1 + 1, 0, none⟩ = some (.int .i64 x1) ∧ W.cell? ⟨w.heap.size + 1 + 1, 1, none⟩ = some (.int .i64 x2) := p.aw.xs
theorem QW.qfar (p : QW w W a b c d x1 x2 y1 y2 z1 z2 gu gv u1 u2) : QFar w gu gv W.heap.size := ⟨p.aw.gz.lt, p.bu.lt, p.bv.lt⟩
theorem QW.far (p : QW w W a b c d x1 x2 y1 y2 z1 z2 gu gv u1 u2) {g : Nat} (hq : QFar w gu gv g) (k : Nat) (v : Value) : QW w (W.setCell ⟨g, k, none⟩ v) a b c d x1 x2 y1 y2 z1 z2 gu gv u1 u2 :=
  ⟨p.aw.far hq.1 v, p.bu.far (by have := hq.2.1; simp; omega) v, p.bv.far (by have := hq.2.2; simp; omega) v⟩
end
def CutW (w : World) (a b c d x1 x2 y1 y2 z1 z2 : Int) (gu gv : Nat) (u1 u2 : Int) (v22 v23 : Value) (wx : World) : Prop :=
  ∃ (g : Nat) (r1 r2 : Int) (re : Value), v22 = .pointer (some ⟨g, 0, none⟩) ∧ v23 = re ∧ QW w wx a b c d x1 x2 y1 y2 z1 z2 gu gv u1 u2 ∧
    Blk wx g 32 #[.int .i64 r1, .int .i64 r2] ∧ (okS x1 x2 = true → r1 = 0 ∧ r2 = 0 ∧ re = .nilIface)

set_option maxHeartbeats 4000000 in
set_option maxRecDepth 100000 in
theorem stampAlgebra_any (a b c d x1 x2 y1 y2 z1 z2 : Int) (w : World) (ev : Addr) (he : EnvS w ev) :
    Calls Tryd.prog 6 #[.agg #[.int .i64 a, .int .i64 b], .agg #[.int .i64 c, .int .i64 d], .agg #[.int .i64 x1, .int .i64 x2], .agg #[.int .i64 y1, .int .i64 y2], .agg #[.int .i64 z1, .int .i64 z2]] w fun e w' => e = .returned (.bool true) ∧ Below w.heap.size w w' := by
  have HE := Lib.hid he
  have h8 := he.room
  clear he
  go_enter Tryd.func6, Tryd.ntmps6
  go_wp2_with fail
  have P0 := Lib.hid (aw_start w a b c d x1 x2 y1 y2 z1 z2)
  generalize ((((w.alloc _).alloc _).alloc _).alloc _).alloc _ = W0 at P0 ⊢
  refine (first_any _ ev (by exact HE.out.below P0.out.below h8)).mono ?_
  rintro x W1 ⟨rfl, hb⟩
  have P1 := Lib.hid (P0.out.step hb)
  clear hb P0
  obtain ⟨ca, cb, cc, cd⟩ := P1.out.times
  go_wp2_with fail
  refine (between_any a b c d _ ev (by exact HE.out.below P1.out.below h8)).mono ?_
  rintro x W2 ⟨rfl, hb⟩
  have P2 := Lib.hid (P1.out.step hb)
  clear hb P1 ca cb cc cd
  obtain ⟨ca, cb, cc, cd⟩ := P2.out.times
  obtain ⟨l0, l1, l2, l3, l4⟩ := P2.out.lts
  have HSUM := Lib.hid (sum_turn (x1, x2) (y1, y2) (z1, z2))
  by_cases hv : okT a b = true ∧ okT c d = true
  · obtain ⟨va, vb⟩ := hv
    obtain ⟨⟨p, q⟩, hpq⟩ : ∃ x, spanN (c - a) (d - b) = x := ⟨_, rfl⟩
    have e1 : betweenT a b c d = some (p, q) := by unfold betweenT; rw [if_pos ⟨va, vb⟩, hpq]
    have e2 : betweenT c d a b = some (-p, -q) := by unfold betweenT; rw [if_pos ⟨vb, va⟩, between_neg a b c d, hpq]
    have e3 : addT a b p q = some (c, d) := by have := add_between va vb; rw [hpq] at this; exact this
    have e4 : okS p q = true := by have := between_ok va vb; rw [hpq] at this; exact this
    rw [e1]
    simp only [resT]
    have HV2 := Lib.hid e2
    have HV3 := Lib.hid e3
    have HV4 := Lib.hid e4
    clear va vb hpq e1 e2 e3 e4
    go_wp2_with fail
    have P3 := Lib.hid (P2.out.alloc (.cells #[.int .i64 p, .int .i64 q] 32))
    have S3 := Lib.hid (Blk.new W2 32 #[.int .i64 p, .int .i64 q])
    clear ca cb cc cd l0 l1 l2 l3 l4 P2
    generalize W2.alloc _ = W3 at P3 S3 ⊢
    refine (between_any c d a b _ ev (by exact HE.out.below P3.out.below h8)).mono ?_
    rw [HV2.out]
    simp only [resT]
    rintro x W4 ⟨rfl, hb⟩
    have P4 := Lib.hid (P3.out.step hb)
    have S4 := Lib.hid (S3.out.below hb S3.out.lt)
    clear hb P3 S3 HV2
    obtain ⟨ca, cb, cc, cd⟩ := P4.out.times
    obtain ⟨l0, l1, l2, l3, l4⟩ := P4.out.lts
    have l5 := S4.out.lt
    have s0 : W4.cell? ⟨W2.heap.size, 0, none⟩ = some (.int .i64 p) := S4.out.cell 0
    have s1 : W4.cell? ⟨W2.heap.size, 1, none⟩ = some (.int .i64 q) := S4.out.cell 1
    go_upto_if 38 with (fail)
    have P5 := Lib.hid (P4.out.alloc (.cells #[.int .i64 (-p), .int .i64 (-q)] 32))
    have S5 := Lib.hid (S4.out.alloc (.cells #[.int .i64 (-p), .int .i64 (-q)] 32))
    have R5 := Lib.hid (Blk.new W4 32 #[.int .i64 (-p), .int .i64 (-q)])
    clear ca cb cc cd l0 l1 l2 l3 l4 l5 s0 s1 P4 S4
    generalize W4.alloc _ = W5 at P5 S5 R5 ⊢
    go_cut [] (fun wx => AW w wx a b c d x1 x2 y1 y2 z1 z2)
    case first =>
      obtain ⟨ca, cb, cc, cd⟩ := P5.out.times
      have s0 : W5.cell? ⟨W2.heap.size, 0, none⟩ = some (.int .i64 p) := S5.out.cell 0
      have s1 : W5.cell? ⟨W2.heap.size, 1, none⟩ = some (.int .i64 q) := S5.out.cell 1
      go_wp2_with fail
      clear ca cb cc cd s0 s1
      refine (add_any a b p q _ ev (by exact HE.out.below P5.out.below h8)).mono ?_
      rw [HV3.out]
      simp only [resT]
      rintro x W6 ⟨rfl, hb⟩
      have P6 := Lib.hid (P5.out.step hb)
      have S6 := Lib.hid (S5.out.below hb S5.out.lt)
      have R6 := Lib.hid (R5.out.below hb R5.out.lt)
      clear hb P5 S5 R5 HV3
      obtain ⟨ca, cb, cc, cd⟩ := P6.out.times
      obtain ⟨l0, l1, l2, l3, l4⟩ := P6.out.lts
      have l5 := S6.out.lt
      have l6 := R6.out.lt
      have s0 : W6.cell? ⟨W2.heap.size, 0, none⟩ = some (.int .i64 p) := S6.out.cell 0
      have s1 : W6.cell? ⟨W2.heap.size, 1, none⟩ = some (.int .i64 q) := S6.out.cell 1
      have r0 : W6.cell? ⟨W4.heap.size, 0, none⟩ = some (.int .i64 (-p)) := R6.out.cell 0
      have r1 : W6.cell? ⟨W4.heap.size, 1, none⟩ = some (.int .i64 (-q)) := R6.out.cell 1
      go_wp2_with fail
      have P7 := Lib.hid ((P6.out.alloc (.cells #[.int .i64 c, .int .i64 d] 24)).drewN 1)
      have S7 := Lib.hid ((S6.out.alloc (.cells #[.int .i64 c, .int .i64 d] 24)).drewN 1)
      have R7 := Lib.hid ((R6.out.alloc (.cells #[.int .i64 c, .int .i64 d] 24)).drewN 1)
      have C7 := Lib.hid ((Blk.new W6 24 #[.int .i64 c, .int .i64 d]).drewN 1)
      clear ca cb cc cd l0 l1 l2 l3 l4 l5 l6 s0 s1 r0 r1 P6 S6 R6
      generalize W6.alloc _ = W7 at P7 S7 R7 C7 ⊢
      have HN := Lib.hid (fun W => neg_yes p q W HV4.out)
      clear HV4
      go_region_held3 (fun w' => (w'.cell? ⟨w.heap.size + 1, 0, none⟩ = some (.int .i64 c) ∧ w'.cell? ⟨w.heap.size + 1, 1, none⟩ = some (.int .i64 d)) ∧ (w'.cell? ⟨W2.heap.size, 0, none⟩ = some (.int .i64 p) ∧ w'.cell? ⟨W2.heap.size, 1, none⟩ = some (.int .i64 q)) ∧ (w'.cell? ⟨W4.heap.size, 0, none⟩ = some (.int .i64 (-p)) ∧ w'.cell? ⟨W4.heap.size, 1, none⟩ = some (.int .i64 (-q))) ∧ (w'.cell? ⟨W6.heap.size, 0, none⟩ = some (.int .i64 c) ∧ w'.cell? ⟨W6.heap.size, 1, none⟩ = some (.int .i64 d)))
        (first
          | exact ⟨⟨P7.out.gb.cell 0, P7.out.gb.cell 1⟩, ⟨S7.out.cell 0, S7.out.cell 1⟩, ⟨R7.out.cell 0, R7.out.cell 1⟩, ⟨C7.out.cell 0, C7.out.cell 1⟩⟩
          | exact ⟨⟨P8.out.gb.cell 0, P8.out.gb.cell 1⟩, ⟨S8.out.cell 0, S8.out.cell 1⟩, ⟨R8.out.cell 0, R8.out.cell 1⟩, ⟨C8.out.cell 0, C8.out.cell 1⟩⟩
          | go_keep)
        (first
          | (go_at_call 18; refine (HN.out _).mono ?_; rintro x W8 ⟨rfl, hb8⟩; have P8 := Lib.hid (P7.out.step hb8); have R8 := Lib.hid (R7.out.below hb8 R7.out.lt); have S8 := Lib.hid (S7.out.below hb8 S7.out.lt); have C8 := Lib.hid (C7.out.below hb8 C7.out.lt); clear hb8))
      all_goals (go_wp2_with fail; go_meet; exact P8.out)
    case rest =>
      have PT := Lib.hid hcut
      clear hcut P5 S5 R5 HV3 HV4
      obtain ⟨WT, hWT⟩ : ∃ WT, WT = wc := ⟨_, rfl⟩
      subst hWT
      obtain ⟨c0, c1, c2, c3, c4, c5⟩ := PT.out.spans
      obtain ⟨l0, l1, l2, l3, l4⟩ := PT.out.lts
      go_wp2_with fail
      have P1 := Lib.hid (PT.out.alloc (.cells #[.int .i64 x1, .int .i64 x2, .int .i64 y1, .int .i64 y2, .int .i64 z1, .int .i64 z2] 32))
      have R1 := Lib.hid (row3 WT 32 (x1, x2) (y1, y2) (z1, z2))
      clear c0 c1 c2 c3 c4 c5 l0 l1 l2 l3 l4 PT
      generalize WT.alloc _ = WU at P1 R1 ⊢
      refine (sum3_any _ (x1, x2) (y1, y2) (z1, z2) _ ev (by exact HE.out.below P1.out.below h8) (by exact R1.out)).mono ?_
      rintro x WV ⟨rfl, hb⟩
      have P2 := Lib.hid (P1.out.step hb)
      clear hb P1 R1
      obtain ⟨u1, u2, ue, hue⟩ : ∃ u1 u2 : Int, ∃ ue : Value, resT ev (sumT [(x1, x2), (y1, y2), (z1, z2)]) = .tuple #[.agg #[.int .i64 u1, .int .i64 u2], ue] ∧ (ue = .nilIface ∨ ue = .iface 105 (.pointer (some ev))) := by
        cases sumT [(x1, x2), (y1, y2), (z1, z2)] with
        | none => exact ⟨0, 0, _, rfl, Or.inr rfl⟩
        | some r => exact ⟨r.1, r.2, _, rfl, Or.inl rfl⟩
      obtain ⟨hue, hun⟩ := hue
      have HU2 : Hid (resT ev (sumT [(z1, z2), (x1, x2), (y1, y2)]) = .tuple #[.agg #[.int .i64 u1, .int .i64 u2], ue]) := Lib.hid (by rw [← HSUM.out]; exact hue)
      rw [hue]
      clear hue
      obtain ⟨c0, c1, c2, c3, c4, c5⟩ := P2.out.spans
      obtain ⟨l0, l1, l2, l3, l4⟩ := P2.out.lts
      go_wp2_with fail
      have P3 := Lib.hid ((P2.out.alloc (.cells #[.int .i64 u1, .int .i64 u2] 32)).alloc (.cells #[.int .i64 z1, .int .i64 z2, .int .i64 x1, .int .i64 x2, .int .i64 y1, .int .i64 y2] 32))
      have U3 := Lib.hid ((Blk.new WV 32 #[.int .i64 u1, .int .i64 u2]).alloc (.cells #[.int .i64 z1, .int .i64 z2, .int .i64 x1, .int .i64 x2, .int .i64 y1, .int .i64 y2] 32))
      have R3 := Lib.hid (row3 (WV.alloc (.cells #[.int .i64 u1, .int .i64 u2] 32)) 32 (z1, z2) (x1, x2) (y1, y2))
      rw [show (WV.alloc (.cells #[.int .i64 u1, .int .i64 u2] 32)).heap.size = WV.heap.size + 1 by simp] at R3
      clear c0 c1 c2 c3 c4 c5 l0 l1 l2 l3 l4 P2
      generalize (WV.alloc _).alloc _ = WX at P3 U3 R3 ⊢
      refine (sum3_any _ (z1, z2) (x1, x2) (y1, y2) _ ev (by exact HE.out.below P3.out.below h8) (by exact R3.out)).mono ?_
      rw [HU2.out]
      rintro x WY ⟨rfl, hb⟩
      have P4 := Lib.hid (P3.out.step hb)
      have U4 := Lib.hid (U3.out.below hb U3.out.lt)
      clear hb P3 U3 R3 HU2
      go_upto_region 10 with (fail)
      have Q5 : Hid (QW w (WY.alloc (.cells #[.int .i64 u1, .int .i64 u2] 32)).drew a b c d x1 x2 y1 y2 z1 z2 WV.heap.size WY.heap.size u1 u2) := Lib.hid ⟨(P4.out.alloc _).drewN 1, (U4.out.alloc _).drewN 1, (Blk.new WY _ _).drewN 1⟩
      clear P4 U4
      generalize WY.alloc _ = WZ at Q5 ⊢
      go_cut [22, 23] (fun v22 v23 wx => CutW w a b c d x1 x2 y1 y2 z1 z2 WV.heap.size WY.heap.size u1 u2 v22 v23 wx)
      case first =>
        obtain ⟨m1, m2, hm, hms⟩ := neg_some x1 x2
        obtain ⟨r1, r2, re, hr, hrz⟩ := res_some ev x1 x2 m1 m2 hms
        have HN := Lib.hid hm
        have HR := Lib.hid hr
        have HRZ := Lib.hid hrz
        clear hm hms hr hrz
        have Q5a : Hid (QW w (WZ.alloc (.cells #[.int .i64 0, .int .i64 0] 32)).drew a b c d x1 x2 y1 y2 z1 z2 WV.heap.size WY.heap.size u1 u2) := Lib.hid (Q5.out.alloc (.cells #[.int .i64 0, .int .i64 0] 32))
        go_region_held3 (fun w' => w'.cell? ⟨w.heap.size + 1 + 1, 0, none⟩ = some (.int .i64 x1) ∧ w'.cell? ⟨w.heap.size + 1 + 1, 1, none⟩ = some (.int .i64 x2))
          (first
            | (with_reducible exact Q5.out.xs)
            | (with_reducible exact Q5a.out.xs)
            | (with_reducible exact Q8.out.xs)
            | (with_reducible exact (Q8.out.alloc _).xs)
            | (with_reducible exact ((Q8.out.alloc _).alloc _).xs)
            | (with_reducible exact Q9.out.xs)
            | (with_reducible exact (Q9.out.alloc _).xs)
            | exact (Q9.out.far hf 0 _).xs
            | exact ((Q9.out.far hf 0 _).far hf 1 _).xs
            | fail)
          (first
            | (go_at_call 18; refine (HN.out _).mono ?_; rintro x WN ⟨rfl, hb8⟩; first
                | ((with_reducible have Q8 := Lib.hid (Q5.out.step hb8)); clear hb8)
                | (have A8 := Lib.hid ((Blk.new WZ.drew 32 #[.int .i64 0, .int .i64 0]).below hb8 (Blk.new WZ.drew 32 #[.int .i64 0, .int .i64 0]).lt); have Q8 := Lib.hid (Q5a.out.step hb8); clear hb8))
            | (go_at_call 19; first
                | (have hx := sum2_any WN.heap.size (x1, x2) (m1, m2) (WN.alloc (.cells #[.int .i64 x1, .int .i64 x2, .int .i64 m1, .int .i64 m2] 32)) ev (HE.out.below (Q8.out.alloc _).aw.below h8) (row2 WN _ (x1, x2) (m1, m2)); (with_reducible refine hx.mono ?_); clear hx; rw [HR.out]; rintro x WO ⟨rfl, hb9⟩; have Q9 := Lib.hid ((Q8.out.alloc _).step hb9); (try (have A9 := Lib.hid ((A8.out.alloc _).below hb9 (A8.out.alloc _).lt); have a0 : WO.cell? ⟨WZ.heap.size, 0, none⟩ = some (.int .i64 0) := A9.out.cell 0; have a1 : WO.cell? ⟨WZ.heap.size, 1, none⟩ = some (.int .i64 0) := A9.out.cell 1; have b0 : WO.frozen? ⟨WZ.heap.size, 0, none⟩ = false := A9.out.frozen 0; have b1 : WO.frozen? ⟨WZ.heap.size, 1, none⟩ = false := A9.out.frozen 1; have hf : QFar w WV.heap.size WY.heap.size (WZ.heap.size) := Q5.out.qfar)); clear hb9)
                | (have hx := sum2_any WN.heap.size (x1, x2) (m1, m2) ((WN.alloc (.cells #[.int .i64 x1, .int .i64 x2, .int .i64 m1, .int .i64 m2] 32)).alloc (.cells #[.int .i64 0, .int .i64 0] 32)) ev (HE.out.below ((Q8.out.alloc _).alloc _).aw.below h8) (row2z WN _ (x1, x2) (m1, m2) _); (with_reducible refine hx.mono ?_); clear hx; rw [HR.out]; rintro x WO ⟨rfl, hb9⟩; have Q9 := Lib.hid (((Q8.out.alloc _).alloc _).step hb9); have A9 := Lib.hid ((new1 WN (.cells #[.int .i64 x1, .int .i64 x2, .int .i64 m1, .int .i64 m2] 32) 32 #[.int .i64 0, .int .i64 0]).below hb9 (new1 WN (.cells #[.int .i64 x1, .int .i64 x2, .int .i64 m1, .int .i64 m2] 32) 32 #[.int .i64 0, .int .i64 0]).lt); have a0 : WO.cell? ⟨WN.heap.size + 1, 0, none⟩ = some (.int .i64 0) := A9.out.cell 0; have a1 : WO.cell? ⟨WN.heap.size + 1, 1, none⟩ = some (.int .i64 0) := A9.out.cell 1; have b0 : WO.frozen? ⟨WN.heap.size + 1, 0, none⟩ = false := A9.out.frozen 0; have b1 : WO.frozen? ⟨WN.heap.size + 1, 1, none⟩ = false := A9.out.frozen 1; have hf : QFar w WV.heap.size WY.heap.size (WN.heap.size + 1) := Q8.out.qfar.succ; clear hb9)
                | (have hx := sum2_any (WN.heap.size + 1) (x1, x2) (m1, m2) ((WN.alloc (.cells #[.int .i64 0, .int .i64 0] 32)).alloc (.cells #[.int .i64 x1, .int .i64 x2, .int .i64 m1, .int .i64 m2] 32)) ev (HE.out.below ((Q8.out.alloc _).alloc _).aw.below h8) (row2y WN (.cells #[.int .i64 0, .int .i64 0] 32) _ (x1, x2) (m1, m2)); (with_reducible refine hx.mono ?_); clear hx; rw [HR.out]; rintro x WO ⟨rfl, hb9⟩; have Q9 := Lib.hid (((Q8.out.alloc _).alloc _).step hb9); have A9 := Lib.hid (((Blk.new WN 32 #[.int .i64 0, .int .i64 0]).alloc (.cells #[.int .i64 x1, .int .i64 x2, .int .i64 m1, .int .i64 m2] 32)).below hb9 ((Blk.new WN 32 #[.int .i64 0, .int .i64 0]).alloc (.cells #[.int .i64 x1, .int .i64 x2, .int .i64 m1, .int .i64 m2] 32)).lt); have a0 : WO.cell? ⟨WN.heap.size, 0, none⟩ = some (.int .i64 0) := A9.out.cell 0; have a1 : WO.cell? ⟨WN.heap.size, 1, none⟩ = some (.int .i64 0) := A9.out.cell 1; have b0 : WO.frozen? ⟨WN.heap.size, 0, none⟩ = false := A9.out.frozen 0; have b1 : WO.frozen? ⟨WN.heap.size, 1, none⟩ = false := A9.out.frozen 1; have hf : QFar w WV.heap.size WY.heap.size (WN.heap.size) := Q8.out.qfar; clear hb9)))
        all_goals
          go_wp2_with fail
          go_meet
          first
            | exact ⟨WO.heap.size, r1, r2, re, rfl, rfl, Q9.out.alloc _, Blk.new WO _ _, HRZ.out⟩
            | exact ⟨_, r1, r2, re, rfl, rfl, (Q9.out.far hf 0 _).far hf 1 _, (A9.out.put 0 _).put 1 _, HRZ.out⟩
      case rest =>
        obtain ⟨g, r1, r2, re, rfl, rfl, q6, r6, hrz⟩ := hcut
        have Q6 := Lib.hid q6
        have R6 := Lib.hid r6
        have HRZ := Lib.hid hrz
        have f0 : wc.cell? ⟨WV.heap.size, 0, none⟩ = some (.int .i64 u1) := q6.bu.cell 0
        have f1 : wc.cell? ⟨WV.heap.size, 1, none⟩ = some (.int .i64 u2) := q6.bu.cell 1
        have f2 : wc.cell? ⟨WY.heap.size, 0, none⟩ = some (.int .i64 u1) := q6.bv.cell 0
        have f3 : wc.cell? ⟨WY.heap.size, 1, none⟩ = some (.int .i64 u2) := q6.bv.cell 1
        have f4 : wc.cell? ⟨g, 0, none⟩ = some (.int .i64 r1) := r6.cell 0
        have f5 : wc.cell? ⟨g, 1, none⟩ = some (.int .i64 r2) := r6.cell 1
        obtain ⟨f6, f7⟩ := q6.aw.xs
        have f8 := (HE.out.below q6.aw.below h8).value
        have lg := r6.lt
        have hne := neq_err ev
        clear q6 r6 hrz Q5
        cases hok : okS x1 x2
        · have HOK := Lib.hid hok
          clear hok HRZ
          rcases hun with rfl | rfl
          all_goals
            go_wp2_with fail
            go_quiet (fail)
            go_wp2_with fail
            refine (validSpan_any x1 x2 _).mono ?_
            rw [HOK.out]
            rintro x WQ ⟨rfl, rfl⟩
            go_wp2
            go_ret
            exact ⟨rfl, (by repeat (first | exact Q6.out.aw.below | refine below_drewN ?_ _ | refine Below.alloc ?_ (by have := Q6.out.aw.below.size; simp <;> omega) _))⟩
        · obtain ⟨rfl, rfl, rfl⟩ := HRZ.out hok
          have HOK := Lib.hid hok
          clear hok HRZ
          rcases hun with rfl | rfl
          all_goals
            go_wp2_with fail
            go_quiet (fail)
            go_wp2_with fail
            refine (validSpan_any x1 x2 _).mono ?_
            rw [HOK.out]
            rintro x WQ ⟨rfl, rfl⟩
            have RQ := Lib.hid ((R6.out.drewN nq).alloc (.cells #[.int .i64 x1, .int .i64 x2] 32))
            have BQ := Lib.hid ((below_drewN Q6.out.aw.below nq).alloc Q6.out.aw.below.size (.cells #[.int .i64 x1, .int .i64 x2] 32))
            clear f0 f1 f2 f3 f4 f5 f6 f7 f8 lg Q6 R6
            generalize (wc.drewN nq).alloc _ = WQ at RQ BQ ⊢
            have f4 : WQ.cell? ⟨g, 0, none⟩ = some (.int .i64 0) := RQ.out.cell 0
            have f5 : WQ.cell? ⟨g, 1, none⟩ = some (.int .i64 0) := RQ.out.cell 1
            go_wp2
            go_ret
            exact ⟨rfl, BQ.out⟩
  · have e1 : betweenT a b c d = none := by unfold betweenT; rw [if_neg hv]
    have e2 : betweenT c d a b = none := by unfold betweenT; rw [if_neg (fun h => hv ⟨h.2, h.1⟩)]
    rw [e1]
    simp only [resT]
    have HV2 := Lib.hid e2
    clear hv e1 e2
    go_wp2_with fail
    have P3 := Lib.hid (P2.out.alloc (.cells #[.int .i64 0, .int .i64 0] 32))
    clear ca cb cc cd l0 l1 l2 l3 l4 P2
    generalize W2.alloc _ = W3 at P3 ⊢
    refine (between_any c d a b _ ev (by exact HE.out.below P3.out.below h8)).mono ?_
    rw [HV2.out]
    simp only [resT]
    rintro x W4 ⟨rfl, hb⟩
    have P4 := Lib.hid (P3.out.step hb)
    clear hb P3 HV2
    go_upto_region 8 with (fail)
    have PT := Lib.hid (P4.out.alloc (.cells #[.int .i64 0, .int .i64 0] 32))
    clear P4
    generalize W4.alloc _ = WT at PT ⊢
    obtain ⟨c0, c1, c2, c3, c4, c5⟩ := PT.out.spans
    obtain ⟨l0, l1, l2, l3, l4⟩ := PT.out.lts
    go_wp2_with fail
    have P1 := Lib.hid (PT.out.alloc (.cells #[.int .i64 x1, .int .i64 x2, .int .i64 y1, .int .i64 y2, .int .i64 z1, .int .i64 z2] 32))
    have R1 := Lib.hid (row3 WT 32 (x1, x2) (y1, y2) (z1, z2))
    clear c0 c1 c2 c3 c4 c5 l0 l1 l2 l3 l4 PT
    generalize WT.alloc _ = WU at P1 R1 ⊢
    refine (sum3_any _ (x1, x2) (y1, y2) (z1, z2) _ ev (by exact HE.out.below P1.out.below h8) (by exact R1.out)).mono ?_
    rintro x WV ⟨rfl, hb⟩
    have P2 := Lib.hid (P1.out.step hb)
    clear hb P1 R1
    obtain ⟨u1, u2, ue, hue⟩ : ∃ u1 u2 : Int, ∃ ue : Value, resT ev (sumT [(x1, x2), (y1, y2), (z1, z2)]) = .tuple #[.agg #[.int .i64 u1, .int .i64 u2], ue] ∧ (ue = .nilIface ∨ ue = .iface 105 (.pointer (some ev))) := by
      cases sumT [(x1, x2), (y1, y2), (z1, z2)] with
      | none => exact ⟨0, 0, _, rfl, Or.inr rfl⟩
      | some r => exact ⟨r.1, r.2, _, rfl, Or.inl rfl⟩
    obtain ⟨hue, hun⟩ := hue
    have HU2 : Hid (resT ev (sumT [(z1, z2), (x1, x2), (y1, y2)]) = .tuple #[.agg #[.int .i64 u1, .int .i64 u2], ue]) := Lib.hid (by rw [← HSUM.out]; exact hue)
    rw [hue]
    clear hue
    obtain ⟨c0, c1, c2, c3, c4, c5⟩ := P2.out.spans
    obtain ⟨l0, l1, l2, l3, l4⟩ := P2.out.lts
    go_wp2_with fail
    have P3 := Lib.hid ((P2.out.alloc (.cells #[.int .i64 u1, .int .i64 u2] 32)).alloc (.cells #[.int .i64 z1, .int .i64 z2, .int .i64 x1, .int .i64 x2, .int .i64 y1, .int .i64 y2] 32))
    have U3 := Lib.hid ((Blk.new WV 32 #[.int .i64 u1, .int .i64 u2]).alloc (.cells #[.int .i64 z1, .int .i64 z2, .int .i64 x1, .int .i64 x2, .int .i64 y1, .int .i64 y2] 32))
    have R3 := Lib.hid (row3 (WV.alloc (.cells #[.int .i64 u1, .int .i64 u2] 32)) 32 (z1, z2) (x1, x2) (y1, y2))
    rw [show (WV.alloc (.cells #[.int .i64 u1, .int .i64 u2] 32)).heap.size = WV.heap.size + 1 by simp] at R3
    clear c0 c1 c2 c3 c4 c5 l0 l1 l2 l3 l4 P2
    generalize (WV.alloc _).alloc _ = WX at P3 U3 R3 ⊢
    refine (sum3_any _ (z1, z2) (x1, x2) (y1, y2) _ ev (by exact HE.out.below P3.out.below h8) (by exact R3.out)).mono ?_
    rw [HU2.out]
    rintro x WY ⟨rfl, hb⟩
    have P4 := Lib.hid (P3.out.step hb)
    have U4 := Lib.hid (U3.out.below hb U3.out.lt)
    clear hb P3 U3 R3 HU2
    go_upto_region 10 with (fail)
    have Q5 : Hid (QW w (WY.alloc (.cells #[.int .i64 u1, .int .i64 u2] 32)).drew a b c d x1 x2 y1 y2 z1 z2 WV.heap.size WY.heap.size u1 u2) := Lib.hid ⟨(P4.out.alloc _).drewN 1, (U4.out.alloc _).drewN 1, (Blk.new WY _ _).drewN 1⟩
    clear P4 U4
    generalize WY.alloc _ = WZ at Q5 ⊢
    go_cut [22, 23] (fun v22 v23 wx => CutW w a b c d x1 x2 y1 y2 z1 z2 WV.heap.size WY.heap.size u1 u2 v22 v23 wx)
    case first =>
      obtain ⟨m1, m2, hm, hms⟩ := neg_some x1 x2
      obtain ⟨r1, r2, re, hr, hrz⟩ := res_some ev x1 x2 m1 m2 hms
      have HN := Lib.hid hm
      have HR := Lib.hid hr
      have HRZ := Lib.hid hrz
      clear hm hms hr hrz
      have Q5a : Hid (QW w (WZ.alloc (.cells #[.int .i64 0, .int .i64 0] 32)).drew a b c d x1 x2 y1 y2 z1 z2 WV.heap.size WY.heap.size u1 u2) := Lib.hid (Q5.out.alloc (.cells #[.int .i64 0, .int .i64 0] 32))
      go_region_held3 (fun w' => w'.cell? ⟨w.heap.size + 1 + 1, 0, none⟩ = some (.int .i64 x1) ∧ w'.cell? ⟨w.heap.size + 1 + 1, 1, none⟩ = some (.int .i64 x2))
        (first
          | (with_reducible exact Q5.out.xs)
          | (with_reducible exact Q5a.out.xs)
          | (with_reducible exact Q8.out.xs)
          | (with_reducible exact (Q8.out.alloc _).xs)
          | (with_reducible exact ((Q8.out.alloc _).alloc _).xs)
          | (with_reducible exact Q9.out.xs)
          | (with_reducible exact (Q9.out.alloc _).xs)
          | exact (Q9.out.far hf 0 _).xs
          | exact ((Q9.out.far hf 0 _).far hf 1 _).xs
          | fail)
        (first
          | (go_at_call 18; refine (HN.out _).mono ?_; rintro x WN ⟨rfl, hb8⟩; first
              | ((with_reducible have Q8 := Lib.hid (Q5.out.step hb8)); clear hb8)
              | (have A8 := Lib.hid ((Blk.new WZ.drew 32 #[.int .i64 0, .int .i64 0]).below hb8 (Blk.new WZ.drew 32 #[.int .i64 0, .int .i64 0]).lt); have Q8 := Lib.hid (Q5a.out.step hb8); clear hb8))
          | (go_at_call 19; first
              | (have hx := sum2_any WN.heap.size (x1, x2) (m1, m2) (WN.alloc (.cells #[.int .i64 x1, .int .i64 x2, .int .i64 m1, .int .i64 m2] 32)) ev (HE.out.below (Q8.out.alloc _).aw.below h8) (row2 WN _ (x1, x2) (m1, m2)); (with_reducible refine hx.mono ?_); clear hx; rw [HR.out]; rintro x WO ⟨rfl, hb9⟩; have Q9 := Lib.hid ((Q8.out.alloc _).step hb9); (try (have A9 := Lib.hid ((A8.out.alloc _).below hb9 (A8.out.alloc _).lt); have a0 : WO.cell? ⟨WZ.heap.size, 0, none⟩ = some (.int .i64 0) := A9.out.cell 0; have a1 : WO.cell? ⟨WZ.heap.size, 1, none⟩ = some (.int .i64 0) := A9.out.cell 1; have b0 : WO.frozen? ⟨WZ.heap.size, 0, none⟩ = false := A9.out.frozen 0; have b1 : WO.frozen? ⟨WZ.heap.size, 1, none⟩ = false := A9.out.frozen 1; have hf : QFar w WV.heap.size WY.heap.size (WZ.heap.size) := Q5.out.qfar)); clear hb9)
              | (have hx := sum2_any WN.heap.size (x1, x2) (m1, m2) ((WN.alloc (.cells #[.int .i64 x1, .int .i64 x2, .int .i64 m1, .int .i64 m2] 32)).alloc (.cells #[.int .i64 0, .int .i64 0] 32)) ev (HE.out.below ((Q8.out.alloc _).alloc _).aw.below h8) (row2z WN _ (x1, x2) (m1, m2) _); (with_reducible refine hx.mono ?_); clear hx; rw [HR.out]; rintro x WO ⟨rfl, hb9⟩; have Q9 := Lib.hid (((Q8.out.alloc _).alloc _).step hb9); have A9 := Lib.hid ((new1 WN (.cells #[.int .i64 x1, .int .i64 x2, .int .i64 m1, .int .i64 m2] 32) 32 #[.int .i64 0, .int .i64 0]).below hb9 (new1 WN (.cells #[.int .i64 x1, .int .i64 x2, .int .i64 m1, .int .i64 m2] 32) 32 #[.int .i64 0, .int .i64 0]).lt); have a0 : WO.cell? ⟨WN.heap.size + 1, 0, none⟩ = some (.int .i64 0) := A9.out.cell 0; have a1 : WO.cell? ⟨WN.heap.size + 1, 1, none⟩ = some (.int .i64 0) := A9.out.cell 1; have b0 : WO.frozen? ⟨WN.heap.size + 1, 0, none⟩ = false := A9.out.frozen 0; have b1 : WO.frozen? ⟨WN.heap.size + 1, 1, none⟩ = false := A9.out.frozen 1; have hf : QFar w WV.heap.size WY.heap.size (WN.heap.size + 1) := Q8.out.qfar.succ; clear hb9)
              | (have hx := sum2_any (WN.heap.size + 1) (x1, x2) (m1, m2) ((WN.alloc (.cells #[.int .i64 0, .int .i64 0] 32)).alloc (.cells #[.int .i64 x1, .int .i64 x2, .int .i64 m1, .int .i64 m2] 32)) ev (HE.out.below ((Q8.out.alloc _).alloc _).aw.below h8) (row2y WN (.cells #[.int .i64 0, .int .i64 0] 32) _ (x1, x2) (m1, m2)); (with_reducible refine hx.mono ?_); clear hx; rw [HR.out]; rintro x WO ⟨rfl, hb9⟩; have Q9 := Lib.hid (((Q8.out.alloc _).alloc _).step hb9); have A9 := Lib.hid (((Blk.new WN 32 #[.int .i64 0, .int .i64 0]).alloc (.cells #[.int .i64 x1, .int .i64 x2, .int .i64 m1, .int .i64 m2] 32)).below hb9 ((Blk.new WN 32 #[.int .i64 0, .int .i64 0]).alloc (.cells #[.int .i64 x1, .int .i64 x2, .int .i64 m1, .int .i64 m2] 32)).lt); have a0 : WO.cell? ⟨WN.heap.size, 0, none⟩ = some (.int .i64 0) := A9.out.cell 0; have a1 : WO.cell? ⟨WN.heap.size, 1, none⟩ = some (.int .i64 0) := A9.out.cell 1; have b0 : WO.frozen? ⟨WN.heap.size, 0, none⟩ = false := A9.out.frozen 0; have b1 : WO.frozen? ⟨WN.heap.size, 1, none⟩ = false := A9.out.frozen 1; have hf : QFar w WV.heap.size WY.heap.size (WN.heap.size) := Q8.out.qfar; clear hb9)))
      all_goals
        go_wp2_with fail
        go_meet
        first
          | exact ⟨WO.heap.size, r1, r2, re, rfl, rfl, Q9.out.alloc _, Blk.new WO _ _, HRZ.out⟩
          | exact ⟨_, r1, r2, re, rfl, rfl, (Q9.out.far hf 0 _).far hf 1 _, (A9.out.put 0 _).put 1 _, HRZ.out⟩
    case rest =>
      obtain ⟨g, r1, r2, re, rfl, rfl, q6, r6, hrz⟩ := hcut
      have Q6 := Lib.hid q6
      have R6 := Lib.hid r6
      have HRZ := Lib.hid hrz
      have f0 : wc.cell? ⟨WV.heap.size, 0, none⟩ = some (.int .i64 u1) := q6.bu.cell 0
      have f1 : wc.cell? ⟨WV.heap.size, 1, none⟩ = some (.int .i64 u2) := q6.bu.cell 1
      have f2 : wc.cell? ⟨WY.heap.size, 0, none⟩ = some (.int .i64 u1) := q6.bv.cell 0
      have f3 : wc.cell? ⟨WY.heap.size, 1, none⟩ = some (.int .i64 u2) := q6.bv.cell 1
      have f4 : wc.cell? ⟨g, 0, none⟩ = some (.int .i64 r1) := r6.cell 0
      have f5 : wc.cell? ⟨g, 1, none⟩ = some (.int .i64 r2) := r6.cell 1
      obtain ⟨f6, f7⟩ := q6.aw.xs
      have f8 := (HE.out.below q6.aw.below h8).value
      have lg := r6.lt
      have hne := neq_err ev
      clear q6 r6 hrz Q5
      cases hok : okS x1 x2
      · have HOK := Lib.hid hok
        clear hok HRZ
        rcases hun with rfl | rfl
        all_goals
          go_wp2_with fail
          go_quiet (fail)
          go_wp2_with fail
          refine (validSpan_any x1 x2 _).mono ?_
          rw [HOK.out]
          rintro x WQ ⟨rfl, rfl⟩
          go_wp2
          go_ret
          exact ⟨rfl, (by repeat (first | exact Q6.out.aw.below | refine below_drewN ?_ _ | refine Below.alloc ?_ (by have := Q6.out.aw.below.size; simp <;> omega) _))⟩
      · obtain ⟨rfl, rfl, rfl⟩ := HRZ.out hok
        have HOK := Lib.hid hok
        clear hok HRZ
        rcases hun with rfl | rfl
        all_goals
          go_wp2_with fail
          go_quiet (fail)
          go_wp2_with fail
          refine (validSpan_any x1 x2 _).mono ?_
          rw [HOK.out]
          rintro x WQ ⟨rfl, rfl⟩
          have RQ := Lib.hid ((R6.out.drewN nq).alloc (.cells #[.int .i64 x1, .int .i64 x2] 32))
          have BQ := Lib.hid ((below_drewN Q6.out.aw.below nq).alloc Q6.out.aw.below.size (.cells #[.int .i64 x1, .int .i64 x2] 32))
          clear f0 f1 f2 f3 f4 f5 f6 f7 f8 lg Q6 R6
          generalize (wc.drewN nq).alloc _ = WQ at RQ BQ ⊢
          have f4 : WQ.cell? ⟨g, 0, none⟩ = some (.int .i64 0) := RQ.out.cell 0
          have f5 : WQ.cell? ⟨g, 1, none⟩ = some (.int .i64 0) := RQ.out.cell 1
          go_wp2
          go_ret
          exact ⟨rfl, BQ.out⟩
end Go.Proofs.YtacmlpgakibdgaaDoor
