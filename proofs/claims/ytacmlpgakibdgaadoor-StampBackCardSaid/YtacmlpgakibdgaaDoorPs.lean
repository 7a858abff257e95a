/-
  Contract: stamp.ParseSpan.
-/
import Derived.Test.YtacmlpgakibdgaaDoorRd3
import Derived.IntWalk
namespace Go.Proofs.YtacmlpgakibdgaaDoor
open Go.RowKit Go.Own Go.Own.Dig Go.Own.Alg

/-- ParseSpan's own memory. -/
structure SW (w W : World) (x : St) (gx : Nat) (a b : Int) : Prop where
  below : Below w.heap.size w W
  res : Blk W w.heap.size 32 #[.int .i64 0, .int .i64 0]
  rd : RB W (w.heap.size + 1) x
  xs : Blk W gx 32 #[.int .i64 a, .int .i64 b]
  gt : w.heap.size + 1 < gx
section
variable {w W W' : World} {x x' : St} {gx : Nat} {a b : Int}
theorem SW.step (p : SW w W x gx a b) (q : RdPost (w.heap.size + 1) x' W W') : SW w W' x' gx a b :=
  ⟨p.below.grown q.2 p.below.size (fun g e => by cases e; omega), p.res.grown q.2 (by simp), q.1, p.xs.grown q.2 (by have := p.gt; simp; omega), p.gt⟩
theorem SW.put0 (p : SW w W x gx a b) (v : Int) : SW w (W.setCell ⟨gx, 0, none⟩ (.int .i64 v)) x gx v b :=
  have := p.gt
  ⟨p.below.setCell (by simp; omega) _, p.res.far (by simp; omega) _, Blk.far p.rd (by simp; omega) _, p.xs.put 0 _, p.gt⟩
theorem SW.put1 (p : SW w W x gx a b) (v : Int) : SW w (W.setCell ⟨gx, 1, none⟩ (.int .i64 v)) x gx a v :=
  have := p.gt
  ⟨p.below.setCell (by simp; omega) _, p.res.far (by simp; omega) _, Blk.far p.rd (by simp; omega) _, p.xs.put 1 _, p.gt⟩
theorem SW.cells (p : SW w W x gx a b) : W.cell? ⟨w.heap.size + 1, 0, none⟩ = some (.string ⟨x.1.toArray⟩) ∧ W.cell? ⟨w.heap.size + 1, 1, none⟩ = some (.bool x.2) := ⟨p.rd.cells.1, p.rd.cells.2.1⟩
theorem SW.xcells (p : SW w W x gx a b) : W.cell? ⟨gx, 0, none⟩ = some (.int .i64 a) ∧ W.cell? ⟨gx, 1, none⟩ = some (.int .i64 b) ∧ W.frozen? ⟨gx, 0, none⟩ = false ∧ W.frozen? ⟨gx, 1, none⟩ = false :=
  ⟨p.xs.cell 0, p.xs.cell 1, p.xs.frozen 0, p.xs.frozen 1⟩
theorem SW.ans (p : SW w W x gx a b) : W.cell? ⟨w.heap.size, 0, none⟩ = some (.int .i64 0) ∧ W.cell? ⟨w.heap.size, 1, none⟩ = some (.int .i64 0) ∧ W.frozen? ⟨w.heap.size, 0, none⟩ = false ∧ W.frozen? ⟨w.heap.size, 1, none⟩ = false :=
  ⟨p.res.cell 0, p.res.cell 1, p.res.frozen 0, p.res.frozen 1⟩
end
theorem results_ps (tmps : Array Value) (w : World) (g : Nat) (a b : Value) (ht : tmps[2]? = some (.pointer (some ⟨g, 0, none⟩))) (hb : Blk w g 32 #[a, b]) :
    (results Tryd.f16 tmps).run Tryd.prog w = .ok (.tuple #[.agg #[a, b], tmps.getD 3 undef]) w := by
  have c0 : w.cell? ⟨g, 0, none⟩ = some a := hb.cell 0
  have c1 : w.cell? ⟨g, 1, none⟩ = some b := hb.cell 1
  simp [results, Tryd.results16, go_sem, ht, c0, c1]

set_option maxHeartbeats 4000000 in
set_option maxRecDepth 100000 in
theorem parseSpan_m (s : List UInt8) (w : World) (ev : Addr) (he : EnvS w ev) (hs : s.length ≤ 1000) (hp : Lib.hasPrefix s [45] = true) (r1 r2 : Int) (hy : parseS s = some (r1, r2)) :
    Calls Tryd.prog 16 #[.string ⟨s.toArray⟩] w fun e w' => e = .returned (.tuple #[.agg #[.int .i64 r1, .int .i64 r2], .nilIface]) ∧ Below w.heap.size w w' := by
  have HE := Lib.hid he
  have h8 := he.room
  have hz : 0 < w.heap.size := by omega
  obtain ⟨t, ht⟩ : ∃ t, Lib.trimPrefix s [45] = t := ⟨_, rfl⟩
  have lt : t.length ≤ 1000 := by rw [← ht]; have := trim_len s [45]; omega
  obtain ⟨A, cA, x1, hA⟩ : ∃ a c x, rDig 1 12 (t, false) = (a, c, x) := ⟨_, _, _, rfl⟩
  have bA : A < 1000000000000 := by
    have h := dig_bd 1 12 (t, false)
    have := pow_le_of _ _ h.2
    rw [hA] at h this
    simp only at h this
    omega
  have l1 : x1.1.length ≤ 1000 := by have := dig_len 1 12 (t, false); rw [hA] at this; simp only at this; omega
  obtain ⟨B, x2, hB⟩ : ∃ b x, rFrac x1 = (b, x) := ⟨_, _, rfl⟩
  have bB : B < 1000000000 := by have := frac_bd x1; rw [hB] at this; exact this
  obtain ⟨lz, bz, hM⟩ : ∃ l b, rMust [115] x2 = (l, b) := ⟨_, _, rfl⟩
  have hres : parseS s = if bz = false ∧ lz = [] ∧ okS (-(A : Int)) (-(B : Int)) = true then some ((-(A : Int)), (-(B : Int))) else none := by
    unfold parseS rSpan
    simp only [hp, ht, hA, hB, hM, if_true, if_false, Bool.false_eq_true]
    rw [show (-1 : Int) * (A : Int) = (-(A : Int)) by omega, show (-1 : Int) * (B : Int) = (-(B : Int)) by omega]
  rw [hres] at hy
  have hcond : bz = false ∧ lz = [] ∧ okS (-(A : Int)) (-(B : Int)) = true := Decidable.byContradiction fun hc => by rw [if_neg hc] at hy; cases hy
  rw [if_pos hcond] at hy
  obtain ⟨rfl, rfl, hok⟩ := hcond
  injection hy with hy
  injection hy with hy1 hy2
  subst hy1 hy2
  have HOK := Lib.hid hok
  have HT := Lib.hid ht; have HA := Lib.hid hA; have HB := Lib.hid hB; have HM := Lib.hid hM; have HP := Lib.hid hp
  clear he ht hA hB hM hp hres hok
  go_enter Tryd.func16, Tryd.ntmps16
  go_wp2_with fail
  have hW0 : Below w.heap.size w ((w.alloc (.cells #[.int .i64 0, .int .i64 0] 32)).alloc (.cells #[.string ⟨s.toArray⟩, .bool false] 58)) := ((Below.refl _ _).alloc (Nat.le_refl _) _).alloc (by simp) _
  have hR0 : Blk ((w.alloc (.cells #[.int .i64 0, .int .i64 0] 32)).alloc (.cells #[.string ⟨s.toArray⟩, .bool false] 58)) w.heap.size 32 #[.int .i64 0, .int .i64 0] := (Blk.new w _ _).alloc _
  have hB0 : RB ((w.alloc (.cells #[.int .i64 0, .int .i64 0] 32)).alloc (.cells #[.string ⟨s.toArray⟩, .bool false] 58)) (w.heap.size + 1) (s, false) := by
    have h := Blk.new (w.alloc (.cells #[.int .i64 0, .int .i64 0] 32)) 58 #[.string ⟨s.toArray⟩, .bool false]
    rw [World.size_alloc] at h
    exact h
  generalize (w.alloc (.cells #[.int .i64 0, .int .i64 0] 32)).alloc _ = W0 at hW0 hR0 hB0 ⊢
  have K0 := Lib.hid hW0; have K1 := Lib.hid hR0; have K2 := Lib.hid hB0
  clear hW0 hR0 hB0
  refine (take_st (w.heap.size + 1) (s, false) _ [45] (by exact K2.out)).mono ?_
  simp only
  rw [HP.out, HT.out]
  rintro x W1 ⟨rfl, hq⟩
  have P1 : Hid (SW w (W1.alloc (.cells #[.int .i64 0, .int .i64 0] 32)) (t, false) W1.heap.size 0 0) := Lib.hid
    ⟨(K0.out.grown hq.2 K0.out.size (fun g e => by cases e; omega)).alloc (Nat.le_trans K0.out.size hq.2.size) _, (K1.out.grown hq.2 (by simp)).alloc _, Blk.alloc hq.1 _, Blk.new W1 _ _, Blk.lt hq.1⟩
  clear hq K0 K1 K2
  go_wp2_with fail
  generalize hgx : W1.heap.size = gx at *
  clear hgx
  generalize W1.alloc _ = W2 at P1 ⊢
  refine (digits_any (w.heap.size + 1) 1 12 t false _ (by exact P1.out.rd) (by omega) (by omega) (by omega)).mono ?_
  rw [HA.out]
  rintro x W3 ⟨rfl, hq⟩
  have P3 := Lib.hid (P1.out.step hq)
  clear hq P1
  obtain ⟨c0, c1, c2, c3⟩ := P3.out.xcells
  have P4 := Lib.hid (P3.out.put0 (A : Int))
  go_wp2_with fail
  generalize W3.setCell _ _ = W4 at P4 ⊢
  clear P3 c0 c1 c2 c3
  refine (frac_st (w.heap.size + 1) x1 _ (by exact P4.out.rd) l1).mono ?_
  rw [HB.out]
  rintro x W5 ⟨rfl, hq⟩
  have P5 := Lib.hid (P4.out.step hq)
  clear hq P4
  obtain ⟨c0, c1, c2, c3⟩ := P5.out.xcells
  have P6 := Lib.hid (P5.out.put1 (B : Int))
  go_wp2_with fail
  generalize W5.setCell _ _ = W6 at P6 ⊢
  clear P5 c0 c1 c2 c3
  refine (must_st (w.heap.size + 1) x2 _ [115] (by exact P6.out.rd)).mono ?_
  rw [HM.out]
  rintro x W7 ⟨⟨v, rfl⟩, hq⟩
  have P7 := Lib.hid (P6.out.step hq)
  clear hq P6
  have P9 := Lib.hid ((P7.out.put0 (-(A : Int))).put1 (-(B : Int)))
  obtain ⟨c0, c1, c2, c3⟩ := P7.out.xcells
  have hm1 : IntKind.i64.wrap (-(A : Int)) = (-(A : Int)) := IntWalk.i64_in _ (by omega)
  have hm2 : IntKind.i64.wrap (-(B : Int)) = (-(B : Int)) := IntWalk.i64_in _ (by omega)
  obtain ⟨q0, q1⟩ := P7.out.cells
  obtain ⟨t0, t1, t2, t3⟩ := P7.out.ans
  have hgx := P7.out.gt
  have hgl := P7.out.xs.lt
  have hg0 : w.heap.size < gx := by omega
  have hg1 : w.heap.size < W7.heap.size := by omega
  have hg2 : w.heap.size + 1 < W7.heap.size := by omega
  have ne1 : ¬ gx = w.heap.size := by omega
  have ne2 : ¬ gx = w.heap.size + 1 := by omega
  have ne3 : ¬ w.heap.size = gx := by omega
  have ne4 : ¬ w.heap.size + 1 = gx := by omega
  simp only at q0 q1
  go_wp2_with fail
  refine (validSpan_any (-(A : Int)) (-(B : Int)) _).mono ?_
  rw [HOK.out]
  rintro x W8 ⟨rfl, rfl⟩
  go_wp2
  refine bodyPost_ret (results_ps _ _ w.heap.size _ _ rfl (((P9.out.res.put 0 _).put 1 _).alloc _)) rfl ⟨rfl, ?_⟩
  exact ((P9.out.below.setCell (by simp) _).setCell (by simp) _).alloc (by have := P9.out.below.size; simp at this ⊢; exact this) _

set_option maxHeartbeats 4000000 in
set_option maxRecDepth 100000 in
theorem parseSpan_p (s : List UInt8) (w : World) (ev : Addr) (he : EnvS w ev) (hs : s.length ≤ 1000) (hp : Lib.hasPrefix s [45] = false) (r1 r2 : Int) (hy : parseS s = some (r1, r2)) :
    Calls Tryd.prog 16 #[.string ⟨s.toArray⟩] w fun e w' => e = .returned (.tuple #[.agg #[.int .i64 r1, .int .i64 r2], .nilIface]) ∧ Below w.heap.size w w' := by
  have HE := Lib.hid he
  have h8 := he.room
  have hz : 0 < w.heap.size := by omega
  obtain ⟨t, ht⟩ : ∃ t, Lib.trimPrefix s [45] = t := ⟨_, rfl⟩
  have lt : t.length ≤ 1000 := by rw [← ht]; have := trim_len s [45]; omega
  obtain ⟨A, cA, x1, hA⟩ : ∃ a c x, rDig 1 12 (t, false) = (a, c, x) := ⟨_, _, _, rfl⟩
  have bA : A < 1000000000000 := by
    have h := dig_bd 1 12 (t, false)
    have := pow_le_of _ _ h.2
    rw [hA] at h this
    simp only at h this
    omega
  have l1 : x1.1.length ≤ 1000 := by have := dig_len 1 12 (t, false); rw [hA] at this; simp only at this; omega
  obtain ⟨B, x2, hB⟩ : ∃ b x, rFrac x1 = (b, x) := ⟨_, _, rfl⟩
  have bB : B < 1000000000 := by have := frac_bd x1; rw [hB] at this; exact this
  obtain ⟨lz, bz, hM⟩ : ∃ l b, rMust [115] x2 = (l, b) := ⟨_, _, rfl⟩
  have hres : parseS s = if bz = false ∧ lz = [] ∧ okS (A : Int) (B : Int) = true then some ((A : Int), (B : Int)) else none := by
    unfold parseS rSpan
    simp only [hp, ht, hA, hB, hM, if_true, if_false, Bool.false_eq_true]
    rw [show (1 : Int) * (A : Int) = (A : Int) by omega, show (1 : Int) * (B : Int) = (B : Int) by omega]
  rw [hres] at hy
  have hcond : bz = false ∧ lz = [] ∧ okS (A : Int) (B : Int) = true := Decidable.byContradiction fun hc => by rw [if_neg hc] at hy; cases hy
  rw [if_pos hcond] at hy
  obtain ⟨rfl, rfl, hok⟩ := hcond
  injection hy with hy
  injection hy with hy1 hy2
  subst hy1 hy2
  have HOK := Lib.hid hok
  have HT := Lib.hid ht; have HA := Lib.hid hA; have HB := Lib.hid hB; have HM := Lib.hid hM; have HP := Lib.hid hp
  clear he ht hA hB hM hp hres hok
  go_enter Tryd.func16, Tryd.ntmps16
  go_wp2_with fail
  have hW0 : Below w.heap.size w ((w.alloc (.cells #[.int .i64 0, .int .i64 0] 32)).alloc (.cells #[.string ⟨s.toArray⟩, .bool false] 58)) := ((Below.refl _ _).alloc (Nat.le_refl _) _).alloc (by simp) _
  have hR0 : Blk ((w.alloc (.cells #[.int .i64 0, .int .i64 0] 32)).alloc (.cells #[.string ⟨s.toArray⟩, .bool false] 58)) w.heap.size 32 #[.int .i64 0, .int .i64 0] := (Blk.new w _ _).alloc _
  have hB0 : RB ((w.alloc (.cells #[.int .i64 0, .int .i64 0] 32)).alloc (.cells #[.string ⟨s.toArray⟩, .bool false] 58)) (w.heap.size + 1) (s, false) := by
    have h := Blk.new (w.alloc (.cells #[.int .i64 0, .int .i64 0] 32)) 58 #[.string ⟨s.toArray⟩, .bool false]
    rw [World.size_alloc] at h
    exact h
  generalize (w.alloc (.cells #[.int .i64 0, .int .i64 0] 32)).alloc _ = W0 at hW0 hR0 hB0 ⊢
  have K0 := Lib.hid hW0; have K1 := Lib.hid hR0; have K2 := Lib.hid hB0
  clear hW0 hR0 hB0
  refine (take_st (w.heap.size + 1) (s, false) _ [45] (by exact K2.out)).mono ?_
  simp only
  rw [HP.out, HT.out]
  rintro x W1 ⟨rfl, hq⟩
  have P1 : Hid (SW w (W1.alloc (.cells #[.int .i64 0, .int .i64 0] 32)) (t, false) W1.heap.size 0 0) := Lib.hid
    ⟨(K0.out.grown hq.2 K0.out.size (fun g e => by cases e; omega)).alloc (Nat.le_trans K0.out.size hq.2.size) _, (K1.out.grown hq.2 (by simp)).alloc _, Blk.alloc hq.1 _, Blk.new W1 _ _, Blk.lt hq.1⟩
  clear hq K0 K1 K2
  go_wp2_with fail
  generalize hgx : W1.heap.size = gx at *
  clear hgx
  generalize W1.alloc _ = W2 at P1 ⊢
  refine (digits_any (w.heap.size + 1) 1 12 t false _ (by exact P1.out.rd) (by omega) (by omega) (by omega)).mono ?_
  rw [HA.out]
  rintro x W3 ⟨rfl, hq⟩
  have P3 := Lib.hid (P1.out.step hq)
  clear hq P1
  obtain ⟨c0, c1, c2, c3⟩ := P3.out.xcells
  have P4 := Lib.hid (P3.out.put0 (A : Int))
  go_wp2_with fail
  generalize W3.setCell _ _ = W4 at P4 ⊢
  clear P3 c0 c1 c2 c3
  refine (frac_st (w.heap.size + 1) x1 _ (by exact P4.out.rd) l1).mono ?_
  rw [HB.out]
  rintro x W5 ⟨rfl, hq⟩
  have P5 := Lib.hid (P4.out.step hq)
  clear hq P4
  obtain ⟨c0, c1, c2, c3⟩ := P5.out.xcells
  have P6 := Lib.hid (P5.out.put1 (B : Int))
  go_wp2_with fail
  generalize W5.setCell _ _ = W6 at P6 ⊢
  clear P5 c0 c1 c2 c3
  refine (must_st (w.heap.size + 1) x2 _ [115] (by exact P6.out.rd)).mono ?_
  rw [HM.out]
  rintro x W7 ⟨⟨v, rfl⟩, hq⟩
  have P7 := Lib.hid (P6.out.step hq)
  clear hq P6
  have P9 := Lib.hid ((P7.out.put0 (A : Int)).put1 (B : Int))
  obtain ⟨c0, c1, c2, c3⟩ := P7.out.xcells
  have hm1 : IntKind.i64.wrap (A : Int) = (A : Int) := IntWalk.i64_in _ (by omega)
  have hm2 : IntKind.i64.wrap (B : Int) = (B : Int) := IntWalk.i64_in _ (by omega)
  obtain ⟨q0, q1⟩ := P7.out.cells
  obtain ⟨t0, t1, t2, t3⟩ := P7.out.ans
  have hgx := P7.out.gt
  have hgl := P7.out.xs.lt
  have hg0 : w.heap.size < gx := by omega
  have hg1 : w.heap.size < W7.heap.size := by omega
  have hg2 : w.heap.size + 1 < W7.heap.size := by omega
  have ne1 : ¬ gx = w.heap.size := by omega
  have ne2 : ¬ gx = w.heap.size + 1 := by omega
  have ne3 : ¬ w.heap.size = gx := by omega
  have ne4 : ¬ w.heap.size + 1 = gx := by omega
  simp only at q0 q1
  go_wp2_with fail
  refine (validSpan_any (A : Int) (B : Int) _).mono ?_
  rw [HOK.out]
  rintro x W8 ⟨rfl, rfl⟩
  go_wp2
  refine bodyPost_ret (results_ps _ _ w.heap.size _ _ rfl (((P9.out.res.put 0 _).put 1 _).alloc _)) rfl ⟨rfl, ?_⟩
  exact ((P9.out.below.setCell (by simp) _).setCell (by simp) _).alloc (by have := P9.out.below.size; simp at this ⊢; exact this) _

theorem parseSpan_yes (s : List UInt8) (w : World) (ev : Addr) (he : EnvS w ev) (hs : s.length ≤ 1000) (r1 r2 : Int) (hy : parseS s = some (r1, r2)) :
    Calls Tryd.prog 16 #[.string ⟨s.toArray⟩] w fun e w' => e = .returned (.tuple #[.agg #[.int .i64 r1, .int .i64 r2], .nilIface]) ∧ Below w.heap.size w w' := by
  cases hp : Lib.hasPrefix s [45]
  · exact parseSpan_p s w ev he hs hp r1 r2 hy
  · exact parseSpan_m s w ev he hs hp r1 r2 hy
end Go.Proofs.YtacmlpgakibdgaaDoor
