/-
  Contracts: frame.Open: the walk.
-/
import Derived.Test.YtkpppjhbmnfmkaaGreatDoorFp
import Derived.Test.YtkpppjhbmnfmkaaGreatDoorJf
set_option linter.unusedSimpArgs false
set_option linter.unusedVariables false
namespace Go.Proofs.YtkpppjhbmnfmkaaGreatDoor
open Go.RowKit Go.Own Go.Own.Fr Go.Own.Im
theorem infSize : (Tryz.prog.info? 91).map (·.size) = some 18 := by kernel_rfl
theorem infC_one (i : Inf) (A A' : Option Addr) (n n' c c' : Nat) : (infC i (.slice A n c) (.slice A' n' c')).all (·.oneCell') = true := by
  simp [infC, Value.oneCell']
theorem rowOf_fl (t : Nat) : (rowOf t).2.2 ≤ 255 := by
  unfold rowOf
  split <;> decide
theorem open_start (W : World) (t f s : Nat) (v : Value) : ∃ W0 : World, (W.alloc (.cells #[.int .i64 (t : Nat), .int .i64 (f : Nat), .int .i64 (s : Nat), v] 24)).alloc (.cells #[.int .i64 0, .int .i64 0, .int .i64 0, .bool false, .bool false, .bool false, .bool false, .bool false, .bool false, .int .i64 0, .int .i64 0, .int .i64 0, .int .i64 0, .int .i64 0, .int .i64 0, .int .i64 0, .slice none 0 0, .slice none 0 0] 91) = W0 ∧
    Below W.heap.size W W0 ∧ W0.heap.size = W.heap.size + 2 ∧ Blk W0 W.heap.size 24 #[.int .i64 (t : Nat), .int .i64 (f : Nat), .int .i64 (s : Nat), v] ∧ Blk W0 (W.heap.size + 1) 91 (infC {} (.slice none 0 0) (.slice none 0 0)) := by
  refine ⟨_, rfl, ((Below.refl _ _).alloc (Nat.le_refl _) _).alloc (by simp) _, by simp, (Blk.new W _ _).alloc _, ?_⟩
  have h := Blk.new (W.alloc (.cells #[.int .i64 (t : Nat), .int .i64 (f : Nat), .int .i64 (s : Nat), v] 24)) 91 (infC {} (.slice none 0 0) (.slice none 0 0))
  rw [show (W.alloc (.cells #[.int .i64 (t : Nat), .int .i64 (f : Nat), .int .i64 (s : Nat), v] 24)).heap.size = W.heap.size + 1 by simp] at h
  exact h
theorem ew_base {w : World} {base base' : Nat} {v : Value} {l : List (Nat × Nat)} (h : SetO w base v l) (hb : base' ≤ base) : SetO w base' v l := by
  rcases h.2 with ⟨rfl, hl⟩ | ⟨g, cap, cur, rfl, hb', hh, hn, hm, hs, ht⟩
  · exact ⟨h.1, .inl ⟨rfl, hl⟩⟩
  · exact ⟨h.1, .inr ⟨g, cap, cur, rfl, Nat.le_trans hb hb', hh, hn, hm, hs, ht⟩⟩
/-- What holds while what a frame says is put together. -/
structure OpF (W X : World) (gi r4 g3 g6 g8 : Nat) (fr row cs : Array Value) : Prop where
  i : Blk X gi 91 cs
  r : Blk X r4 184 row
  f : Blk X W.heap.size 24 fr
  z : Blk X (W.heap.size + 1) 91 (infC {} (.slice none 0 0) (.slice none 0 0))
  e : ExS X g3 g6 g8
  b : Below W.heap.size W X
  n : gi = r4 + 1 ∧ W.heap.size + 2 ≤ r4
theorem ExC.set {w : World} {g b : Nat} {n : Int} {f : Value} {cs : Array Value} (h : ExC w g n f) (hb : Blk w b 91 cs) (k : Nat) (v : Value) : ExC (w.setCell ⟨b, k, none⟩ v) g n f :=
  ⟨h.1.far (h.1.apart hb (by decide)) v, h.2.far (h.2.apart hb (by decide)) v⟩
theorem OpF.put {W X : World} {gi r4 g3 g6 g8 : Nat} {fr row cs : Array Value} (h : OpF W X gi r4 g3 g6 g8 fr row cs) (k : Nat) (v : Value) : OpF W (X.setCell ⟨gi, k, none⟩ v) gi r4 g3 g6 g8 fr row (cs.setIfInBounds k v) :=
  ⟨h.i.put k v, h.r.far (by have := h.n; show r4 ≠ gi; omega) v, h.f.far (by have := h.n; show W.heap.size ≠ gi; omega) v, h.z.far (by have := h.n; show W.heap.size + 1 ≠ gi; omega) v,
    ⟨h.e.1.set h.i k v, h.e.2.1.set h.i k v, h.e.2.2.set h.i k v⟩, h.b.setCell (p := ⟨gi, k, none⟩) (by have := h.n; show W.heap.size ≤ gi; omega) v, h.n⟩
set_option maxHeartbeats 16000000 in
set_option maxRecDepth 100000 in
theorem open_any (t f s : Nat) (A : Option Addr) (n c B : Nat) (l : List UInt8) (W : World) (hr : Rd W B A n l) (hB : B ≤ W.heap.size) (ht : t ≤ 255) (hf : f ≤ 255) (hs : s ≤ 2147483647) (hp : hasF t f 8 = false)
    (hread : ∀ (W' : World) (g g3 g6 g8 : Nat), Below W.heap.size W W' → ExS W' g3 g6 g8 → Blk W' g 91 (infC (info0 t f s) (.slice none 0 0) (.slice none 0 0)) → W.heap.size ≤ g →
      ∃ K cap, rdV g3 g6 g8 t = .func (.func K) #[] cap ∧ Enters Tryz.prog K ∧ Calls Tryz.prog K (#[.pointer (some ⟨g, 0, none⟩), .slice A n c] ++ cap) W' (RdPost W' g (info0 t f s) l)) :
    Calls Tryz.prog 104 #[.agg #[.int .i64 (t : Nat), .int .i64 (f : Nat), .int .i64 (s : Nat), .slice A n c]] W (OpPost W t f s l) := by
  have HRead := Lib.hid hread
  have HP := Lib.hid hp
  have HSo := Lib.hid (fun w => sort_any t w ht)
  clear hread hp hr
  go_enter Tryz.func104, Tryz.ntmps104
  go_upto_region 1 with fail
  obtain ⟨W0, hW0, hb0, hz0, hx1, hx2⟩ := open_start W t f s (.slice A n c)
  rw [hW0]
  have HB0 := Lib.hid hb0
  have HZ := Lib.hid hz0
  have HX1 := Lib.hid hx1
  have HX2 := Lib.hid hx2
  have c0 : W0.cell? ⟨W.heap.size, 0, none⟩ = some (.int .i64 (t : Nat)) := hx1.cell 0
  clear hW0 hb0 hz0 hx1 hx2
  go_wp2_with fail
  refine (HSo.out W0).mono ?_
  rintro e W1 ⟨g3, g6, g8, rfl, hE, hb1⟩
  have HE := Lib.hid hE
  have HB1 := Lib.hid hb1
  clear c0 hE hb1
  have HX1a := Lib.hid (HX1.out.below HB1.out HX1.out.lt)
  have HX2a := Lib.hid (HX2.out.below HB1.out HX2.out.lt)
  obtain ⟨K1, cap1, hrv⟩ := rdV_form g3 g6 g8 t
  obtain ⟨K2, hwv⟩ := wrV_form t
  rw [hrv, hwv]
  obtain ⟨b1, hb1⟩ : ∃ b, (rowOf t).1 = b := ⟨_, rfl⟩
  obtain ⟨b2, hb2⟩ : ∃ b, (rowOf t).2.1 = b := ⟨_, rfl⟩
  obtain ⟨n3, hn3⟩ : ∃ b, (rowOf t).2.2 = b := ⟨_, rfl⟩
  obtain ⟨d9, hd9⟩ : ∃ b, decide (t ≤ 9) = b := ⟨_, rfl⟩
  rw [hb1, hb2, hn3, hd9]
  have HQ := Lib.hid (show (rowOf t).1 = b1 ∧ (rowOf t).2.1 = b2 ∧ (rowOf t).2.2 = n3 ∧ decide (t ≤ 9) = d9 ∧ rdV g3 g6 g8 t = .func (.func K1) #[] cap1 from ⟨hb1, hb2, hn3, hd9, hrv⟩)
  clear hb1 hb2 hn3 hd9 hrv hwv
  go_upto_region 2 with fail
  have HRow := Lib.hid (Blk.new W1 184 #[.bool b1, .bool b2, .int .i64 (n3 : Nat), .func (.func K1) #[] cap1, .func (.func K2) #[] #[]])
  have HB2 := Lib.hid ((HB0.out.trans (HB1.out.mono (by have := HZ.out; omega))).alloc (by have := HB1.out.size; have := HZ.out; omega) (.cells #[.bool b1, .bool b2, .int .i64 (n3 : Nat), .func (.func K1) #[] cap1, .func (.func K2) #[] #[]] 184))
  have HX1b := Lib.hid (HX1a.out.alloc (.cells #[.bool b1, .bool b2, .int .i64 (n3 : Nat), .func (.func K1) #[] cap1, .func (.func K2) #[] #[]] 184))
  have HX2b := Lib.hid (HX2a.out.alloc (.cells #[.bool b1, .bool b2, .int .i64 (n3 : Nat), .func (.func K1) #[] cap1, .func (.func K2) #[] #[]] 184))
  have HE2 := Lib.hid (HE.out.below ((Below.refl W1.heap.size W1).alloc (Nat.le_refl _) (.cells #[.bool b1, .bool b2, .int .i64 (n3 : Nat), .func (.func K1) #[] cap1, .func (.func K2) #[] #[]] 184)))
  have HZ2 := Lib.hid (show (W1.alloc (.cells #[.bool b1, .bool b2, .int .i64 (n3 : Nat), .func (.func K1) #[] cap1, .func (.func K2) #[] #[]] 184)).heap.size = W1.heap.size + 1 ∧ W.heap.size + 2 ≤ W1.heap.size by
    refine ⟨by simp, ?_⟩
    have := HB1.out.size
    have := HZ.out
    omega)
  generalize W1.alloc (.cells #[.bool b1, .bool b2, .int .i64 (n3 : Nat), .func (.func K1) #[] cap1, .func (.func K2) #[] #[]] 184) = W2 at HRow HB2 HX1b HX2b HE2 HZ2 ⊢
  obtain ⟨r4, hr4⟩ : ∃ r, W1.heap.size = r := ⟨_, rfl⟩
  rw [hr4] at HRow HZ2 ⊢
  clear hr4 HB1 HE HX1a HX2a HX1 HX2 HB0 HZ HSo
  obtain ⟨c0, c1, c2, c3⟩ : W2.cell? ⟨W.heap.size, 0, none⟩ = some (.int .i64 (t : Nat)) ∧ W2.cell? ⟨W.heap.size, 1, none⟩ = some (.int .i64 (f : Nat)) ∧ W2.cell? ⟨W.heap.size, 2, none⟩ = some (.int .i64 (s : Nat)) ∧ W2.cell? ⟨W.heap.size, 3, none⟩ = some (.slice A n c) := ⟨HX1b.out.cell 0, HX1b.out.cell 1, HX1b.out.cell 2, HX1b.out.cell 3⟩
  obtain ⟨q0, q1, q2, q3⟩ : W2.cell? ⟨r4, 0, none⟩ = some (.bool b1) ∧ W2.cell? ⟨r4, 1, none⟩ = some (.bool b2) ∧ W2.cell? ⟨r4, 2, none⟩ = some (.int .i64 (n3 : Nat)) ∧ W2.cell? ⟨r4, 3, none⟩ = some (.func (.func K1) #[] cap1) := ⟨HRow.out.cell 0, HRow.out.cell 1, HRow.out.cell 2, HRow.out.cell 3⟩
  go_upto_region 3 with (first
    | (refine wpList_rowPut _ rfl (.tmp 6) (.tmp 20) 91 rfl W2.heap.size 91 (infC {} (.slice none 0 0) (.slice none 0 0)) (infC { typ := t, stream := s } (.slice none 0 0) (.slice none 0 0)) rfl rfl (Blk.new W2 91 _) infSize rfl (infC_one _ _ _ _ _ _ _) ?_
       intro W3 hb3 hg3
       have HI := Lib.hid hb3
       have hg := grown_trans (World.grownBy_alloc W2 (.cells (infC {} (.slice none 0 0) (.slice none 0 0)) 91) (some W2.heap.size)) hg3
       have HB3 := Lib.hid (HB2.out.grown hg HB2.out.size (fun g e => by injection e with e; have := HB2.out.size; omega))
       have HX1c := Lib.hid (HX1b.out.grown hg (fun e => by injection e with e; have := HX1b.out.lt; omega))
       have HX2c := Lib.hid (HX2b.out.grown hg (fun e => by injection e with e; have := HX2b.out.lt; omega))
       have HRc := Lib.hid (HRow.out.grown hg (fun e => by injection e with e; have := HRow.out.lt; omega))
       have HE3 := Lib.hid (show ExS W3 g3 g6 g8 from HE2.out.below ⟨hg.os, hg.tape, hg.output, hg.size, fun i hi => hg.block i hi (fun e => by injection e with e; omega)⟩)
       have HZ3 := Lib.hid (show W2.heap.size = r4 + 1 ∧ W.heap.size + 2 ≤ r4 from HZ2.out)
       clear hb3 hg3 hg)
    | fail)
  obtain ⟨gi, hgi⟩ : ∃ r, W2.heap.size = r := ⟨_, rfl⟩
  rw [hgi] at HI HZ3 ⊢
  clear hgi c0 c1 c2 c3 q0 q1 q2 q3 HX1b HX2b HRow HB2 HE2 HZ2
  obtain ⟨c0, c1, c2, c3⟩ : W3.cell? ⟨W.heap.size, 0, none⟩ = some (.int .i64 (t : Nat)) ∧ W3.cell? ⟨W.heap.size, 1, none⟩ = some (.int .i64 (f : Nat)) ∧ W3.cell? ⟨W.heap.size, 2, none⟩ = some (.int .i64 (s : Nat)) ∧ W3.cell? ⟨W.heap.size, 3, none⟩ = some (.slice A n c) := ⟨HX1c.out.cell 0, HX1c.out.cell 1, HX1c.out.cell 2, HX1c.out.cell 3⟩
  obtain ⟨q0, q1, q2, q3⟩ : W3.cell? ⟨r4, 0, none⟩ = some (.bool b1) ∧ W3.cell? ⟨r4, 1, none⟩ = some (.bool b2) ∧ W3.cell? ⟨r4, 2, none⟩ = some (.int .i64 (n3 : Nat)) ∧ W3.cell? ⟨r4, 3, none⟩ = some (.func (.func K1) #[] cap1) := ⟨HRc.out.cell 0, HRc.out.cell 1, HRc.out.cell 2, HRc.out.cell 3⟩
  have hn3 : n3 ≤ 255 := by rw [← HQ.out.2.2.1]; exact rowOf_fl t
  have HHas := Lib.hid (fun (k : Nat) (hk : k ≤ 255) (W' : World) (h4 : W'.cell? ⟨r4, 2, none⟩ = some (.int .i64 (n3 : Nat))) (h1 : W'.cell? ⟨W.heap.size, 1, none⟩ = some (.int .i64 (f : Nat))) => has_any k n3 f r4 W.heap.size W' h4 h1 (by omega) (by omega) (by omega))
  clear hn3
  by_cases hbad : (s = 0 ∧ b1 = false) ∨ (s ≠ 0 ∧ b2 = false)
  · have HOp := Lib.hid (show opn t f s l = .error (1, 0) by
      obtain ⟨e1, e2, _⟩ := HQ.out
      unfold opn
      rw [e1, e2, if_pos hbad])
    have hs1 : W.heap.size + 1 < W3.heap.size := HX2c.out.lt
    by_cases hs0 : s = 0
    · obtain rfl : b1 = false := by rcases hbad with h | h <;> simp_all
      subst hs0
      clear hbad
      go_upto_region 4 with fail
      go_wp2_with fail
      refine (fault_any 1 0 _).mono ?_
      rintro e W4 ⟨rfl, hw⟩
      subst W4
      go_wp2_with (first
        | (refine wpList_rowPut _ rfl (.tmp 2) (.tmp 39) 91 rfl (W.heap.size + 1) 91 (infC {} (.slice none 0 0) (.slice none 0 0)) (infC {} (.slice none 0 0) (.slice none 0 0)) rfl rfl (HX2c.out.alloc _) infSize rfl (infC_one _ _ _ _ _ _ _) ?_
           intro W4 hb4 hg4)
        | fail)
      refine bodyPost_ret (results_open _ _ (W.heap.size + 1) {} _ _ _ rfl rfl hb4) rfl ⟨?_, ?_⟩
      · exact (HB3.out.alloc HB3.out.size _).grown hg4 (by have := HB3.out.size; simp; omega) (fun g e => by injection e with e; omega)
      · rw [HOp.out]
        refine ⟨W3.heap.size, rfl, HB3.out.size, ?_⟩
        exact (Blk.new W3 199 #[.int .i64 1, .int .i64 0]).grown hg4 (fun e => by injection e with e; omega)
    · obtain rfl : b2 = false := by rcases hbad with h | h <;> simp_all
      have hs0' : ¬ ((s : Int) = 0) := by omega
      clear hbad
      go_upto_region 4 with fail
      go_wp2_with fail
      refine (fault_any 1 0 _).mono ?_
      rintro e W4 ⟨rfl, hw⟩
      subst W4
      go_wp2_with (first
        | (refine wpList_rowPut _ rfl (.tmp 2) (.tmp 39) 91 rfl (W.heap.size + 1) 91 (infC {} (.slice none 0 0) (.slice none 0 0)) (infC {} (.slice none 0 0) (.slice none 0 0)) rfl rfl (HX2c.out.alloc _) infSize rfl (infC_one _ _ _ _ _ _ _) ?_
           intro W4 hb4 hg4)
        | fail)
      refine bodyPost_ret (results_open _ _ (W.heap.size + 1) {} _ _ _ rfl rfl hb4) rfl ⟨?_, ?_⟩
      · exact (HB3.out.alloc HB3.out.size _).grown hg4 (by have := HB3.out.size; simp; omega) (fun g e => by injection e with e; omega)
      · rw [HOp.out]
        refine ⟨W3.heap.size, rfl, HB3.out.size, ?_⟩
        exact (Blk.new W3 199 #[.int .i64 1, .int .i64 0]).grown hg4 (fun e => by injection e with e; omega)
  · have he8 : (n3 &&& f &&& 8 != 0) = false := by
      have h := HP.out
      unfold hasF at h
      rwa [HQ.out.2.2.1] at h
    obtain ⟨e4, he4⟩ : ∃ b, (n3 &&& f &&& 4 != 0) = b := ⟨_, rfl⟩
    obtain ⟨e32, he32⟩ : ∃ b, (n3 &&& f &&& 32 != 0) = b := ⟨_, rfl⟩
    obtain ⟨e1, he1⟩ : ∃ b, (n3 &&& f &&& 1 != 0) = b := ⟨_, rfl⟩
    have HH4 := Lib.hid (HHas.out 4 (by omega))
    have HH8 := Lib.hid (HHas.out 8 (by omega))
    have HH32 := Lib.hid (HHas.out 32 (by omega))
    have HH1 := Lib.hid (HHas.out 1 (by omega))
    rw [he4] at HH4
    rw [he8] at HH8
    rw [he32] at HH32
    rw [he1] at HH1
    have HInf := Lib.hid (show info0 t f s = { typ := t, stream := s, flags := if d9 = true then 0 else f, endHeads := e4, padded := false, prio := e32, ack := b1 && e1, endd := !b1 && e1 } by
      obtain ⟨r1, _, r3, r4, _⟩ := HQ.out
      unfold info0 hasF
      rw [r1, r3, he4, he8, he32, he1, ← r4]
      simp)
    have HOp := Lib.hid (show opn t f s l = rd (info0 t f s) l by
      obtain ⟨r1, r2, _⟩ := HQ.out
      unfold opn
      rw [r1, r2, if_neg hbad, HP.out]
      simp)
    clear he8 he4 he32 he1
    have hmf : ∀ (fn : Fn) (first cap : Array Value) (w : World), (Instr.makeFunc fn first cap).run Tryz.prog w = .ok (.func fn first cap) w := fun _ _ _ _ => rfl
    have g1 : W3.cell? ⟨gi, 1, none⟩ = some (.int .i64 0) := HI.out.cell 1
    have g3' : W3.cell? ⟨gi, 3, none⟩ = some (.bool false) := HI.out.cell 3
    have g4 : W3.cell? ⟨gi, 4, none⟩ = some (.bool false) := HI.out.cell 4
    have g5 : W3.cell? ⟨gi, 5, none⟩ = some (.bool false) := HI.out.cell 5
    have g6' : W3.cell? ⟨gi, 6, none⟩ = some (.bool false) := HI.out.cell 6
    have g7 : W3.cell? ⟨gi, 7, none⟩ = some (.bool false) := HI.out.cell 7
    have f1 := HI.out.frozen 1
    have f3 := HI.out.frozen 3
    have f4 := HI.out.frozen 4
    have f5 := HI.out.frozen 5
    have f6 := HI.out.frozen 6
    have f7 := HI.out.frozen 7
    have n1 : ¬ W.heap.size = gi := by have := HZ3.out; omega
    have n2 : ¬ r4 = gi := by have := HZ3.out; omega
    have n1' : ¬ gi = W.heap.size := by have := HZ3.out; omega
    have n2' : ¬ gi = r4 := by have := HZ3.out; omega
    by_cases hs0 : s = 0
    · obtain rfl : b1 = true := by
        rcases b1 with _ | _
        · exact absurd (.inl ⟨hs0, rfl⟩) hbad
        · rfl
      have hs0' : (s : Int) = 0 := by omega
      clear hbad
      rcases d9 with _ | _
      · have HF0 := Lib.hid (show OpF W W3 gi r4 g3 g6 g8 _ _ _ from ⟨HI.out, HRc.out, HX1c.out, HX2c.out, HE3.out, HB3.out, HZ3.out⟩)
        have HFa := Lib.hid (HF0.out.put 1 (.int .i64 (f : Nat)))
        go_wp2_with fail
        refine (HH4.out _ (HFa.out.r.cell 2) (HFa.out.f.cell 1)).mono ?_
        rintro e w' ⟨rfl, hw⟩
        subst w'
        go_wp2_with fail
        refine (HH8.out _ (HFa.out.r.cell 2) (HFa.out.f.cell 1)).mono ?_
        rintro e w' ⟨rfl, hw⟩
        subst w'
        go_wp2_with fail
        refine (HH32.out _ (HFa.out.r.cell 2) (HFa.out.f.cell 1)).mono ?_
        rintro e w' ⟨rfl, hw⟩
        subst w'
        have HFb := Lib.hid (((HFa.out.put 4 (.bool e4)).put 6 (.bool false)).put 7 (.bool e32))
        go_wp2_with fail
        refine (HH1.out _ (HFb.out.r.cell 2) (HFb.out.f.cell 1)).mono ?_
        rintro e w' ⟨rfl, hw⟩
        subst w'
        have HFc := Lib.hid (HFb.out.put 5 (.bool e1))
        obtain ⟨K, cap, hK, hE, hcall⟩ := HRead.out _ gi g3 g6 g8 HFc.out.b HFc.out.e (by rw [HInf.out]; exact HFc.out.i) (by have := HFc.out.n; omega)
        have hKK := HQ.out.2.2.2.2.symm.trans hK
        injection hKK with hK1 _ hc1
        injection hK1 with hK1
        subst hK1 hc1
        have hE : ∀ args w, (callFunc K1 args).run Tryz.prog w = .ok (.enter K1 args) w := hE
        have HCall := Lib.hid hcall
        clear hcall hK
        go_wp2_with fail
        refine HCall.out.mono ?_
        intro e w' h
        obtain ⟨hg, hm⟩ := h
        have HFz := Lib.hid (HFc.out.z.grown hg (fun e => by injection e with e; have := HFc.out.n; omega))
        have HBw := Lib.hid (HFc.out.b.grown hg HFc.out.b.size (fun g e => by injection e with e; have := HFc.out.n; omega))
        have HSz := Lib.hid (show W.heap.size + 2 ≤ W3.heap.size from by have := HI.out.lt; have := HZ3.out; omega)
        clear hg HCall HRead HH1 HH4 HH8 HH32 HHas g1 g3' g4 g5 g6' g7 f1 f3 f4 f5 f6 f7
        cases hrd : rd (info0 t f s) l with
        | ok j =>
          rw [hrd] at hm
          obtain ⟨rfl, sv, dv, hbj, hsv, hdv⟩ := hm
          obtain ⟨A5, c5, rfl, _, _⟩ := hsv.form
          obtain ⟨A6, c6, rfl, _, _, _⟩ := hdv.form
          have HBj := Lib.hid hbj
          have HSv := Lib.hid hsv
          have HDv := Lib.hid hdv
          have HRd := Lib.hid hrd
          clear hbj hsv hdv hrd
          go_wp2_with (first
            | (refine wpList_rowGet _ rfl (.tmp 6) 91 rfl gi 91 _ rfl HBj.out _ Tryz.underlying91 rfl infSize ?_)
            | (refine wpList_rowPut _ rfl (.tmp 2) (.tmp 100) 91 rfl (W.heap.size + 1) 91 (infC {} (.slice none 0 0) (.slice none 0 0)) _ rfl rfl HFz.out infSize rfl (infC_one _ _ _ _ _ _ _) ?_
               intro W5 hb5 hg5)
            | fail)
          refine bodyPost_ret (results_open _ _ (W.heap.size + 1) j _ _ _ rfl rfl hb5) rfl ⟨HBw.out.grown hg5 HBw.out.size (fun g e => by injection e with e; omega), ?_⟩
          rw [HOp.out, HRd.out]
          refine ⟨_, _, rfl, ew_base (HSv.out.grown hg5 (.inr fun e => ?_)) HFc.out.b.size, (HDv.out.grown hg5 (.inr fun e => ?_)).base HFc.out.b.size⟩
          · have h1 := (HSv.out.lt _ e).1
            have h2 := HFc.out.z.lt
            omega
          · have h1 := (HDv.out.lt e).2
            have h2 := HFc.out.z.lt
            omega
        | error x =>
          rw [hrd] at hm
          obtain ⟨a, rfl, ha, hba⟩ := hm
          have HRd := Lib.hid hrd
          have HBa := Lib.hid hba
          have HA := Lib.hid ha
          clear hrd hba ha
          go_wp2_with (first
            | (refine wpList_rowPut _ rfl (.tmp 2) (.tmp 98) 91 rfl (W.heap.size + 1) 91 (infC {} (.slice none 0 0) (.slice none 0 0)) (infC {} (.slice none 0 0) (.slice none 0 0)) rfl rfl HFz.out infSize rfl (infC_one _ _ _ _ _ _ _) ?_
               intro W5 hb5 hg5)
            | fail)
          refine bodyPost_ret (results_open _ _ (W.heap.size + 1) {} _ _ _ rfl rfl hb5) rfl ⟨HBw.out.grown hg5 HBw.out.size (fun g e => by injection e with e; omega), ?_⟩
          rw [HOp.out, HRd.out]
          exact ⟨a, rfl, Nat.le_trans HFc.out.b.size HA.out, HBa.out.grown hg5 (fun e => by injection e with e; have := HA.out; have := HFc.out.z.lt; omega)⟩
      · have HF0 := Lib.hid (show OpF W W3 gi r4 g3 g6 g8 _ _ _ from ⟨HI.out, HRc.out, HX1c.out, HX2c.out, HE3.out, HB3.out, HZ3.out⟩)
        have HFa := HF0
        go_wp2_with fail
        refine (HH4.out _ (HFa.out.r.cell 2) (HFa.out.f.cell 1)).mono ?_
        rintro e w' ⟨rfl, hw⟩
        subst w'
        go_wp2_with fail
        refine (HH8.out _ (HFa.out.r.cell 2) (HFa.out.f.cell 1)).mono ?_
        rintro e w' ⟨rfl, hw⟩
        subst w'
        go_wp2_with fail
        refine (HH32.out _ (HFa.out.r.cell 2) (HFa.out.f.cell 1)).mono ?_
        rintro e w' ⟨rfl, hw⟩
        subst w'
        have HFb := Lib.hid (((HFa.out.put 4 (.bool e4)).put 6 (.bool false)).put 7 (.bool e32))
        go_wp2_with fail
        refine (HH1.out _ (HFb.out.r.cell 2) (HFb.out.f.cell 1)).mono ?_
        rintro e w' ⟨rfl, hw⟩
        subst w'
        have HFc := Lib.hid (HFb.out.put 5 (.bool e1))
        obtain ⟨K, cap, hK, hE, hcall⟩ := HRead.out _ gi g3 g6 g8 HFc.out.b HFc.out.e (by rw [HInf.out]; exact HFc.out.i) (by have := HFc.out.n; omega)
        have hKK := HQ.out.2.2.2.2.symm.trans hK
        injection hKK with hK1 _ hc1
        injection hK1 with hK1
        subst hK1 hc1
        have hE : ∀ args w, (callFunc K1 args).run Tryz.prog w = .ok (.enter K1 args) w := hE
        have HCall := Lib.hid hcall
        clear hcall hK
        go_wp2_with fail
        refine HCall.out.mono ?_
        intro e w' h
        obtain ⟨hg, hm⟩ := h
        have HFz := Lib.hid (HFc.out.z.grown hg (fun e => by injection e with e; have := HFc.out.n; omega))
        have HBw := Lib.hid (HFc.out.b.grown hg HFc.out.b.size (fun g e => by injection e with e; have := HFc.out.n; omega))
        have HSz := Lib.hid (show W.heap.size + 2 ≤ W3.heap.size from by have := HI.out.lt; have := HZ3.out; omega)
        clear hg HCall HRead HH1 HH4 HH8 HH32 HHas g1 g3' g4 g5 g6' g7 f1 f3 f4 f5 f6 f7
        cases hrd : rd (info0 t f s) l with
        | ok j =>
          rw [hrd] at hm
          obtain ⟨rfl, sv, dv, hbj, hsv, hdv⟩ := hm
          obtain ⟨A5, c5, rfl, _, _⟩ := hsv.form
          obtain ⟨A6, c6, rfl, _, _, _⟩ := hdv.form
          have HBj := Lib.hid hbj
          have HSv := Lib.hid hsv
          have HDv := Lib.hid hdv
          have HRd := Lib.hid hrd
          clear hbj hsv hdv hrd
          go_wp2_with (first
            | (refine wpList_rowGet _ rfl (.tmp 6) 91 rfl gi 91 _ rfl HBj.out _ Tryz.underlying91 rfl infSize ?_)
            | (refine wpList_rowPut _ rfl (.tmp 2) (.tmp 100) 91 rfl (W.heap.size + 1) 91 (infC {} (.slice none 0 0) (.slice none 0 0)) _ rfl rfl HFz.out infSize rfl (infC_one _ _ _ _ _ _ _) ?_
               intro W5 hb5 hg5)
            | fail)
          refine bodyPost_ret (results_open _ _ (W.heap.size + 1) j _ _ _ rfl rfl hb5) rfl ⟨HBw.out.grown hg5 HBw.out.size (fun g e => by injection e with e; omega), ?_⟩
          rw [HOp.out, HRd.out]
          refine ⟨_, _, rfl, ew_base (HSv.out.grown hg5 (.inr fun e => ?_)) HFc.out.b.size, (HDv.out.grown hg5 (.inr fun e => ?_)).base HFc.out.b.size⟩
          · have h1 := (HSv.out.lt _ e).1
            have h2 := HFc.out.z.lt
            omega
          · have h1 := (HDv.out.lt e).2
            have h2 := HFc.out.z.lt
            omega
        | error x =>
          rw [hrd] at hm
          obtain ⟨a, rfl, ha, hba⟩ := hm
          have HRd := Lib.hid hrd
          have HBa := Lib.hid hba
          have HA := Lib.hid ha
          clear hrd hba ha
          go_wp2_with (first
            | (refine wpList_rowPut _ rfl (.tmp 2) (.tmp 98) 91 rfl (W.heap.size + 1) 91 (infC {} (.slice none 0 0) (.slice none 0 0)) (infC {} (.slice none 0 0) (.slice none 0 0)) rfl rfl HFz.out infSize rfl (infC_one _ _ _ _ _ _ _) ?_
               intro W5 hb5 hg5)
            | fail)
          refine bodyPost_ret (results_open _ _ (W.heap.size + 1) {} _ _ _ rfl rfl hb5) rfl ⟨HBw.out.grown hg5 HBw.out.size (fun g e => by injection e with e; omega), ?_⟩
          rw [HOp.out, HRd.out]
          exact ⟨a, rfl, Nat.le_trans HFc.out.b.size HA.out, HBa.out.grown hg5 (fun e => by injection e with e; have := HA.out; have := HFc.out.z.lt; omega)⟩
    · obtain rfl : b2 = true := by
        rcases b2 with _ | _
        · exact absurd (.inr ⟨hs0, rfl⟩) hbad
        · rfl
      have hs0' : ¬ (s : Int) = 0 := by omega
      clear hbad
      rcases b1 with _ | _
      · rcases d9 with _ | _
        · have HF0 := Lib.hid (show OpF W W3 gi r4 g3 g6 g8 _ _ _ from ⟨HI.out, HRc.out, HX1c.out, HX2c.out, HE3.out, HB3.out, HZ3.out⟩)
          have HFa := Lib.hid (HF0.out.put 1 (.int .i64 (f : Nat)))
          go_wp2_with fail
          refine (HH4.out _ (HFa.out.r.cell 2) (HFa.out.f.cell 1)).mono ?_
          rintro e w' ⟨rfl, hw⟩
          subst w'
          go_wp2_with fail
          refine (HH8.out _ (HFa.out.r.cell 2) (HFa.out.f.cell 1)).mono ?_
          rintro e w' ⟨rfl, hw⟩
          subst w'
          go_wp2_with fail
          refine (HH32.out _ (HFa.out.r.cell 2) (HFa.out.f.cell 1)).mono ?_
          rintro e w' ⟨rfl, hw⟩
          subst w'
          have HFb := Lib.hid (((HFa.out.put 4 (.bool e4)).put 6 (.bool false)).put 7 (.bool e32))
          go_wp2_with fail
          refine (HH1.out _ (HFb.out.r.cell 2) (HFb.out.f.cell 1)).mono ?_
          rintro e w' ⟨rfl, hw⟩
          subst w'
          have HFc := Lib.hid (HFb.out.put 3 (.bool e1))
          obtain ⟨K, cap, hK, hE, hcall⟩ := HRead.out _ gi g3 g6 g8 HFc.out.b HFc.out.e (by rw [HInf.out]; exact HFc.out.i) (by have := HFc.out.n; omega)
          have hKK := HQ.out.2.2.2.2.symm.trans hK
          injection hKK with hK1 _ hc1
          injection hK1 with hK1
          subst hK1 hc1
          have hE : ∀ args w, (callFunc K1 args).run Tryz.prog w = .ok (.enter K1 args) w := hE
          have HCall := Lib.hid hcall
          clear hcall hK
          go_wp2_with fail
          refine HCall.out.mono ?_
          intro e w' h
          obtain ⟨hg, hm⟩ := h
          have HFz := Lib.hid (HFc.out.z.grown hg (fun e => by injection e with e; have := HFc.out.n; omega))
          have HBw := Lib.hid (HFc.out.b.grown hg HFc.out.b.size (fun g e => by injection e with e; have := HFc.out.n; omega))
          have HSz := Lib.hid (show W.heap.size + 2 ≤ W3.heap.size from by have := HI.out.lt; have := HZ3.out; omega)
          clear hg HCall HRead HH1 HH4 HH8 HH32 HHas g1 g3' g4 g5 g6' g7 f1 f3 f4 f5 f6 f7
          cases hrd : rd (info0 t f s) l with
          | ok j =>
            rw [hrd] at hm
            obtain ⟨rfl, sv, dv, hbj, hsv, hdv⟩ := hm
            obtain ⟨A5, c5, rfl, _, _⟩ := hsv.form
            obtain ⟨A6, c6, rfl, _, _, _⟩ := hdv.form
            have HBj := Lib.hid hbj
            have HSv := Lib.hid hsv
            have HDv := Lib.hid hdv
            have HRd := Lib.hid hrd
            clear hbj hsv hdv hrd
            go_wp2_with (first
              | (refine wpList_rowGet _ rfl (.tmp 6) 91 rfl gi 91 _ rfl HBj.out _ Tryz.underlying91 rfl infSize ?_)
              | (refine wpList_rowPut _ rfl (.tmp 2) (.tmp 100) 91 rfl (W.heap.size + 1) 91 (infC {} (.slice none 0 0) (.slice none 0 0)) _ rfl rfl HFz.out infSize rfl (infC_one _ _ _ _ _ _ _) ?_
                 intro W5 hb5 hg5)
              | fail)
            refine bodyPost_ret (results_open _ _ (W.heap.size + 1) j _ _ _ rfl rfl hb5) rfl ⟨HBw.out.grown hg5 HBw.out.size (fun g e => by injection e with e; omega), ?_⟩
            rw [HOp.out, HRd.out]
            refine ⟨_, _, rfl, ew_base (HSv.out.grown hg5 (.inr fun e => ?_)) HFc.out.b.size, (HDv.out.grown hg5 (.inr fun e => ?_)).base HFc.out.b.size⟩
            · have h1 := (HSv.out.lt _ e).1
              have h2 := HFc.out.z.lt
              omega
            · have h1 := (HDv.out.lt e).2
              have h2 := HFc.out.z.lt
              omega
          | error x =>
            rw [hrd] at hm
            obtain ⟨a, rfl, ha, hba⟩ := hm
            have HRd := Lib.hid hrd
            have HBa := Lib.hid hba
            have HA := Lib.hid ha
            clear hrd hba ha
            go_wp2_with (first
              | (refine wpList_rowPut _ rfl (.tmp 2) (.tmp 98) 91 rfl (W.heap.size + 1) 91 (infC {} (.slice none 0 0) (.slice none 0 0)) (infC {} (.slice none 0 0) (.slice none 0 0)) rfl rfl HFz.out infSize rfl (infC_one _ _ _ _ _ _ _) ?_
                 intro W5 hb5 hg5)
              | fail)
            refine bodyPost_ret (results_open _ _ (W.heap.size + 1) {} _ _ _ rfl rfl hb5) rfl ⟨HBw.out.grown hg5 HBw.out.size (fun g e => by injection e with e; omega), ?_⟩
            rw [HOp.out, HRd.out]
            exact ⟨a, rfl, Nat.le_trans HFc.out.b.size HA.out, HBa.out.grown hg5 (fun e => by injection e with e; have := HA.out; have := HFc.out.z.lt; omega)⟩
        · have HF0 := Lib.hid (show OpF W W3 gi r4 g3 g6 g8 _ _ _ from ⟨HI.out, HRc.out, HX1c.out, HX2c.out, HE3.out, HB3.out, HZ3.out⟩)
          have HFa := HF0
          go_wp2_with fail
          refine (HH4.out _ (HFa.out.r.cell 2) (HFa.out.f.cell 1)).mono ?_
          rintro e w' ⟨rfl, hw⟩
          subst w'
          go_wp2_with fail
          refine (HH8.out _ (HFa.out.r.cell 2) (HFa.out.f.cell 1)).mono ?_
          rintro e w' ⟨rfl, hw⟩
          subst w'
          go_wp2_with fail
          refine (HH32.out _ (HFa.out.r.cell 2) (HFa.out.f.cell 1)).mono ?_
          rintro e w' ⟨rfl, hw⟩
          subst w'
          have HFb := Lib.hid (((HFa.out.put 4 (.bool e4)).put 6 (.bool false)).put 7 (.bool e32))
          go_wp2_with fail
          refine (HH1.out _ (HFb.out.r.cell 2) (HFb.out.f.cell 1)).mono ?_
          rintro e w' ⟨rfl, hw⟩
          subst w'
          have HFc := Lib.hid (HFb.out.put 3 (.bool e1))
          obtain ⟨K, cap, hK, hE, hcall⟩ := HRead.out _ gi g3 g6 g8 HFc.out.b HFc.out.e (by rw [HInf.out]; exact HFc.out.i) (by have := HFc.out.n; omega)
          have hKK := HQ.out.2.2.2.2.symm.trans hK
          injection hKK with hK1 _ hc1
          injection hK1 with hK1
          subst hK1 hc1
          have hE : ∀ args w, (callFunc K1 args).run Tryz.prog w = .ok (.enter K1 args) w := hE
          have HCall := Lib.hid hcall
          clear hcall hK
          go_wp2_with fail
          refine HCall.out.mono ?_
          intro e w' h
          obtain ⟨hg, hm⟩ := h
          have HFz := Lib.hid (HFc.out.z.grown hg (fun e => by injection e with e; have := HFc.out.n; omega))
          have HBw := Lib.hid (HFc.out.b.grown hg HFc.out.b.size (fun g e => by injection e with e; have := HFc.out.n; omega))
          have HSz := Lib.hid (show W.heap.size + 2 ≤ W3.heap.size from by have := HI.out.lt; have := HZ3.out; omega)
          clear hg HCall HRead HH1 HH4 HH8 HH32 HHas g1 g3' g4 g5 g6' g7 f1 f3 f4 f5 f6 f7
          cases hrd : rd (info0 t f s) l with
          | ok j =>
            rw [hrd] at hm
            obtain ⟨rfl, sv, dv, hbj, hsv, hdv⟩ := hm
            obtain ⟨A5, c5, rfl, _, _⟩ := hsv.form
            obtain ⟨A6, c6, rfl, _, _, _⟩ := hdv.form
            have HBj := Lib.hid hbj
            have HSv := Lib.hid hsv
            have HDv := Lib.hid hdv
            have HRd := Lib.hid hrd
            clear hbj hsv hdv hrd
            go_wp2_with (first
              | (refine wpList_rowGet _ rfl (.tmp 6) 91 rfl gi 91 _ rfl HBj.out _ Tryz.underlying91 rfl infSize ?_)
              | (refine wpList_rowPut _ rfl (.tmp 2) (.tmp 100) 91 rfl (W.heap.size + 1) 91 (infC {} (.slice none 0 0) (.slice none 0 0)) _ rfl rfl HFz.out infSize rfl (infC_one _ _ _ _ _ _ _) ?_
                 intro W5 hb5 hg5)
              | fail)
            refine bodyPost_ret (results_open _ _ (W.heap.size + 1) j _ _ _ rfl rfl hb5) rfl ⟨HBw.out.grown hg5 HBw.out.size (fun g e => by injection e with e; omega), ?_⟩
            rw [HOp.out, HRd.out]
            refine ⟨_, _, rfl, ew_base (HSv.out.grown hg5 (.inr fun e => ?_)) HFc.out.b.size, (HDv.out.grown hg5 (.inr fun e => ?_)).base HFc.out.b.size⟩
            · have h1 := (HSv.out.lt _ e).1
              have h2 := HFc.out.z.lt
              omega
            · have h1 := (HDv.out.lt e).2
              have h2 := HFc.out.z.lt
              omega
          | error x =>
            rw [hrd] at hm
            obtain ⟨a, rfl, ha, hba⟩ := hm
            have HRd := Lib.hid hrd
            have HBa := Lib.hid hba
            have HA := Lib.hid ha
            clear hrd hba ha
            go_wp2_with (first
              | (refine wpList_rowPut _ rfl (.tmp 2) (.tmp 98) 91 rfl (W.heap.size + 1) 91 (infC {} (.slice none 0 0) (.slice none 0 0)) (infC {} (.slice none 0 0) (.slice none 0 0)) rfl rfl HFz.out infSize rfl (infC_one _ _ _ _ _ _ _) ?_
                 intro W5 hb5 hg5)
              | fail)
            refine bodyPost_ret (results_open _ _ (W.heap.size + 1) {} _ _ _ rfl rfl hb5) rfl ⟨HBw.out.grown hg5 HBw.out.size (fun g e => by injection e with e; omega), ?_⟩
            rw [HOp.out, HRd.out]
            exact ⟨a, rfl, Nat.le_trans HFc.out.b.size HA.out, HBa.out.grown hg5 (fun e => by injection e with e; have := HA.out; have := HFc.out.z.lt; omega)⟩
      · rcases d9 with _ | _
        · have HF0 := Lib.hid (show OpF W W3 gi r4 g3 g6 g8 _ _ _ from ⟨HI.out, HRc.out, HX1c.out, HX2c.out, HE3.out, HB3.out, HZ3.out⟩)
          have HFa := Lib.hid (HF0.out.put 1 (.int .i64 (f : Nat)))
          go_wp2_with fail
          refine (HH4.out _ (HFa.out.r.cell 2) (HFa.out.f.cell 1)).mono ?_
          rintro e w' ⟨rfl, hw⟩
          subst w'
          go_wp2_with fail
          refine (HH8.out _ (HFa.out.r.cell 2) (HFa.out.f.cell 1)).mono ?_
          rintro e w' ⟨rfl, hw⟩
          subst w'
          go_wp2_with fail
          refine (HH32.out _ (HFa.out.r.cell 2) (HFa.out.f.cell 1)).mono ?_
          rintro e w' ⟨rfl, hw⟩
          subst w'
          have HFb := Lib.hid (((HFa.out.put 4 (.bool e4)).put 6 (.bool false)).put 7 (.bool e32))
          go_wp2_with fail
          refine (HH1.out _ (HFb.out.r.cell 2) (HFb.out.f.cell 1)).mono ?_
          rintro e w' ⟨rfl, hw⟩
          subst w'
          have HFc := Lib.hid (HFb.out.put 5 (.bool e1))
          obtain ⟨K, cap, hK, hE, hcall⟩ := HRead.out _ gi g3 g6 g8 HFc.out.b HFc.out.e (by rw [HInf.out]; exact HFc.out.i) (by have := HFc.out.n; omega)
          have hKK := HQ.out.2.2.2.2.symm.trans hK
          injection hKK with hK1 _ hc1
          injection hK1 with hK1
          subst hK1 hc1
          have hE : ∀ args w, (callFunc K1 args).run Tryz.prog w = .ok (.enter K1 args) w := hE
          have HCall := Lib.hid hcall
          clear hcall hK
          go_wp2_with fail
          refine HCall.out.mono ?_
          intro e w' h
          obtain ⟨hg, hm⟩ := h
          have HFz := Lib.hid (HFc.out.z.grown hg (fun e => by injection e with e; have := HFc.out.n; omega))
          have HBw := Lib.hid (HFc.out.b.grown hg HFc.out.b.size (fun g e => by injection e with e; have := HFc.out.n; omega))
          have HSz := Lib.hid (show W.heap.size + 2 ≤ W3.heap.size from by have := HI.out.lt; have := HZ3.out; omega)
          clear hg HCall HRead HH1 HH4 HH8 HH32 HHas g1 g3' g4 g5 g6' g7 f1 f3 f4 f5 f6 f7
          cases hrd : rd (info0 t f s) l with
          | ok j =>
            rw [hrd] at hm
            obtain ⟨rfl, sv, dv, hbj, hsv, hdv⟩ := hm
            obtain ⟨A5, c5, rfl, _, _⟩ := hsv.form
            obtain ⟨A6, c6, rfl, _, _, _⟩ := hdv.form
            have HBj := Lib.hid hbj
            have HSv := Lib.hid hsv
            have HDv := Lib.hid hdv
            have HRd := Lib.hid hrd
            clear hbj hsv hdv hrd
            go_wp2_with (first
              | (refine wpList_rowGet _ rfl (.tmp 6) 91 rfl gi 91 _ rfl HBj.out _ Tryz.underlying91 rfl infSize ?_)
              | (refine wpList_rowPut _ rfl (.tmp 2) (.tmp 100) 91 rfl (W.heap.size + 1) 91 (infC {} (.slice none 0 0) (.slice none 0 0)) _ rfl rfl HFz.out infSize rfl (infC_one _ _ _ _ _ _ _) ?_
                 intro W5 hb5 hg5)
              | fail)
            refine bodyPost_ret (results_open _ _ (W.heap.size + 1) j _ _ _ rfl rfl hb5) rfl ⟨HBw.out.grown hg5 HBw.out.size (fun g e => by injection e with e; omega), ?_⟩
            rw [HOp.out, HRd.out]
            refine ⟨_, _, rfl, ew_base (HSv.out.grown hg5 (.inr fun e => ?_)) HFc.out.b.size, (HDv.out.grown hg5 (.inr fun e => ?_)).base HFc.out.b.size⟩
            · have h1 := (HSv.out.lt _ e).1
              have h2 := HFc.out.z.lt
              omega
            · have h1 := (HDv.out.lt e).2
              have h2 := HFc.out.z.lt
              omega
          | error x =>
            rw [hrd] at hm
            obtain ⟨a, rfl, ha, hba⟩ := hm
            have HRd := Lib.hid hrd
            have HBa := Lib.hid hba
            have HA := Lib.hid ha
            clear hrd hba ha
            go_wp2_with (first
              | (refine wpList_rowPut _ rfl (.tmp 2) (.tmp 98) 91 rfl (W.heap.size + 1) 91 (infC {} (.slice none 0 0) (.slice none 0 0)) (infC {} (.slice none 0 0) (.slice none 0 0)) rfl rfl HFz.out infSize rfl (infC_one _ _ _ _ _ _ _) ?_
                 intro W5 hb5 hg5)
              | fail)
            refine bodyPost_ret (results_open _ _ (W.heap.size + 1) {} _ _ _ rfl rfl hb5) rfl ⟨HBw.out.grown hg5 HBw.out.size (fun g e => by injection e with e; omega), ?_⟩
            rw [HOp.out, HRd.out]
            exact ⟨a, rfl, Nat.le_trans HFc.out.b.size HA.out, HBa.out.grown hg5 (fun e => by injection e with e; have := HA.out; have := HFc.out.z.lt; omega)⟩
        · have HF0 := Lib.hid (show OpF W W3 gi r4 g3 g6 g8 _ _ _ from ⟨HI.out, HRc.out, HX1c.out, HX2c.out, HE3.out, HB3.out, HZ3.out⟩)
          have HFa := HF0
          go_wp2_with fail
          refine (HH4.out _ (HFa.out.r.cell 2) (HFa.out.f.cell 1)).mono ?_
          rintro e w' ⟨rfl, hw⟩
          subst w'
          go_wp2_with fail
          refine (HH8.out _ (HFa.out.r.cell 2) (HFa.out.f.cell 1)).mono ?_
          rintro e w' ⟨rfl, hw⟩
          subst w'
          go_wp2_with fail
          refine (HH32.out _ (HFa.out.r.cell 2) (HFa.out.f.cell 1)).mono ?_
          rintro e w' ⟨rfl, hw⟩
          subst w'
          have HFb := Lib.hid (((HFa.out.put 4 (.bool e4)).put 6 (.bool false)).put 7 (.bool e32))
          go_wp2_with fail
          refine (HH1.out _ (HFb.out.r.cell 2) (HFb.out.f.cell 1)).mono ?_
          rintro e w' ⟨rfl, hw⟩
          subst w'
          have HFc := Lib.hid (HFb.out.put 5 (.bool e1))
          obtain ⟨K, cap, hK, hE, hcall⟩ := HRead.out _ gi g3 g6 g8 HFc.out.b HFc.out.e (by rw [HInf.out]; exact HFc.out.i) (by have := HFc.out.n; omega)
          have hKK := HQ.out.2.2.2.2.symm.trans hK
          injection hKK with hK1 _ hc1
          injection hK1 with hK1
          subst hK1 hc1
          have hE : ∀ args w, (callFunc K1 args).run Tryz.prog w = .ok (.enter K1 args) w := hE
          have HCall := Lib.hid hcall
          clear hcall hK
          go_wp2_with fail
          refine HCall.out.mono ?_
          intro e w' h
          obtain ⟨hg, hm⟩ := h
          have HFz := Lib.hid (HFc.out.z.grown hg (fun e => by injection e with e; have := HFc.out.n; omega))
          have HBw := Lib.hid (HFc.out.b.grown hg HFc.out.b.size (fun g e => by injection e with e; have := HFc.out.n; omega))
          have HSz := Lib.hid (show W.heap.size + 2 ≤ W3.heap.size from by have := HI.out.lt; have := HZ3.out; omega)
          clear hg HCall HRead HH1 HH4 HH8 HH32 HHas g1 g3' g4 g5 g6' g7 f1 f3 f4 f5 f6 f7
          cases hrd : rd (info0 t f s) l with
          | ok j =>
            rw [hrd] at hm
            obtain ⟨rfl, sv, dv, hbj, hsv, hdv⟩ := hm
            obtain ⟨A5, c5, rfl, _, _⟩ := hsv.form
            obtain ⟨A6, c6, rfl, _, _, _⟩ := hdv.form
            have HBj := Lib.hid hbj
            have HSv := Lib.hid hsv
            have HDv := Lib.hid hdv
            have HRd := Lib.hid hrd
            clear hbj hsv hdv hrd
            go_wp2_with (first
              | (refine wpList_rowGet _ rfl (.tmp 6) 91 rfl gi 91 _ rfl HBj.out _ Tryz.underlying91 rfl infSize ?_)
              | (refine wpList_rowPut _ rfl (.tmp 2) (.tmp 100) 91 rfl (W.heap.size + 1) 91 (infC {} (.slice none 0 0) (.slice none 0 0)) _ rfl rfl HFz.out infSize rfl (infC_one _ _ _ _ _ _ _) ?_
                 intro W5 hb5 hg5)
              | fail)
            refine bodyPost_ret (results_open _ _ (W.heap.size + 1) j _ _ _ rfl rfl hb5) rfl ⟨HBw.out.grown hg5 HBw.out.size (fun g e => by injection e with e; omega), ?_⟩
            rw [HOp.out, HRd.out]
            refine ⟨_, _, rfl, ew_base (HSv.out.grown hg5 (.inr fun e => ?_)) HFc.out.b.size, (HDv.out.grown hg5 (.inr fun e => ?_)).base HFc.out.b.size⟩
            · have h1 := (HSv.out.lt _ e).1
              have h2 := HFc.out.z.lt
              omega
            · have h1 := (HDv.out.lt e).2
              have h2 := HFc.out.z.lt
              omega
          | error x =>
            rw [hrd] at hm
            obtain ⟨a, rfl, ha, hba⟩ := hm
            have HRd := Lib.hid hrd
            have HBa := Lib.hid hba
            have HA := Lib.hid ha
            clear hrd hba ha
            go_wp2_with (first
              | (refine wpList_rowPut _ rfl (.tmp 2) (.tmp 98) 91 rfl (W.heap.size + 1) 91 (infC {} (.slice none 0 0) (.slice none 0 0)) (infC {} (.slice none 0 0) (.slice none 0 0)) rfl rfl HFz.out infSize rfl (infC_one _ _ _ _ _ _ _) ?_
                 intro W5 hb5 hg5)
              | fail)
            refine bodyPost_ret (results_open _ _ (W.heap.size + 1) {} _ _ _ rfl rfl hb5) rfl ⟨HBw.out.grown hg5 HBw.out.size (fun g e => by injection e with e; omega), ?_⟩
            rw [HOp.out, HRd.out]
            exact ⟨a, rfl, Nat.le_trans HFc.out.b.size HA.out, HBa.out.grown hg5 (fun e => by injection e with e; have := HA.out; have := HFc.out.z.lt; omega)⟩
end Go.Proofs.YtkpppjhbmnfmkaaGreatDoor
