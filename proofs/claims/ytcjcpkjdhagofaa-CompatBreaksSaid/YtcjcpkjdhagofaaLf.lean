/-
  Contracts: link.field, FieldOf, FindMethod.
-/
import Derived.Test.YtcjcpkjdhagofaaLk
import Derived.Deep.Cut
namespace Go.Proofs.Ytcjcpkjdhagofaa
open Go.RowKit Go.Own Go.Own.Cm Go.Shelf
attribute [local go_sem] Oper.semAt_some
def zeroF : FldV := ⟨⟨#[]⟩, ⟨#[]⟩, ⟨#[]⟩, ⟨#[]⟩, 0, 0, 0, false, false, false⟩
def FfPost (l : List FldV) (z : Int) (w : World) (e : Ending) (w' : World) : Prop :=
  Below w.heap.size w w' ∧ ((fldAt l z = none ∧ e = .returned (.tuple #[.agg zeroF.cells, .bool false])) ∨ ∃ x, fldAt l z = some x ∧ x ∈ l ∧ e = .returned (.tuple #[.agg x.cells, .bool true]))
theorem Blk.ten_put {w : World} {g : Nat} {t : TypeId} {cs : Array Value} (h : Blk w g t cs) (hs : cs.size = 10) (v0 v1 v2 v3 v4 v5 v6 v7 v8 v9 : Value) : Blk ((((((((((w.setCell ⟨g, 0, none⟩ v0).setCell ⟨g, 1, none⟩ v1).setCell ⟨g, 2, none⟩ v2).setCell ⟨g, 3, none⟩ v3).setCell ⟨g, 4, none⟩ v4).setCell ⟨g, 5, none⟩ v5).setCell ⟨g, 6, none⟩ v6).setCell ⟨g, 7, none⟩ v7).setCell ⟨g, 8, none⟩ v8).setCell ⟨g, 9, none⟩ v9) g t #[v0, v1, v2, v3, v4, v5, v6, v7, v8, v9] := by
  have e : ((((((((((cs.setIfInBounds 0 v0).setIfInBounds 1 v1).setIfInBounds 2 v2).setIfInBounds 3 v3).setIfInBounds 4 v4).setIfInBounds 5 v5).setIfInBounds 6 v6).setIfInBounds 7 v7).setIfInBounds 8 v8).setIfInBounds 9 v9) = #[v0, v1, v2, v3, v4, v5, v6, v7, v8, v9] := by
    apply Array.ext
    · simp [hs]
    · intro i h1 h2
      simp at h2
      have : i = 0 ∨ i = 1 ∨ i = 2 ∨ i = 3 ∨ i = 4 ∨ i = 5 ∨ i = 6 ∨ i = 7 ∨ i = 8 ∨ i = 9 := by omega
      rcases this with rfl | rfl | rfl | rfl | rfl | rfl | rfl | rfl | rfl | rfl <;> simp [Array.getElem_setIfInBounds, hs]
  rw [← e]
  exact ((((((((((h.put 0 v0).put 1 v1).put 2 v2).put 3 v3).put 4 v4).put 5 v5).put 6 v6).put 7 v7).put 8 v8).put 9 v9)
theorem results_fd (tmps : Array Value) (w : World) (g : Nat) (v0 v1 v2 v3 v4 v5 v6 v7 v8 v9 v : Value) (ht : tmps[4]? = some (.pointer (some ⟨g, 0, none⟩))) (h5 : tmps[5]? = some v) (hb : Blk w g 42 #[v0, v1, v2, v3, v4, v5, v6, v7, v8, v9]) :
    (results Try.f46 tmps).run Try.prog w = .ok (.tuple #[.agg #[v0, v1, v2, v3, v4, v5, v6, v7, v8, v9], v]) w := by
  have c0 := hb.cell 0
  have c1 := hb.cell 1
  have c2 := hb.cell 2
  have c3 := hb.cell 3
  have c4 := hb.cell 4
  have c5 := hb.cell 5
  have c6 := hb.cell 6
  have c7 := hb.cell 7
  have c8 := hb.cell 8
  have c9 := hb.cell 9
  simp only [List.getElem?_toArray, List.getElem?_cons_zero, List.getElem?_cons_succ] at c0 c1 c2 c3 c4 c5 c6 c7 c8 c9
  simp [results, Try.results46, go_sem, ht, h5, c0, c1, c2, c3, c4, c5, c6, c7, c8, c9]
theorem results_fo (tmps : Array Value) (w : World) (g : Nat) (v0 v1 v2 v3 v4 v5 v6 v7 v8 v9 v : Value) (ht : tmps[4]? = some (.pointer (some ⟨g, 0, none⟩))) (h5 : tmps[5]? = some v) (hb : Blk w g 42 #[v0, v1, v2, v3, v4, v5, v6, v7, v8, v9]) :
    (results Try.f36 tmps).run Try.prog w = .ok (.tuple #[.agg #[v0, v1, v2, v3, v4, v5, v6, v7, v8, v9], v]) w := by
  have c0 := hb.cell 0
  have c1 := hb.cell 1
  have c2 := hb.cell 2
  have c3 := hb.cell 3
  have c4 := hb.cell 4
  have c5 := hb.cell 5
  have c6 := hb.cell 6
  have c7 := hb.cell 7
  have c8 := hb.cell 8
  have c9 := hb.cell 9
  simp only [List.getElem?_toArray, List.getElem?_cons_zero, List.getElem?_cons_succ] at c0 c1 c2 c3 c4 c5 c6 c7 c8 c9
  simp [results, Try.results36, go_sem, ht, h5, c0, c1, c2, c3, c4, c5, c6, c7, c8, c9]
set_option maxHeartbeats 4000000 in
set_option maxRecDepth 100000 in
theorem field_any (nm : ByteArray) (B : Nat) (A : Option Addr) (n c : Nat) (l : List FldV) (gb : Nat) (z : Int) (w : World) (hn : n ≤ 1000000) (hr : RS FldV.cells 10 w B A n l) (hb : Blk w gb 3 #[.int .i64 z]) (hB : B ≤ w.heap.size) :
    Calls Try.prog 46 #[.agg #[.string nm, .slice A n c], .func (.func 47) #[] #[.pointer (some ⟨gb, 0, none⟩)]] w (FfPost l z w) := by
  have HW : ∃ w0, w0 = (w.alloc (.cells #[.string nm, .slice A n c] 45)).alloc (.cells #[.string ⟨#[]⟩, .string ⟨#[]⟩, .string ⟨#[]⟩, .string ⟨#[]⟩, .int .i64 0, .int .i64 0, .int .i64 0, .bool false, .bool false, .bool false] 42) ∧ Below w.heap.size w w0 ∧ w0.heap.size = w.heap.size + 2 ∧ Blk w0 w.heap.size 45 #[.string nm, .slice A n c] ∧ Blk w0 (w.heap.size + 1) 42 #[.string ⟨#[]⟩, .string ⟨#[]⟩, .string ⟨#[]⟩, .string ⟨#[]⟩, .int .i64 0, .int .i64 0, .int .i64 0, .bool false, .bool false, .bool false] :=
    ⟨_, rfl, ((Below.refl _ _).alloc (Nat.le_refl _) _).alloc (by simp) _, by simp, (Blk.new _ _ _).alloc _, by simpa using Blk.new (w.alloc (.cells #[.string nm, .slice A n c] 45)) 42 #[.string ⟨#[]⟩, .string ⟨#[]⟩, .string ⟨#[]⟩, .string ⟨#[]⟩, .int .i64 0, .int .i64 0, .int .i64 0, .bool false, .bool false, .bool false]⟩
  obtain ⟨w0, e0, W1, W2, W3, W4⟩ := HW
  have HB0 := Lib.hid W1
  have HS0 := Lib.hid W2
  have HM0 := Lib.hid W3
  have HT0 := Lib.hid W4
  have HE0 := Lib.hid e0
  have HI := Lib.hid (indexFunc_any B A n c l gb z w0 hn (hr.below (W1.mono hB)) (hb.below W1 hb.lt) (Nat.le_trans hB W1.size))
  have HR := Lib.hid (hr.below (W1.mono hB))
  have HL := Lib.hid hr.1
  have HBs := Lib.hid (Nat.le_trans hB W1.size)
  clear W1 W2 W3 W4 e0 hr hb hB
  go_enter Try.func46, Try.ntmps46
  go_upto_region 2 with (rw [← HE0.out]
                         with_reducible refine HI.out.mono ?_
                         rintro e w2 ⟨g2, i, rfl, hi⟩
                         have G2 := Lib.hid g2
                         have HI2 := Lib.hid hi
                         have HM2 := Lib.hid (HM0.out.below g2 HM0.out.lt)
                         have HT2 := Lib.hid (HT0.out.below g2 HT0.out.lt)
                         have HR2 := Lib.hid (HR.out.below (g2.mono HBs.out))
                         have d0 : w2.cell? ⟨w.heap.size, 1, none⟩ = some (.slice A n c) := HM2.out.cell 1
                         have d1 := HM2.out.lt
                         have d2 := HT2.out.lt
                         clear g2 hi)
  have HB2 := Lib.hid (HB0.out.trans (G2.out.mono HB0.out.size))
  have c40 := HT2.out.cell 0
  have f40 := HT2.out.frozen 0
  have c41 := HT2.out.cell 1
  have f41 := HT2.out.frozen 1
  have c42 := HT2.out.cell 2
  have f42 := HT2.out.frozen 2
  have c43 := HT2.out.cell 3
  have f43 := HT2.out.frozen 3
  have c44 := HT2.out.cell 4
  have f44 := HT2.out.frozen 4
  have c45 := HT2.out.cell 5
  have f45 := HT2.out.frozen 5
  have c46 := HT2.out.cell 6
  have f46 := HT2.out.frozen 6
  have c47 := HT2.out.cell 7
  have f47 := HT2.out.frozen 7
  have c48 := HT2.out.cell 8
  have f48 := HT2.out.frozen 8
  have c49 := HT2.out.cell 9
  have f49 := HT2.out.frozen 9
  simp only [List.getElem?_toArray, List.getElem?_cons_zero, List.getElem?_cons_succ] at c40 c41 c42 c43 c44 c45 c46 c47 c48 c49
  have hi2 := HI2.out
  clear HI2
  rcases hi2 with ⟨rfl, hf⟩ | ⟨k, rfl, hk, x, hx, hf⟩
  · have HF := Lib.hid hf
    clear hf
    go_wp2
    refine bodyPost_ret (results_fd _ _ (w.heap.size + 1) _ _ _ _ _ _ _ _ _ _ _ rfl rfl (Blk.ten_put HT2.out rfl _ _ _ _ _ _ _ _ _ _)) rfl ?_
    exact ⟨((((((((((HB2.out.setCell (by first | (simp; done) | (simp; omega)) _).setCell (by first | (simp; done) | (simp; omega)) _).setCell (by first | (simp; done) | (simp; omega)) _).setCell (by first | (simp; done) | (simp; omega)) _).setCell (by first | (simp; done) | (simp; omega)) _).setCell (by first | (simp; done) | (simp; omega)) _).setCell (by first | (simp; done) | (simp; omega)) _).setCell (by first | (simp; done) | (simp; omega)) _).setCell (by first | (simp; done) | (simp; omega)) _).setCell (by first | (simp; done) | (simp; omega)) _), .inl ⟨HF.out, rfl⟩⟩
  · have HF := Lib.hid hf
    rw [HL.out] at hk
    obtain ⟨ad, x', rfl, hx', a0, a1, a2, a3, a4, a5, a6, a7, a8, a9⟩ := HR2.out.atF hk
    obtain rfl := Option.some.inj (hx.symm.trans hx')
    have HX := Lib.hid (List.mem_of_getElem? hx)
    clear hf hx hx'
    obtain ⟨n1, n2, n3, n4, na, nb, nc, np, nq, nr⟩ := x
    simp only at a0 a1 a2 a3 a4 a5 a6 a7 a8 a9
    have i0 : (0 : Int) ≤ (k : Int) := by omega
    have i1 : (k : Int) < (n : Int) := by omega
    go_wp2
    refine bodyPost_ret (results_fd _ _ (w.heap.size + 1) _ _ _ _ _ _ _ _ _ _ _ rfl rfl (Blk.ten_put HT2.out rfl _ _ _ _ _ _ _ _ _ _)) rfl ?_
    exact ⟨((((((((((HB2.out.setCell (by first | (simp; done) | (simp; omega)) _).setCell (by first | (simp; done) | (simp; omega)) _).setCell (by first | (simp; done) | (simp; omega)) _).setCell (by first | (simp; done) | (simp; omega)) _).setCell (by first | (simp; done) | (simp; omega)) _).setCell (by first | (simp; done) | (simp; omega)) _).setCell (by first | (simp; done) | (simp; omega)) _).setCell (by first | (simp; done) | (simp; omega)) _).setCell (by first | (simp; done) | (simp; omega)) _).setCell (by first | (simp; done) | (simp; omega)) _), .inr ⟨_, HF.out, HX.out, rfl⟩⟩
set_option maxHeartbeats 4000000 in
set_option maxRecDepth 100000 in
theorem fieldOf_any (nm : ByteArray) (B : Nat) (A : Option Addr) (n c : Nat) (l : List FldV) (z : Int) (w : World) (hn : n ≤ 1000000) (hr : RS FldV.cells 10 w B A n l) (hB : B ≤ w.heap.size) :
    Calls Try.prog 36 #[.agg #[.string nm, .slice A n c], .int .i64 z] w (FfPost l z w) := by
  have HW : ∃ w0, w0 = ((w.alloc (.cells #[.string nm, .slice A n c] 45)).alloc (.cells #[.int .i64 z] 3)).alloc (.cells #[.string ⟨#[]⟩, .string ⟨#[]⟩, .string ⟨#[]⟩, .string ⟨#[]⟩, .int .i64 0, .int .i64 0, .int .i64 0, .bool false, .bool false, .bool false] 42) ∧ Below w.heap.size w w0 ∧ Blk w0 w.heap.size 45 #[.string nm, .slice A n c] ∧ Blk w0 (w.heap.size + 1) 3 #[.int .i64 z] ∧ Blk w0 (w.heap.size + 2) 42 #[.string ⟨#[]⟩, .string ⟨#[]⟩, .string ⟨#[]⟩, .string ⟨#[]⟩, .int .i64 0, .int .i64 0, .int .i64 0, .bool false, .bool false, .bool false] :=
    ⟨_, rfl, (((Below.refl _ _).alloc (Nat.le_refl _) _).alloc (by first | (simp; done) | (simp; omega)) _).alloc (by simp; omega) _, ((Blk.new _ _ _).alloc _).alloc _, by simpa using (Blk.new (w.alloc (.cells #[.string nm, .slice A n c] 45)) 3 #[.int .i64 z]).alloc (.cells #[.string ⟨#[]⟩, .string ⟨#[]⟩, .string ⟨#[]⟩, .string ⟨#[]⟩, .int .i64 0, .int .i64 0, .int .i64 0, .bool false, .bool false, .bool false] 42), by simpa using Blk.new ((w.alloc (.cells #[.string nm, .slice A n c] 45)).alloc (.cells #[.int .i64 z] 3)) 42 #[.string ⟨#[]⟩, .string ⟨#[]⟩, .string ⟨#[]⟩, .string ⟨#[]⟩, .int .i64 0, .int .i64 0, .int .i64 0, .bool false, .bool false, .bool false]⟩
  obtain ⟨w0, e0, W1, W3, W5, W4⟩ := HW
  have HB0 := Lib.hid W1
  have HT0 := Lib.hid W4
  have HE0 := Lib.hid e0
  have HI := Lib.hid (field_any nm B A n c l (w.heap.size + 1) z w0 hn (hr.below (W1.mono hB)) W5 (Nat.le_trans hB W1.size))
  clear W1 W3 W4 W5 e0 hr hB
  go_enter Try.func36, Try.ntmps36
  go_wp2_with (first
    | (rw [← HE0.out]
       with_reducible refine HI.out.mono ?_
       rintro e w2 ⟨g2, ⟨hf, rfl⟩ | ⟨⟨n1, n2, n3, n4, na, nb, nc, np, nq, nr⟩, hf, hx, rfl⟩⟩
       all_goals
         have HB2 := Lib.hid (HB0.out.trans (g2.mono HB0.out.size))
         have HT2 := Lib.hid (HT0.out.below g2 HT0.out.lt)
         have HF := Lib.hid hf
         have d2 := HT2.out.lt
         have c40 := HT2.out.cell 0
         have f40 := HT2.out.frozen 0
         have c41 := HT2.out.cell 1
         have f41 := HT2.out.frozen 1
         have c42 := HT2.out.cell 2
         have f42 := HT2.out.frozen 2
         have c43 := HT2.out.cell 3
         have f43 := HT2.out.frozen 3
         have c44 := HT2.out.cell 4
         have f44 := HT2.out.frozen 4
         have c45 := HT2.out.cell 5
         have f45 := HT2.out.frozen 5
         have c46 := HT2.out.cell 6
         have f46 := HT2.out.frozen 6
         have c47 := HT2.out.cell 7
         have f47 := HT2.out.frozen 7
         have c48 := HT2.out.cell 8
         have f48 := HT2.out.frozen 8
         have c49 := HT2.out.cell 9
         have f49 := HT2.out.frozen 9
         simp only [List.getElem?_toArray, List.getElem?_cons_zero, List.getElem?_cons_succ] at c40 c41 c42 c43 c44 c45 c46 c47 c48 c49
         clear g2 hf
         simp only [zeroF, FldV.cells]))
  · refine bodyPost_ret (results_fo _ _ (w.heap.size + 2) _ _ _ _ _ _ _ _ _ _ _ rfl rfl (Blk.ten_put HT2.out rfl _ _ _ _ _ _ _ _ _ _)) rfl ?_
    exact ⟨((((((((((HB2.out.setCell (by first | (simp; done) | (simp; omega)) _).setCell (by first | (simp; done) | (simp; omega)) _).setCell (by first | (simp; done) | (simp; omega)) _).setCell (by first | (simp; done) | (simp; omega)) _).setCell (by first | (simp; done) | (simp; omega)) _).setCell (by first | (simp; done) | (simp; omega)) _).setCell (by first | (simp; done) | (simp; omega)) _).setCell (by first | (simp; done) | (simp; omega)) _).setCell (by first | (simp; done) | (simp; omega)) _).setCell (by first | (simp; done) | (simp; omega)) _), .inl ⟨HF.out, rfl⟩⟩
  · refine bodyPost_ret (results_fo _ _ (w.heap.size + 2) _ _ _ _ _ _ _ _ _ _ _ rfl rfl (Blk.ten_put HT2.out rfl _ _ _ _ _ _ _ _ _ _)) rfl ?_
    exact ⟨((((((((((HB2.out.setCell (by first | (simp; done) | (simp; omega)) _).setCell (by first | (simp; done) | (simp; omega)) _).setCell (by first | (simp; done) | (simp; omega)) _).setCell (by first | (simp; done) | (simp; omega)) _).setCell (by first | (simp; done) | (simp; omega)) _).setCell (by first | (simp; done) | (simp; omega)) _).setCell (by first | (simp; done) | (simp; omega)) _).setCell (by first | (simp; done) | (simp; omega)) _).setCell (by first | (simp; done) | (simp; omega)) _).setCell (by first | (simp; done) | (simp; omega)) _), .inr ⟨_, HF.out, hx, rfl⟩⟩
end Go.Proofs.Ytcjcpkjdhagofaa
