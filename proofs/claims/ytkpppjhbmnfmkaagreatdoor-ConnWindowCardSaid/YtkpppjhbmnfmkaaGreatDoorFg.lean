/-
  Contracts: frame.Get.
-/
import Derived.Test.YtkpppjhbmnfmkaaGreatDoorFb
set_option linter.unusedSimpArgs false
set_option linter.unusedVariables false
namespace Go.Own
open Go.RowKit
theorem run_mid {P : Program} {t e : TypeId} (hP : ByteP P t e) (A : Option Addr) (n c k q : Nat) (hk : k ≤ q) (hq : q ≤ c) (W : World) :
    (Instr.slice t (.slice A n c) (some (.int .i64 (k : Int))) (some (.int .i64 (q : Int))) none).run P W = .ok (.slice (if c = k then A else A.map fun x => x.add k) (q - k) (c - k)) W := by
  obtain ⟨i, hi, hz, h1, h2⟩ := hP.info
  simp [Instr.slice, run_underlying hP.slice, Instr.sliceBounds, run_sliceBound, sizeOf, typeInfo, hi, h1, Result.andThen, show (q : Int) ≤ c by omega, show (k : Int) ≤ q by omega]
/-- What s[k:q] is, whatever the capacity. -/
theorem cut_mid {P : Program} {t e : TypeId} (hP : ByteP P t e) {w : World} {B n c k m : Nat} {A : Option Addr} {l : List UInt8} (h : Rd w B A n l) (x y : Int) (hx : x = (k : Int)) (hy : y = ((k + m : Nat) : Int)) (hk : k + m ≤ n) (hc : n ≤ c) :
    ∃ A', Rd w B A' m ((l.drop k).take m) ∧ ∀ W : World, (Instr.slice t (.slice A n c) (some (.int .i64 x)) (some (.int .i64 y)) none).run P W = .ok (.slice A' m (c - k)) W :=
  ⟨_, h.sub hk hc, fun W => by rw [hx, hy, run_mid hP A n c k (k + m) (by omega) (by omega) W, show k + m - k = m by omega]⟩
/-- What s[:k] is. -/
theorem cut_head {P : Program} {t e : TypeId} (hP : ByteP P t e) {w : World} {B n c k : Nat} {A : Option Addr} {l : List UInt8} (h : Rd w B A n l) (x : Int) (hx : x = (k : Int)) (hk : k ≤ n) (hc : n ≤ c) :
    ∃ A', Rd w B A' k (l.take k) ∧ ∀ W : World, (Instr.slice t (.slice A n c) none (some (.int .i64 x)) none).run P W = .ok (.slice A' k c) W := by
  refine ⟨if c = 0 then A else A.map fun x => x.add 0, ?_, fun W => ?_⟩
  · have := h.sub (k := 0) (u := k) (c := c) (by omega) hc
    simpa using this
  · obtain ⟨i, hi, hz, h1, h2⟩ := hP.info
    subst hx
    simp [Instr.slice, run_underlying hP.slice, Instr.sliceBounds, run_sliceBound, sizeOf, typeInfo, hi, h1, Result.andThen, show (k : Int) ≤ c by omega]
theorem Blk.four_put {w : World} {g : Nat} {t : TypeId} {cs : Array Value} (h : Blk w g t cs) (hs : cs.size = 4) (v0 v1 v2 v3 : Value) : Blk ((((w.setCell ⟨g, 0, none⟩ v0).setCell ⟨g, 1, none⟩ v1).setCell ⟨g, 2, none⟩ v2).setCell ⟨g, 3, none⟩ v3) g t #[v0, v1, v2, v3] := by
  have e : ((((cs.setIfInBounds 0 v0).setIfInBounds 1 v1).setIfInBounds 2 v2).setIfInBounds 3 v3) = #[v0, v1, v2, v3] := by
    apply Array.ext
    · simp [hs]
    · intro i h1 h2
      simp at h2
      have : i = 0 ∨ i = 1 ∨ i = 2 ∨ i = 3 := by omega
      rcases this with rfl | rfl | rfl | rfl <;> simp [Array.getElem_setIfInBounds, hs]
  rw [← e]
  exact (((h.put 0 v0).put 1 v1).put 2 v2).put 3 v3
theorem below_drew {B : Nat} {a w : World} (h : Below B a w) : Below B a w.drew := ⟨h.os, h.tape, h.output, h.size, h.block⟩
theorem cell_four (w : World) {g : Nat} {p : Addr} (hp : p.block ≠ g) (v0 v1 v2 v3 : Value) : ((((w.setCell ⟨g, 0, none⟩ v0).setCell ⟨g, 1, none⟩ v1).setCell ⟨g, 2, none⟩ v2).setCell ⟨g, 3, none⟩ v3).cell? p = w.cell? p := by
  rw [World.cell?_setCell_other _ ⟨g, 3, none⟩ p v3 (fun e => hp (by rw [← e])), World.cell?_setCell_other _ ⟨g, 2, none⟩ p v2 (fun e => hp (by rw [← e])), World.cell?_setCell_other _ ⟨g, 1, none⟩ p v1 (fun e => hp (by rw [← e])), World.cell?_setCell_other _ ⟨g, 0, none⟩ p v0 (fun e => hp (by rw [← e]))]
theorem grown_four (w : World) (g : Nat) (v0 v1 v2 v3 : Value) : w.grownBy ((((w.setCell ⟨g, 0, none⟩ v0).setCell ⟨g, 1, none⟩ v1).setCell ⟨g, 2, none⟩ v2).setCell ⟨g, 3, none⟩ v3) (some g) :=
  grown_setCell (grown_setCell (grown_setCell (grown_setCell (World.grownBy.refl w (some g)) 0 v0) 1 v1) 2 v2) 3 v3
theorem below_four {B : Nat} {a w : World} {g : Nat} (h : Below B a w) (hg : B ≤ g) (v0 v1 v2 v3 : Value) : Below B a ((((w.setCell ⟨g, 0, none⟩ v0).setCell ⟨g, 1, none⟩ v1).setCell ⟨g, 2, none⟩ v2).setCell ⟨g, 3, none⟩ v3) :=
  (((h.setCell (p := ⟨g, 0, none⟩) hg v0).setCell (p := ⟨g, 1, none⟩) hg v1).setCell (p := ⟨g, 2, none⟩) hg v2).setCell (p := ⟨g, 3, none⟩) hg v3
end Go.Own
namespace Go.Proofs.YtkpppjhbmnfmkaaGreatDoor
open Go.RowKit Go.Own Go.Own.Fr
theorem wrap_nine (m : Nat) (h : m ≤ 16777215) : wrap64 (9 + (m : Int)) = 9 + (m : Int) := by
  unfold wrap64
  omega
theorem wrapI_nine (m : Nat) (h : m ≤ 16777215) : IntKind.i64.wrap (9 + (m : Int)) = 9 + (m : Int) := by
  rw [IntKind.wrap_i64]
  omega
theorem results_get (tmps : Array Value) (w : World) (g : Nat) (a b c d u v : Value) (ht : tmps[4]? = some (.pointer (some ⟨g, 0, none⟩))) (h5 : tmps[5]? = some u) (h6 : tmps[6]? = some v) (hb : Blk w g 24 #[a, b, c, d]) :
    (results Tryz.f71 tmps).run Tryz.prog w = .ok (.tuple #[.agg #[a, b, c, d], u, v]) w := by
  have c0 : w.cell? ⟨g, 0, none⟩ = some a := hb.cell 0
  have c1 : w.cell? ⟨g, 1, none⟩ = some b := hb.cell 1
  have c2 : w.cell? ⟨g, 2, none⟩ = some c := hb.cell 2
  have c3 : w.cell? ⟨g, 3, none⟩ = some d := hb.cell 3
  simp [results, Tryz.results71, go_sem, ht, h5, h6, c0, c1, c2, c3]
set_option maxHeartbeats 4000000 in
set_option maxRecDepth 100000 in
/-- Too few bytes: no frame. -/
theorem fget_few (A : Option Addr) (n c : Nat) (l : List UInt8) (w : World) (B : Nat) (most : Nat) (eE : Value) (hr : Rd w B A n l) (hB : B ≤ w.heap.size) (hc : n ≤ c) (hn : n < 9 ∨ (ofB 0 (l.take 3) ≤ most ∧ n < 9 + ofB 0 (l.take 3))) (hm : most ≤ 16777215)
    (he : w.cell? ⟨10, 0, none⟩ = some eE) (hg : 10 < w.heap.size) :
    Calls Tryz.prog 71 #[.slice A n c, .int .i64 (most : Int)] w fun e w' => e = .returned (.tuple #[.agg #[.int .i64 0, .int .i64 0, .int .i64 0, .slice none 0 0], .int .i64 0, eE]) ∧ Below w.heap.size w w' := by
  have HR := Lib.hid hr; clear hr
  have HM := Lib.hid hm; clear hm
  go_enter Tryz.func71, Tryz.ntmps71
  go_upto_region 1 with fail
  have HX := Lib.hid (Blk.new w 24 #[.int .i64 0, .int .i64 0, .int .i64 0, .slice none 0 0])
  have HB0 := Lib.hid ((Below.refl w.heap.size w).alloc (Nat.le_refl _) (.cells #[.int .i64 0, .int .i64 0, .int .i64 0, .slice none 0 0] 24))
  have he0 : (w.alloc (.cells #[.int .i64 0, .int .i64 0, .int .i64 0, .slice none 0 0] 24)).cell? ⟨10, 0, none⟩ = some eE := (HB0.out.cell (p := ⟨10, 0, none⟩) hg).trans he
  generalize w.alloc (.cells #[.int .i64 0, .int .i64 0, .int .i64 0, .slice none 0 0] 24) = w0 at HX HB0 he0 ⊢
  have HR0 := Lib.hid ((HR.out.more hB).below HB0.out)
  have f0 := HX.out.frozen 0
  have f1 := HX.out.frozen 1
  have f2 := HX.out.frozen 2
  have f3 := HX.out.frozen 3
  have c0 : w0.cell? ⟨w.heap.size, 0, none⟩ = _ := HX.out.cell 0
  have c1 : w0.cell? ⟨w.heap.size, 1, none⟩ = _ := HX.out.cell 1
  have c2 : w0.cell? ⟨w.heap.size, 2, none⟩ = _ := HX.out.cell 2
  have c3 : w0.cell? ⟨w.heap.size, 3, none⟩ = _ := HX.out.cell 3
  simp only [List.getElem?_toArray, List.getElem?_cons_zero, List.getElem?_cons_succ] at c0 c1 c2 c3
  by_cases h9 : n < 9
  · have h9' : ((n : Int) < 9) = True := by simp; omega
    go_upto_region 2 with fail
    go_region
    all_goals
      go_wp2
      refine bodyPost_ret (results_get _ _ w.heap.size _ _ _ _ _ _ rfl rfl rfl (Blk.four_put HX.out rfl _ _ _ _)) rfl ?_
      exact ⟨rfl, below_drew (below_four HB0.out (Nat.le_refl _) _ _ _ _)⟩
  · have h9' : ((n : Int) < 9) = False := by simp; omega
    obtain ⟨A', hra, hrun⟩ := cut_head byteP HR0.out (3 : Int) (k := 3) rfl (by omega) hc
    have HO := Lib.hid (of_any A' 3 c (l.take 3) w0 _ hra (by omega))
    obtain ⟨m, hm⟩ : ∃ m, ofB 0 (l.take 3) = m := ⟨_, rfl⟩
    rw [hm] at HO hn
    have hm1 : ((m : Int) > (most : Int)) = False := by simp; omega
    have hm1' : ((most : Int) < (m : Int)) = False := by simp; omega
    have hm2 : ((n : Int) < wrap64 (9 + (m : Int))) = True := by rw [wrap_nine m (by have := HM.out; omega)]; simp; omega
    clear hm hn hra
    go_upto_region 7 with (first
      | (go_at_call 113
         refine HO.out.mono ?_
         rintro e w' ⟨rfl, hw⟩
         subst w')
      | fail)
    go_region
    all_goals
      go_wp2
      refine bodyPost_ret (results_get _ _ w.heap.size _ _ _ _ _ _ rfl rfl rfl (Blk.four_put HX.out rfl _ _ _ _)) rfl ?_
      exact ⟨rfl, below_drew (below_four HB0.out (Nat.le_refl _) _ _ _ _)⟩
set_option maxHeartbeats 8000000 in
set_option maxRecDepth 100000 in
/-- A whole frame. -/
theorem fget_any (A : Option Addr) (n c : Nat) (l : List UInt8) (w : World) (B : Nat) (most m : Nat) (hr : Rd w B A n l) (hB : B ≤ w.heap.size) (hc : n ≤ c) (hm : ofB 0 (l.take 3) = m) (h1 : m ≤ most) (h2 : 9 + m ≤ n) (h3 : most ≤ 16777215) :
    Calls Tryz.prog 71 #[.slice A n c, .int .i64 (most : Int)] w fun e w' => ∃ A' c', e = .returned (.tuple #[.agg #[.int .i64 ((l.getD 3 0).toNat : Int), .int .i64 ((l.getD 4 0).toNat : Int), .int .i64 (low (ofB 0 ((l.drop 5).take 4)) : Nat), .slice A' m c'], .int .i64 (9 + m : Nat), .nilIface]) ∧
      Ow w' w.heap.size 5 (.slice A' m c') m ((l.drop 9).take m) ∧ Below w.heap.size w w' := by
  obtain ⟨ad, rfl, hbk, hc3⟩ := hr.at_ (k := 3) (by omega)
  have hc4 : w.cell? (ad.add 4) = some (.int .u8 ((l.getD 4 0).toNat : Int)) := by
    obtain ⟨ad', e, _, h⟩ := hr.at_ (k := 4) (by omega)
    injection e with e
    subst e
    exact h
  have HR := Lib.hid hr; clear hr
  have HC34 := Lib.hid (show w.cell? (ad.add 3) = some (.int .u8 ((l.getD 3 0).toNat : Int)) ∧ w.cell? (ad.add 4) = some (.int .u8 ((l.getD 4 0).toNat : Int)) from ⟨hc3, hc4⟩)
  have HBk := Lib.hid (show ad.block < w.heap.size from Nat.lt_of_lt_of_le hbk hB)
  clear hc3 hc4 hbk
  have hi3 : ((3 : Int) < (n : Int)) = True := by simp; omega
  have hi4 : ((4 : Int) < (n : Int)) = True := by simp; omega
  have hm1 : ((most : Int) < (m : Int)) = False := by simp; omega
  have hm2 : ((n : Int) < 9 + (m : Int)) = False := by simp; omega
  have hw9 : wrap64 (9 + (m : Int)) = 9 + (m : Int) := wrap_nine m (by omega)
  have hw9' : IntKind.i64.wrap (9 + (m : Int)) = 9 + (m : Int) := wrapI_nine m (by omega)
  have h9' : ((n : Int) < 9) = False := by simp; omega
  have hm3 : 9 + (m : Int) = ((9 + m : Nat) : Int) := by omega
  have HM3 := Lib.hid hm3
  have HS := Lib.hid (show 9 + m ≤ n ∧ m ≤ 16777215 from ⟨h2, by omega⟩)
  have HC := Lib.hid hc
  have hlow : ofB 0 ((l.drop 5).take 4) < 9223372036854775808 := by
    have h1 := ofB_lt ((l.drop 5).take 4) 0
    have h2 : ((l.drop 5).take 4).length ≤ 4 := List.length_take_le _ _
    have h3 : 256 ^ ((l.drop 5).take 4).length ≤ 256 ^ 4 := Nat.pow_le_pow_right (by omega) h2
    omega
  obtain ⟨v5, hv5⟩ : ∃ v, ofB 0 ((l.drop 5).take 4) = v := ⟨_, rfl⟩
  rw [hv5] at hlow ⊢
  have HLo := Lib.hid (fun W => low_any v5 W hlow)
  clear hlow
  obtain ⟨x3, hx3⟩ : ∃ x : Int, ((l.getD 3 0).toNat : Int) = x := ⟨_, rfl⟩
  obtain ⟨x4, hx4⟩ : ∃ x : Int, ((l.getD 4 0).toNat : Int) = x := ⟨_, rfl⟩
  have r3 : 0 ≤ x3 := by omega
  have r3' : x3 < 256 := by have := (l.getD 3 0).toNat_lt; omega
  have r4 : 0 ≤ x4 := by omega
  have r4' : x4 < 256 := by have := (l.getD 4 0).toNat_lt; omega
  rw [hx3, hx4] at HC34 ⊢
  have hwx3 : IntKind.i64.wrap x3 = x3 := by rw [IntKind.wrap_i64]; omega
  have hwx4 : IntKind.i64.wrap x4 = x4 := by rw [IntKind.wrap_i64]; omega
  clear hx3 hx4
  go_enter Tryz.func71, Tryz.ntmps71
  go_upto_region 1 with fail
  have HX := Lib.hid (Blk.new w 24 #[.int .i64 0, .int .i64 0, .int .i64 0, .slice none 0 0])
  have HB0 := Lib.hid ((Below.refl w.heap.size w).alloc (Nat.le_refl _) (.cells #[.int .i64 0, .int .i64 0, .int .i64 0, .slice none 0 0] 24))
  have HZ := Lib.hid (show (w.alloc (.cells #[.int .i64 0, .int .i64 0, .int .i64 0, .slice none 0 0] 24)).heap.size = w.heap.size + 1 by simp)
  generalize w.alloc (.cells #[.int .i64 0, .int .i64 0, .int .i64 0, .slice none 0 0] 24) = w0 at HX HB0 HZ ⊢
  have HR0 := Lib.hid ((HR.out.more hB).below HB0.out)
  obtain ⟨A3, hra, hrun⟩ := cut_head byteP HR0.out (3 : Int) (k := 3) rfl (by omega) hc
  have HO := Lib.hid (of_any A3 3 c (l.take 3) w0 _ hra (by omega))
  rw [hm] at HO
  obtain ⟨A4, hrb, hrun2⟩ := cut_mid byteP HR0.out (5 : Int) (9 : Int) (k := 5) (m := 4) rfl rfl (by omega) hc
  obtain ⟨A9, hrc, hrun3⟩ := cut_mid byteP HR0.out (9 : Int) (9 + (m : Int)) (k := 9) (m := m) rfl hm3 h2 hc
  have HRb := Lib.hid hrb
  have HRc := Lib.hid hrc
  clear hra hrb hrc hm h1 h2 h3 hc hm3
  go_upto_region 8 with (first
    | (go_at_call 113
       refine HO.out.mono ?_
       rintro e w' ⟨rfl, hw⟩
       subst w')
    | fail)
  have HSf := Lib.hid (fun W (hW : Below w0.heap.size w0 W) => (show W.cell? ⟨ad.block, ad.off + 3, none⟩ = some (.int .u8 x3) ∧ W.cell? ⟨ad.block, ad.off + 4, none⟩ = some (.int .u8 x4) from
    have e3 : W.cell? (ad.add 3) = w.cell? (ad.add 3) := (hW.cell (by rw [add_block]; have := HBk.out; have := HZ.out; omega)).trans (HB0.out.cell (by rw [add_block]; exact HBk.out))
    have e4 : W.cell? (ad.add 4) = w.cell? (ad.add 4) := (hW.cell (by rw [add_block]; have := HBk.out; have := HZ.out; omega)).trans (HB0.out.cell (by rw [add_block]; exact HBk.out))
    ⟨e3.trans HC34.out.1, e4.trans HC34.out.2⟩))
  have HKf := Lib.hid (fun W (hW : Below w0.heap.size w0 W) => HX.out.below hW HX.out.lt)
  have HOb := Lib.hid (fun W (hW : Below w0.heap.size w0 W) => of_any A4 4 (c - 5) ((l.drop 5).take 4) W _ (HRb.out.below (hW.mono (by have := HZ.out; omega))) (by omega))
  have HOc := Lib.hid (fun W (hW : Below w0.heap.size w0 W) => fcopied_any A9 m (c - 9) ((l.drop 9).take m) W _ (HRc.out.below (hW.mono (by have := HZ.out; omega))) (Nat.le_trans (by have := HZ.out; omega) hW.size) (by have := HS.out; omega))
  rw [hv5] at HOb
  have HS0 := Lib.hid (HSf.out w0 (Below.refl _ _))
  have HS0d := Lib.hid (HSf.out w0.drew (below_drew (Below.refl _ _)))
  have HB5 := Lib.hid (Below.refl w0.heap.size w0)
  have HS5 := HS0
  have HS5d := HS0
  have HS5s := Lib.hid (fun (_ _ _ _ : Value) => HS0.out)
  go_region_held3 (fun W' => W'.cell? ⟨ad.block, ad.off + 3, none⟩ = some (.int .u8 x3) ∧ W'.cell? ⟨ad.block, ad.off + 4, none⟩ = some (.int .u8 x4)) (first | with_reducible exact HS0.out | with_reducible exact HS0d.out | with_reducible exact HS5.out | with_reducible exact HS5d.out | with_reducible exact HS5s.out _ _ _ _) (first
    | (go_at_call 113
       refine (HOb.out _ (by first | exact below_drew (Below.refl _ _) | exact Below.refl _ _ | exact HB5.out | exact below_drew HB5.out)).mono ?_
       rintro e w' ⟨rfl, hw⟩
       subst w')
    | (go_at_call 114
       refine (HLo.out _).mono ?_
       rintro e w' ⟨rfl, hw⟩
       subst w')
    | (go_at_call 102
       refine (HOc.out _ (by first | exact below_drew (Below.refl _ _) | exact Below.refl _ _)).mono ?_
       rintro e w5 ⟨rfl, ho5, hb5⟩
       have HO5 := Lib.hid (show Ow w5 w0.heap.size 5 _ _ _ from ho5)
       have HB5 := Lib.hid (show Below w0.heap.size w0 w5 from ⟨hb5.os, hb5.tape, hb5.output, hb5.size, hb5.block⟩)
       clear ho5 hb5
       have HS5 := Lib.hid (HSf.out w5 HB5.out)
       have HS5d := Lib.hid (HSf.out w5.drew (below_drew HB5.out))
       have HS5s := Lib.hid (fun (v0 v1 v2 v3 : Value) => (show ((((w5.setCell ⟨w.heap.size, 0, none⟩ v0).setCell ⟨w.heap.size, 1, none⟩ v1).setCell ⟨w.heap.size, 2, none⟩ v2).setCell ⟨w.heap.size, 3, none⟩ v3).cell? ⟨ad.block, ad.off + 3, none⟩ = some (.int .u8 x3) ∧ ((((w5.setCell ⟨w.heap.size, 0, none⟩ v0).setCell ⟨w.heap.size, 1, none⟩ v1).setCell ⟨w.heap.size, 2, none⟩ v2).setCell ⟨w.heap.size, 3, none⟩ v3).cell? ⟨ad.block, ad.off + 4, none⟩ = some (.int .u8 x4) from
         ⟨(cell_four w5 (by have := HBk.out; show ad.block ≠ w.heap.size; omega) v0 v1 v2 v3).trans HS5.out.1, (cell_four w5 (by have := HBk.out; show ad.block ≠ w.heap.size; omega) v0 v1 v2 v3).trans HS5.out.2⟩))
       have hk5 := HKf.out w5 HB5.out
       have f0 := hk5.frozen 0
       have f1 := hk5.frozen 1
       have f2 := hk5.frozen 2
       have f3 := hk5.frozen 3
       have c0 : w5.cell? ⟨w.heap.size, 0, none⟩ = _ := hk5.cell 0
       have c1 : w5.cell? ⟨w.heap.size, 1, none⟩ = _ := hk5.cell 1
       have c2 : w5.cell? ⟨w.heap.size, 2, none⟩ = _ := hk5.cell 2
       have c3 : w5.cell? ⟨w.heap.size, 3, none⟩ = _ := hk5.cell 3
       simp only [List.getElem?_toArray, List.getElem?_cons_zero, List.getElem?_cons_succ] at c0 c1 c2 c3
       clear hk5)
    | fail)
  all_goals
    go_wp2
    refine bodyPost_ret (results_get _ _ w.heap.size _ _ _ _ _ _ rfl rfl rfl (Blk.four_put (HKf.out w5 HB5.out) rfl _ _ _ _)) rfl ?_
    rw [← HM3.out]
    refine ⟨_, _, rfl, ?_, below_four (HB0.out.trans (HB5.out.mono (by have := HZ.out; omega))) (Nat.le_refl _) _ _ _ _⟩
    exact (HO5.out.grown (grown_four w5 w.heap.size _ _ _ _) (.inr (by
      intro e
      have e2 : some w0.heap.size = some w.heap.size := e
      injection e2 with e2
      have := HZ.out
      omega))).base (by have := HZ.out; omega)
end Go.Proofs.YtkpppjhbmnfmkaaGreatDoor
