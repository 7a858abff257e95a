/-
  Contracts: frame.word, fit: the numbers of what is said fit; the writers of settings and of GOAWAY.
-/
import Derived.Test.YtkpppjhbmnfmkaaGreatDoorJe
import Derived.Deep.RegionHeld3
import Derived.Deep.RegionLaw
set_option linter.unusedSimpArgs false
set_option linter.unusedVariables false
namespace Go.Proofs.YtkpppjhbmnfmkaaGreatDoor
open Go.RowKit Go.Own Go.Own.Fr Go.Own.Im
set_option maxRecDepth 100000 in
theorem fword_yes (n : Int) (w : World) (h0 : 0 ≤ n) (h1 : n < 4294967296) : Calls Tryz.prog 142 #[.int .i64 n] w fun e w' => e = .returned (.bool true) ∧ w = w' := by
  go_enter Tryz.func142, Tryz.ntmps142
  go_wp2
  go_ret
  exact ⟨rfl, rfl⟩
/-- The numbers fit. -/
structure FitI (i : Inf) : Prop where
  few : i.sets.length ≤ 1000000
  sets : ∀ s ∈ i.sets, s.1 ≤ 65535 ∧ s.2 < 4294967296
  typ : i.typ ≤ 255
  flags : i.flags ≤ 255
  stream : i.stream ≤ 2147483647
  pad : i.pad ≤ 255
  dep : i.dep ≤ 2147483647
  weight : i.weight ≤ 256
  code : i.code < 4294967296
  last : i.last ≤ 2147483647
  inc : i.inc ≤ 2147483647
  promise : i.promise ≤ 2147483647
/-- A slice reads as settings. -/
def SetR (w : World) (v : Value) (l : List (Nat × Nat)) : Prop := ∃ A c, v = .slice A l.length c ∧ l.length ≤ c ∧ Cm.RS setC 2 w w.heap.size A l.length l
theorem SetR.of_own {w : World} {base : Nat} {v : Value} {l : List (Nat × Nat)} (h : SetO w base v l) : SetR w v l := by
  obtain ⟨A, c, rfl, h1, _⟩ := h.form
  exact ⟨A, c, rfl, h1, h.rs (fun _ => rfl) (by omega)⟩
theorem SetR.below {w w' : World} {v : Value} {l : List (Nat × Nat)} (h : SetR w v l) (hb : Below w.heap.size w w') : SetR w' v l := by
  obtain ⟨A, c, rfl, h1, h2⟩ := h
  exact ⟨A, c, rfl, h1, (h2.below hb).more hb.size⟩
theorem SetR.at_ {w : World} {A : Option Addr} {c k : Nat} {l : List (Nat × Nat)} (h : SetR w (.slice A l.length c) l) (hk : k < l.length) : ∃ ad, A = some ad ∧ ad.block < w.heap.size ∧ w.cell? (ad.add (k * 2)) = some (.int .i64 ((l.getD k (0, 0)).1 : Nat)) ∧ w.cell? ⟨(ad.add (k * 2)).block, (ad.add (k * 2)).off + 1, none⟩ = some (.int .i64 ((l.getD k (0, 0)).2 : Nat)) := by
  obtain ⟨A', c', e, _, h2⟩ := h
  injection e with e1 _ _
  subst e1
  obtain ⟨ad, e, h3, h4, h5, h6⟩ := h2.2 k l[k] (List.getElem?_eq_getElem hk)
  have e2 : l.getD k (0, 0) = l[k] := by simp [List.getD, hk]
  refine ⟨ad, e, h4, ?_, ?_⟩
  · rw [h5, e2]; rfl
  · rw [e2]; exact h6 1 _ (by omega) rfl
set_option maxHeartbeats 4000000 in
set_option maxRecDepth 100000 in
theorem fit_any (i : Inf) (sv dv : Value) (W : World) (hf : FitI i) (hs : SetR W sv i.sets) : Calls Tryz.prog 100 #[.agg (infC i sv dv)] W fun e w' => e = .returned (.bool true) ∧ Below W.heap.size W w' := by
  obtain ⟨A, c, rfl, hc, hrs⟩ := hs
  have HX := Lib.hid (Blk.new W 91 (infC i (.slice A i.sets.length c) dv))
  have HB0 := Lib.hid ((Below.refl W.heap.size W).alloc (Nat.le_refl _) (.cells (infC i (.slice A i.sets.length c) dv) 91))
  have HS0 := Lib.hid (show SetR (W.alloc (.cells (infC i (.slice A i.sets.length c) dv) 91)) (.slice A i.sets.length c) i.sets from SetR.below (w := W) ⟨A, c, rfl, hc, hrs⟩ HB0.out)
  have HF := Lib.hid hf
  have hfew := hf.few
  clear hf hrs
  go_enter Tryz.func100, Tryz.ntmps100
  go_upto_region 1 with fail
  generalize hW0 : W.alloc (.cells (infC i (.slice A i.sets.length c) dv) 91) = W0 at *
  have HZ := Lib.hid (show W0.heap.size = W.heap.size + 1 by rw [← hW0]; simp)
  clear hW0
  have c16 : W0.cell? ⟨W.heap.size, 16, none⟩ = some (.slice A i.sets.length c) := HX.out.cell 16
  go_wp2
  go_loopw [8] (fun t wr => Hid (∃ k : Nat, k ≤ i.sets.length ∧ t = .int .i64 (k : Nat) ∧ Below W0.heap.size W0 wr)) (fun t _ => i.sets.length - (intOf t).toNat)
  case atStart => exact Lib.hid ⟨0, Nat.zero_le _, rfl, Below.refl _ _⟩
  case round =>
    obtain ⟨k, hk, rfl, hb⟩ := hrel.out
    clear hrel
    by_cases hlt : k < i.sets.length
    · obtain ⟨ad, rfl, hbl, d0, d1⟩ := (HS0.out.below hb).at_ hlt
      have hx := HF.out.sets (i.sets.getD k (0, 0)) (by simp [List.getD, hlt])
      obtain ⟨⟨x, y⟩, hxy⟩ : ∃ p, i.sets.getD k (0, 0) = p := ⟨_, rfl⟩
      rw [hxy] at d0 d1 hx
      simp only at d0 d1 hx
      have x0 : (0 : Int) ≤ (x : Int) := by omega
      have x1 : (x : Int) ≤ 65535 := by omega
      have HWd := Lib.hid (fun W => fword_yes (y : Int) W (by omega) (by omega))
      have HBb := Lib.hid hb
      clear hxy hx hb
      go_wp2_with (first
        | ((with_reducible refine (HWd.out _).mono ?_); rintro e w' ⟨rfl, rfl⟩)
        | fail)
      exact ⟨Lib.hid ⟨k + 1, by omega, by go_num, HBb.out.alloc HBb.out.size _⟩, by simp [intOf]; omega⟩
    · have HF' := HF.out
      have hX := HX.out.below hb HX.out.lt
      have d0 : wr.cell? ⟨W.heap.size, 0, none⟩ = some (.int .i64 (i.typ : Nat)) := hX.cell 0
      have d1 : wr.cell? ⟨W.heap.size, 1, none⟩ = some (.int .i64 (i.flags : Nat)) := hX.cell 1
      have d2 : wr.cell? ⟨W.heap.size, 2, none⟩ = some (.int .i64 (i.stream : Nat)) := hX.cell 2
      have d9 : wr.cell? ⟨W.heap.size, 9, none⟩ = some (.int .i64 (i.pad : Nat)) := hX.cell 9
      have d10 : wr.cell? ⟨W.heap.size, 10, none⟩ = some (.int .i64 (i.dep : Nat)) := hX.cell 10
      have d11 : wr.cell? ⟨W.heap.size, 11, none⟩ = some (.int .i64 (i.weight : Nat)) := hX.cell 11
      have d12 : wr.cell? ⟨W.heap.size, 12, none⟩ = some (.int .i64 (i.code : Nat)) := hX.cell 12
      have d13 : wr.cell? ⟨W.heap.size, 13, none⟩ = some (.int .i64 (i.last : Nat)) := hX.cell 13
      have d14 : wr.cell? ⟨W.heap.size, 14, none⟩ = some (.int .i64 (i.inc : Nat)) := hX.cell 14
      have d15 : wr.cell? ⟨W.heap.size, 15, none⟩ = some (.int .i64 (i.promise : Nat)) := hX.cell 15
      have H0 := Lib.hid (byteOf_yes (i.typ : Int) wr (by omega) (by have := HF'.typ; omega))
      have H1 := Lib.hid (byteOf_yes (i.flags : Int) wr (by omega) (by have := HF'.flags; omega))
      have H2 := Lib.hid (fstream_yes (i.stream : Int) wr (by omega) (by have := HF'.stream; omega))
      have H9 := Lib.hid (byteOf_yes (i.pad : Int) wr (by omega) (by have := HF'.pad; omega))
      have H10 := Lib.hid (fstream_yes (i.dep : Int) wr (by omega) (by have := HF'.dep; omega))
      have H12 := Lib.hid (fword_yes (i.code : Int) wr (by omega) (by have := HF'.code; omega))
      have H13 := Lib.hid (fstream_yes (i.last : Int) wr (by omega) (by have := HF'.last; omega))
      have H14 := Lib.hid (fstream_yes (i.inc : Int) wr (by omega) (by have := HF'.inc; omega))
      have H15 := Lib.hid (fstream_yes (i.promise : Int) wr (by omega) (by have := HF'.promise; omega))
      have w0 : (0 : Int) ≤ (i.weight : Int) := by omega
      have w1 : (i.weight : Int) ≤ 256 := by have := HF'.weight; omega
      have HBb := Lib.hid (HB0.out.trans (hb.mono (by have := HZ.out; omega)))
      have hge : ¬ (k : Int) < (i.sets.length : Int) := by omega
      clear hb hX HF' HX HS0 HF c16
      generalize i.typ = n0 at d0 H0
      generalize i.flags = n1 at d1 H1
      generalize i.stream = n2 at d2 H2
      generalize i.pad = n9 at d9 H9
      generalize i.dep = n10 at d10 H10
      generalize i.weight = n11 at d11 w0 w1
      generalize i.code = n12 at d12 H12
      generalize i.last = n13 at d13 H13
      generalize i.inc = n14 at d14 H14
      generalize i.promise = n15 at d15 H15
      generalize i.sets.length = nl at *
      generalize infC i (Value.slice A nl c) dv = cs at *
      as_aux_lemma =>
        go_wp2_with (first
          | ((with_reducible refine H0.out.mono ?_); rintro e w' ⟨rfl, hw⟩; subst w')
          | ((with_reducible refine H1.out.mono ?_); rintro e w' ⟨rfl, hw⟩; subst w')
          | ((with_reducible refine H2.out.mono ?_); rintro e w' ⟨rfl, hw⟩; subst w')
          | ((with_reducible refine H9.out.mono ?_); rintro e w' ⟨rfl, hw⟩; subst w')
          | ((with_reducible refine H10.out.mono ?_); rintro e w' ⟨rfl, hw⟩; subst w')
          | ((with_reducible refine H12.out.mono ?_); rintro e w' ⟨rfl, hw⟩; try subst w')
          | ((with_reducible refine H13.out.mono ?_); rintro e w' ⟨rfl, hw⟩; subst w')
          | ((with_reducible refine H14.out.mono ?_); rintro e w' ⟨rfl, hw⟩; subst w')
          | ((with_reducible refine H15.out.mono ?_); rintro e w' ⟨rfl, hw⟩; subst w')
          | fail)
        go_ret
        exact ⟨rfl, HBb.out⟩
end Go.Proofs.YtkpppjhbmnfmkaaGreatDoor
