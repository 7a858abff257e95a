/-
  strings.NewReplacer("-", "+", "_", "/"), and what its Replace does to texts that have neither.
-/
import Derived.Test.YtoafmhbgbofgoaaGreatDoorOn
import Derived.Test.YtoafmhbgbofgoaaGreatDoorB64
import Derived.LoopTactic
import Derived.Deep.WholeRow
namespace Go.Proofs.YtoafmhbgbofgoaaGreatDoor
open Go.RowKit Go.Own
/-- A table of 256 bytes. -/
def Tb (W : World) (pb : Nat) (f : Nat → Int) : Prop := ∃ cs : Array Value, Blk W pb 185 cs ∧ cs.size = 256 ∧ ∀ i, i < 256 → cs[i]? = some (.int .u8 (f i))
section
variable {W W' : World} {pb : Nat} {f : Nat → Int}
theorem Tb.cell (h : Tb W pb f) {i : Nat} (hi : i < 256) : W.cell? ⟨pb, i, none⟩ = some (.int .u8 (f i)) := by
  obtain ⟨cs, hb, _, hc⟩ := h
  exact (hb.cell i).trans (hc i hi)
theorem Tb.frozen (h : Tb W pb f) (i : Nat) : W.frozen? ⟨pb, i, none⟩ = false := by
  obtain ⟨cs, hb, _, hc⟩ := h
  exact hb.frozen i
theorem Tb.lt (h : Tb W pb f) : pb < W.heap.size := by
  obtain ⟨cs, hb, _, hc⟩ := h
  exact hb.lt
theorem Tb.put (h : Tb W pb f) (i : Nat) (x : Int) : Tb (W.setCell ⟨pb, i, none⟩ (.int .u8 x)) pb (fun j => if j = i then x else f j) := by
  obtain ⟨cs, hb, hs, hc⟩ := h
  refine ⟨_, hb.put i _, by simp [hs], fun j hj => ?_⟩
  show _ = some (Value.int .u8 (if j = i then x else f j))
  by_cases e : j = i
  · subst e
    simp [hs, hj]
  · rw [if_neg e, Array.getElem?_setIfInBounds_ne (fun h => e h.symm)]
    exact hc j hj
theorem Tb.same {g : Nat → Int} (h : Tb W pb f) (e : ∀ i, i < 256 → f i = g i) : Tb W pb g := by
  obtain ⟨cs, hb, hs, hc⟩ := h
  exact ⟨cs, hb, hs, fun i hi => by rw [hc i hi, e i hi]⟩
theorem Tb.grown (h : Tb W pb f) {row : Option Nat} (hg : W.grownBy W' row) (hne : some pb ≠ row) : Tb W' pb f := by
  obtain ⟨cs, hb, hs, hc⟩ := h
  exact ⟨cs, hb.grown hg hne, hs, hc⟩
end
/-- The texts that the replacer was made of. -/
def Sc4 (W : World) (g : Nat) : Prop := W.cell? ⟨g, 0, none⟩ = some (.string ⟨#[45]⟩) ∧ W.cell? ⟨g, 1, none⟩ = some (.string ⟨#[43]⟩) ∧ W.cell? ⟨g, 2, none⟩ = some (.string ⟨#[95]⟩) ∧ W.cell? ⟨g, 3, none⟩ = some (.string ⟨#[47]⟩) ∧ g < W.heap.size
theorem Sc4.below {W W' : World} {g : Nat} (h : Sc4 W g) (hb : Below W.heap.size W W') : Sc4 W' g :=
  have hk : ∀ i, W'.cell? ⟨g, i, none⟩ = W.cell? ⟨g, i, none⟩ := fun i => hb.cell (p := ⟨g, i, none⟩) h.2.2.2.2
  ⟨(hk 0).trans h.1, (hk 1).trans h.2.1, (hk 2).trans h.2.2.1, (hk 3).trans h.2.2.2.1, Nat.lt_of_lt_of_le h.2.2.2.2 hb.size⟩
def tabF (i : Nat) : Int := if i = 45 then 43 else if i = 95 then 47 else (i : Int)
theorem zero_tab : ∃ Z : Array Value, Z.size = 256 ∧ (∀ i, i < 256 → Z[i]? = some (.int .u8 0)) ∧ (∀ W, (zeroValue 185).run Tryz.prog W = .ok (.agg Z) W) ∧
    ∀ w : World, (storeCells ⟨w.heap.size, 0, none⟩ Z.toList 0).run Tryz.prog (w.alloc (.cells Z 185)) = .ok () (w.alloc (.cells Z 185)) :=
  ⟨Array.replicate 256 (.int .u8 0), by simp, fun i hi => by simp [hi], fun W => by kernel_rfl, fun w => run_storeCells_new w _ _ _ (by kernel_rfl) rfl (by kernel_rfl)⟩
def BuildPost (W : World) (e : Ending) (w' : World) : Prop := ∃ pb, e = .returned (.iface 186 (.pointer (some ⟨pb, 0, none⟩))) ∧ W.heap.size ≤ pb ∧ Tb w' pb tabF ∧ Below W.heap.size W w'
set_option maxHeartbeats 4000000 in
set_option maxRecDepth 100000 in
theorem rbuild_any (rb g cap : Nat) (l : Int) (w : World) (hB : Blk w rb 151 (onceCells 0 l .nilIface (.slice (some ⟨g, 0, none⟩) 4 cap))) (hS : Sc4 w g) :
    Calls Tryz.prog 121 #[.pointer (some ⟨rb, 0, none⟩)] w (BuildPost w) := by
  have c4 := hB.cell 4
  simp only [onceCells, List.getElem?_toArray, List.getElem?_cons_zero, List.getElem?_cons_succ] at c4
  obtain ⟨s0, s1, s2, s3, hg⟩ := hS
  have HS := Lib.hid (show Sc4 w g from ⟨s0, s1, s2, s3, hg⟩)
  obtain ⟨Z, hZ1, hZ2, hz, hst⟩ := zero_tab
  have hstw := hst w
  have HZ := Lib.hid (And.intro hZ1 hZ2)
  clear hst hZ2
  clear hB
  go_enter Tryz.func121, Tryz.ntmps121
  go_wp2_with fail
  refine wp_loop_rounds 3 ?_
  rw [rounds_succ]
  go_wp2_with fail
  rw [rounds_succ]
  go_wp2_with fail
  rw [rounds_succ]
  clear s0 s1 s2 s3
  go_wp2_with fail
  clear hz hstw hZ1
  have HT := Lib.hid (show Tb (w.alloc (.cells Z 185)) w.heap.size (fun j => if j < 0 then (j : Int) else 0) from ⟨Z, Blk.new w _ _, HZ.out.1, fun i hi => by rw [HZ.out.2 i hi]; simp⟩)
  have HB := Lib.hid (show Below w.heap.size w (w.alloc (.cells Z 185)) from (Below.refl _ _).alloc (Nat.le_refl _) _)
  generalize w.alloc _ = w1 at HT HB ⊢
  obtain ⟨pb, hpb⟩ : ∃ p, w.heap.size = p := ⟨_, rfl⟩
  have HPB := Lib.hid hpb
  rw [hpb] at HT hg ⊢
  clear hpb
  go_loopw [61] (fun i wr => ∃ k : Nat, k ≤ 256 ∧ i = .int .i64 (k : Int) ∧ Hid (Tb wr pb (fun j => if j < k then (j : Int) else 0) ∧ Below w.heap.size w wr)) (fun i _ => 256 - (intOf i).toNat)
  case atStart => exact ⟨0, by omega, rfl, Lib.hid ⟨HT.out, HB.out⟩⟩
  case round =>
    obtain ⟨k, hk, rfl, hh⟩ := hrel
    by_cases hlt : k < 256
    · have c0 := hh.out.1.cell hlt
      have f0 := hh.out.1.frozen k
      simp only [Nat.lt_irrefl, if_false] at c0
      go_wp2
      go_roundw
      case rel => exact ⟨k + 1, by omega, by go_num, Lib.hid ⟨(hh.out.1.put k _).same (fun j _ => by
        by_cases e : j = k
        · subst e; simp
        · by_cases e2 : j < k
          · rw [if_neg e, if_pos e2, if_pos (by omega)]
          · rw [if_neg e, if_neg e2, if_neg (by omega)]), hh.out.2.setCell (Nat.le_of_eq HPB.out) _⟩⟩
      case measure => simp [intOf]; omega
    · obtain rfl : k = 256 := by omega
      have HT2 := Lib.hid (hh.out.1.same (g := fun j => (j : Int)) (fun j hj => by rw [if_pos hj]))
      have HB2 := Lib.hid hh.out.2
      obtain ⟨s0, s1, s2, s3, _⟩ := HS.out.below hh.out.2
      have d0 := hh.out.1.cell (i := 45) (by omega)
      have d1 := hh.out.1.cell (i := 95) (by omega)
      have f0 := hh.out.1.frozen 45
      have f1 := hh.out.1.frozen 95
      simp only [Nat.reduceLT, if_true] at d0 d1
      have hne : ¬ g = pb := by omega
      have i0 : ∀ W, (Instr.index 9 (.string ⟨#[95]⟩) (.int .i64 0)).run Tryz.prog W = .ok (.int .u8 95) W := fun _ => by kernel_rfl
      have i1 : ∀ W, (Instr.index 9 (.string ⟨#[47]⟩) (.int .i64 0)).run Tryz.prog W = .ok (.int .u8 47) W := fun _ => by kernel_rfl
      have i2 : ∀ W, (Instr.index 9 (.string ⟨#[45]⟩) (.int .i64 0)).run Tryz.prog W = .ok (.int .u8 45) W := fun _ => by kernel_rfl
      have i3 : ∀ W, (Instr.index 9 (.string ⟨#[43]⟩) (.int .i64 0)).run Tryz.prog W = .ok (.int .u8 43) W := fun _ => by kernel_rfl
      clear hh
      go_wp2_with fail
      refine wp_loop_rounds 3 ?_
      rw [rounds_succ]
      go_wp2_with fail
      rw [rounds_succ]
      go_wp2_with fail
      rw [rounds_succ]
      go_wp2_with fail
      go_ret
      refine ⟨pb, rfl, Nat.le_of_eq HPB.out, ((HT2.out.put 95 47).put 45 43).same (fun j _ => ?_), (HB2.out.setCell (Nat.le_of_eq HPB.out) _).setCell (Nat.le_of_eq HPB.out) _⟩
      unfold tabF
      split <;> rfl
end Go.Proofs.YtoafmhbgbofgoaaGreatDoor
