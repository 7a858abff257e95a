/-
  Contract: frame.flags: the flags of what is said, by a table that is gone through in whatever order.
-/
import Derived.Test.YtkpppjhbmnfmkaaGreatDoorHt
import Derived.Test.YtkpppjhbmnfmkaaGreatDoorJd
import Derived.Maps.RangeWalk
set_option linter.unusedSimpArgs false
set_option linter.unusedVariables false
namespace Go.Own.Fr
open Go Go.RowKit
def flgB (b1 b4 b8 b32 v1 v4 v8 v32 : Bool) (f : Nat) : Nat := f ||| ((if v1 && b1 then 1 else 0) ||| ((if v4 && b4 then 4 else 0) ||| ((if v8 && b8 then 8 else 0) ||| (if v32 && b32 then 32 else 0))))
section
variable (b1 b4 b8 b32 v1 v4 v8 v32 : Bool) (f : Nat)
theorem flgB_lt (h : f ≤ 255) : flgB b1 b4 b8 b32 v1 v4 v8 v32 f < 256 := by
  unfold flgB
  refine Nat.or_lt_two_pow (n := 8) (by omega) (Nat.or_lt_two_pow ?_ (Nat.or_lt_two_pow ?_ (Nat.or_lt_two_pow ?_ ?_))) <;> split <;> omega
theorem flgB_1 : flgB b1 b4 b8 b32 true v4 v8 v32 f = if b1 then flgB b1 b4 b8 b32 false v4 v8 v32 f ||| 1 else flgB b1 b4 b8 b32 false v4 v8 v32 f := by
  unfold flgB
  cases b1
  · simp
  · simp only [Bool.true_and, Bool.false_and, if_true, Bool.false_eq_true, if_false, Nat.zero_or]
    ac_rfl
theorem flgB_4 : flgB b1 b4 b8 b32 v1 true v8 v32 f = if b4 then flgB b1 b4 b8 b32 v1 false v8 v32 f ||| 4 else flgB b1 b4 b8 b32 v1 false v8 v32 f := by
  unfold flgB
  cases b4
  · simp
  · simp only [Bool.true_and, Bool.false_and, if_true, Bool.false_eq_true, if_false, Nat.zero_or]
    ac_rfl
theorem flgB_8 : flgB b1 b4 b8 b32 v1 v4 true v32 f = if b8 then flgB b1 b4 b8 b32 v1 v4 false v32 f ||| 8 else flgB b1 b4 b8 b32 v1 v4 false v32 f := by
  unfold flgB
  cases b8
  · simp
  · simp only [Bool.true_and, Bool.false_and, if_true, Bool.false_eq_true, if_false, Nat.zero_or]
    ac_rfl
theorem flgB_32 : flgB b1 b4 b8 b32 v1 v4 v8 true f = if b32 then flgB b1 b4 b8 b32 v1 v4 v8 false f ||| 32 else flgB b1 b4 b8 b32 v1 v4 v8 false f := by
  unfold flgB
  cases b32
  · simp
  · simp only [Bool.true_and, Bool.false_and, if_true, Bool.false_eq_true, if_false, Nat.or_zero]
    ac_rfl
theorem flg_all (i : Inf) : flg i = flgB (i.endd || i.ack) i.endHeads i.padded i.prio true true true true i.flags := by
  unfold flg flgB
  simp
end
def leftB (v1 v4 v8 v32 : Bool) (k : Int) : Bool := (decide (k = 1) && !v1) || ((decide (k = 4) && !v4) || ((decide (k = 8) && !v8) || (decide (k = 32) && !v32)))
def flMap (b1 b4 b8 b32 : Bool) (k : Int) : Option Value := if k = 1 then some (.bool b1) else if k = 4 then some (.bool b4) else if k = 8 then some (.bool b8) else if k = 32 then some (.bool b32) else none
theorem leftB_some {b1 b4 b8 b32 : Bool} (k : Int) : (flMap b1 b4 b8 b32 k).isSome = leftB false false false false k := by
  unfold flMap leftB
  by_cases h1 : k = 1
  · simp [h1]
  · by_cases h4 : k = 4
    · simp [h4]
    · by_cases h8 : k = 8
      · simp [h8]
      · by_cases h32 : k = 32 <;> simp [h1, h4, h8, h32]
theorem leftB_cases {v1 v4 v8 v32 : Bool} {k : Int} (h : leftB v1 v4 v8 v32 k = true) : (k = 1 ∧ v1 = false) ∨ (k = 4 ∧ v4 = false) ∨ (k = 8 ∧ v8 = false) ∨ (k = 32 ∧ v32 = false) := by
  unfold leftB at h
  simp only [Bool.or_eq_true, Bool.and_eq_true, decide_eq_true_eq, Bool.not_eq_true'] at h
  exact h
/-- While the flags are gathered. -/
structure FlJ (P : Program) (kt : TypeId) (W : World) (mb r : Nat) (D : DataW Value) (b1 b4 b8 b32 : Bool) (f : Nat) (t : Value) (wr : World) (left : Lit → Bool) (cnt : Nat) (v1 v4 v8 v32 : Bool) : Prop where
  rng : wr.ranges P kt Im.Rh mb r 4 D left cnt
  lf : ∀ k : Int, left (Im.il k) = leftB v1 v4 v8 v32 k
  val : t = .int .i64 (flgB b1 b4 b8 b32 v1 v4 v8 v32 f : Nat)
  bel : Below W.heap.size W wr
def FlR (P : Program) (kt : TypeId) (W : World) (mb r : Nat) (D : DataW Value) (b1 b4 b8 b32 : Bool) (f : Nat) (t : Value) (wr : World) : Prop := ∃ left cnt v1 v4 v8 v32, FlJ P kt W mb r D b1 b4 b8 b32 f t wr left cnt v1 v4 v8 v32
theorem left_strike {left : Lit → Bool} {x : Int} (k : Int) : (left (Im.il k) && !(Im.il k).sameKey (Im.il x)) = (left (Im.il k) && !decide (k = x)) := by
  have : (Im.il k).sameKey (Im.il x) = decide (k = x) := by
    simp [Im.il, Lit.sameKey]
  rw [this]
theorem flD {D : DataW Value} {b1 b4 b8 b32 : Bool} (hD : ∀ k : Int, Maps.has D (Im.il k) = (if k = 32 then some (Value.bool b32) else if k = 8 then some (Value.bool b8) else if k = 4 then some (Value.bool b4) else if k = 1 then some (Value.bool b1) else none).isSome ∧
    ∀ (z : DataW Value) (v : Value), (if k = 32 then some (Value.bool b32) else if k = 8 then some (Value.bool b8) else if k = 4 then some (Value.bool b4) else if k = 1 then some (Value.bool b1) else none) = some v → D.atKey (Im.il k) z = .held v) :
    ∀ k : Int, Maps.has D (Im.il k) = leftB false false false false k ∧ ∀ (z : DataW Value) (v : Value), flMap b1 b4 b8 b32 k = some v → D.atKey (Im.il k) z = .held v := fun k => by
  have e : (if k = 32 then some (Value.bool b32) else if k = 8 then some (Value.bool b8) else if k = 4 then some (Value.bool b4) else if k = 1 then some (Value.bool b1) else none) = flMap b1 b4 b8 b32 k := by
    unfold flMap
    by_cases h1 : k = 1
    · simp [h1]
    · by_cases h4 : k = 4
      · simp [h4]
      · by_cases h8 : k = 8
        · simp [h8]
        · by_cases h32 : k = 32 <;> simp [h1, h4, h8, h32]
  have h := hD k
  rw [e] at h
  rw [← leftB_some (b1 := b1) (b4 := b4) (b8 := b8) (b32 := b32) k]
  exact h
end Go.Own.Fr
namespace Go.Proofs.YtkpppjhbmnfmkaaGreatDoor
open Go.RowKit Go.Own Go.Own.Fr Go.Own.Im
theorem kInt : Maps.Keyed Tryz.prog 3 := Maps.int_keyed Tryz.underlying3
set_option maxHeartbeats 8000000 in
set_option maxRecDepth 100000 in
theorem flags_any (i : Inf) (sv dv : Value) (W : World) (hf : i.flags ≤ 255) :
    Calls Tryz.prog 103 #[.agg (infC i sv dv)] W fun e w' => e = .returned (.int .i64 (flg i : Nat)) ∧ Below W.heap.size W w' := by
  have HX := Lib.hid (Blk.new W 91 (infC i sv dv))
  have HB0 := Lib.hid ((Below.refl W.heap.size W).alloc (Nat.le_refl _) (.cells (infC i sv dv) 91))
  have HQ := Lib.hid (flg_all i)
  have HF := Lib.hid hf
  clear hf
  obtain ⟨fl, hfl⟩ : ∃ x, i.flags = x := ⟨_, rfl⟩
  obtain ⟨b1e, h1e⟩ : ∃ x, i.endd = x := ⟨_, rfl⟩
  obtain ⟨b1a, h1a⟩ : ∃ x, i.ack = x := ⟨_, rfl⟩
  obtain ⟨b4, h4⟩ : ∃ x, i.endHeads = x := ⟨_, rfl⟩
  obtain ⟨b8, h8⟩ : ∃ x, i.padded = x := ⟨_, rfl⟩
  obtain ⟨b32, h32⟩ : ∃ x, i.prio = x := ⟨_, rfl⟩
  have HXc := Lib.hid (fun W' (h : Blk W' W.heap.size 91 (infC i sv dv)) => (show W'.cell? ⟨W.heap.size, 1, none⟩ = some (.int .i64 (fl : Nat)) ∧ W'.cell? ⟨W.heap.size, 3, none⟩ = some (.bool b1e) ∧ W'.cell? ⟨W.heap.size, 4, none⟩ = some (.bool b4) ∧ W'.cell? ⟨W.heap.size, 5, none⟩ = some (.bool b1a) ∧ W'.cell? ⟨W.heap.size, 6, none⟩ = some (.bool b8) ∧ W'.cell? ⟨W.heap.size, 7, none⟩ = some (.bool b32) from
    ⟨by rw [← hfl]; exact h.cell 1, by rw [← h1e]; exact h.cell 3, by rw [← h4]; exact h.cell 4, by rw [← h1a]; exact h.cell 5, by rw [← h8]; exact h.cell 6, by rw [← h32]; exact h.cell 7⟩))
  rw [hfl] at HF
  rw [hfl, h1e, h1a, h4, h8, h32] at HQ
  clear hfl h1e h1a h4 h8 h32
  rw [HQ.out]
  clear HQ
  have hmk := fun W => run_mkMap (P := Tryz.prog) 219 W
  generalize hb1 : (b1e || b1a) = b1
  cases hbe : b1e
  · rw [hbe] at hb1 HXc
    clear hbe b1e
    simp only [Bool.false_or] at hb1
    subst hb1
    go_enter Tryz.func103, Tryz.ntmps103
    go_upto_region 1 with fail
    generalize infC i sv dv = cs at *
    have HZ := Lib.hid (show (W.alloc (.cells cs 91)).heap.size = W.heap.size + 1 by simp)
    generalize W.alloc (.cells cs 91) = W0 at *
    have HSf := Lib.hid (fun W' (hW : Below W0.heap.size W0 W') => HXc.out W' (HX.out.below hW HX.out.lt))
    obtain ⟨c1, c3, c4, c5, c6, c7⟩ := HSf.out W0 (Below.refl _ _)
    have hlt0 := HX.out.lt
    have HM0 := Lib.hid (HM.made Tryz.prog 3 W0)
    have HBs := Lib.hid ((Below.refl W0.heap.size W0).alloc (Nat.le_refl _) (.map #[] 0))
    go_wp2_with (first
      | (with_reducible refine wpList_put _ rfl (.tmp 8) (.const (.int .i64 1)) (.tmp 14) 219 (.inl rfl) Tryz.underlying219 Tryz.underlying3 W0.heap.size 0 _ rfl HM0.out ?_ 1 ?_ rfl (.bool _) rfl ?_
         · simp only [maxLen]; omega
         · decide
         intro w1 hm hg
         have HM1 := Lib.hid hm
         have hb1 := HBs.out.grown hg HBs.out.size (fun j e => by injection e with e; omega)
         have HB1 := Lib.hid hb1
         clear c1 c3 c4 c5 c6 c7
         obtain ⟨c1, c3, c4, c5, c6, c7⟩ := HSf.out w1 hb1
         clear hm hg HM0 hb1)
      | (with_reducible refine wpList_put _ rfl (.tmp 8) (.const (.int .i64 4)) (.tmp 16) 219 (.inl rfl) Tryz.underlying219 Tryz.underlying3 W0.heap.size 1 _ rfl HM1.out ?_ 4 ?_ rfl (.bool _) rfl ?_
         · simp only [maxLen]; omega
         · decide
         intro w2 hm hg
         have HM2 := Lib.hid hm
         have hb1 := HB1.out.grown hg HB1.out.size (fun j e => by injection e with e; omega)
         have HB2 := Lib.hid hb1
         clear c1 c3 c4 c5 c6 c7
         obtain ⟨c1, c3, c4, c5, c6, c7⟩ := HSf.out w2 hb1
         clear hm hg HM1 hb1)
      | (with_reducible refine wpList_put _ rfl (.tmp 8) (.const (.int .i64 8)) (.tmp 18) 219 (.inl rfl) Tryz.underlying219 Tryz.underlying3 W0.heap.size 2 _ rfl HM2.out ?_ 8 ?_ rfl (.bool _) rfl ?_
         · simp only [maxLen]; omega
         · decide
         intro w3 hm hg
         have HM3 := Lib.hid hm
         have hb1 := HB2.out.grown hg HB2.out.size (fun j e => by injection e with e; omega)
         have HB3 := Lib.hid hb1
         clear c1 c3 c4 c5 c6 c7
         obtain ⟨c1, c3, c4, c5, c6, c7⟩ := HSf.out w3 hb1
         clear hm hg HM2 hb1)
      | (with_reducible refine wpList_put _ rfl (.tmp 8) (.const (.int .i64 32)) (.tmp 20) 219 (.inl rfl) Tryz.underlying219 Tryz.underlying3 W0.heap.size 3 _ rfl HM3.out ?_ 32 ?_ rfl (.bool _) rfl ?_
         · simp only [maxLen]; omega
         · decide
         intro w4 hm hg
         have HM4 := Lib.hid hm
         have hb1 := HB3.out.grown hg HB3.out.size (fun j e => by injection e with e; omega)
         have HB4 := Lib.hid hb1
         obtain ⟨D, hown, hmap, hD⟩ := hm
         clear c1 c3 c4 c5 c6 c7 hg HM3 hb1)
      | (at_range; refine wpList_range_own _ rfl _ 219 rfl 3 4 kInt Tryz.underlying219 Rh W0.heap.size 4 D rfl hown ?_; intro w0 hrg0 hg0 hs0)
      | fail)
    have hDf := flD hD
    have HD := Lib.hid hDf
    have HR0 := Lib.hid hrg0
    have HG0 := Lib.hid (HB4.out.grown hg0 HB4.out.size (fun j e => by cases e))
    have HIt := Lib.hid (show W0.heap.size ≤ w4.heap.size from HB4.out.size)
    have hfl9 : fl ≤ 255 := HF.out
    have HBW := Lib.hid (show Below W.heap.size W W0 from HB0.out)
    have HZ2 := Lib.hid (show W.heap.size ≤ W0.heap.size by have := HZ.out; omega)
    have c1 := (HSf.out w0 HG0.out).1
    clear hD hDf hmap hown hrg0 hg0 hs0 HM4 HBs HSf HXc HX
    go_wp2_with fail
    go_loopw [3] (fun t wr => Hid (FlR Tryz.prog 3 W0 W0.heap.size w4.heap.size D b1a b4 b8 b32 fl t wr)) (fun _ wr => wr.rangeLeft W0.heap.size w4.heap.size)
    case atStart =>
      exact Lib.hid ⟨_, _, false, false, false, false, HR0.out, fun k => (HD.out k).1, by simp [flgB], HG0.out⟩
    case round =>
      obtain ⟨left, cnt, v1, v4, v8, v32, hj⟩ := hrel.out
      clear hrel
      have hrg := hj.rng
      obtain rfl := hj.val
      have HJ := Lib.hid hj
      clear hj
      obtain ⟨m, hm⟩ : ∃ m, flgB b1a b4 b8 b32 v1 v4 v8 v32 fl = m := ⟨_, rfl⟩
      have hm9 : m < 256 := by rw [← hm]; exact flgB_lt _ _ _ _ _ _ _ _ _ hfl9
      have e1 : bits .or .i64 (m : Int) 1 = ((m ||| 1 : Nat) : Int) := or_nat m 1 (by omega) (by omega)
      have e4 : bits .or .i64 (m : Int) 4 = ((m ||| 4 : Nat) : Int) := or_nat m 4 (by omega) (by omega)
      have e8 : bits .or .i64 (m : Int) 8 = ((m ||| 8 : Nat) : Int) := or_nat m 8 (by omega) (by omega)
      have e32 : bits .or .i64 (m : Int) 32 = ((m ||| 32 : Nat) : Int) := or_nat m 32 (by omega) (by omega)
      rw [hm]
      have HMm := Lib.hid hm
      clear hm hm9
      go_wp2_with (first
        | (at_next; refine wpList_next_ranges _ rfl _ rfl 3 kInt Rh (Value.int .i64) id (fun key kl hk => by obtain ⟨x, hx, _⟩ := Maps.keyOf_int_inv Tryz.underlying3 hk; exact ⟨x, hx⟩) (fun v y _ => ⟨v, rfl⟩) W0.heap.size w4.heap.size 4 _ _ _ rfl hrg ?_ ?_)
        | fail)
      · intro hc0 hl0
        have hv : v1 = true ∧ v4 = true ∧ v8 = true ∧ v32 = true := by
          have h1 := (HJ.out.lf 1).symm.trans (hl0 _)
          have h4 := (HJ.out.lf 4).symm.trans (hl0 _)
          have h8 := (HJ.out.lf 8).symm.trans (hl0 _)
          have h32 := (HJ.out.lf 32).symm.trans (hl0 _)
          simp [leftB] at h1 h4 h8 h32
          exact ⟨h1, h4, h8, h32⟩
        obtain ⟨rfl, rfl, rfl, rfl⟩ := hv
        clear hrg e1 e4 e8 e32
        go_wp2
        go_ret
        refine ⟨congrArg (fun z : Nat => Ending.returned (.int .i64 (z : Int))) HMm.out.symm, HBW.out.trans (HJ.out.bel.mono HZ2.out)⟩
      · intro x c kl y yp w5 cnt' hkey hlk hv hat hrg1 hlt hg1 hs1 hen
        (try simp only [id] at hen hv)
        obtain ⟨x', ex, rfl, _⟩ := Maps.keyOf_int_inv Tryz.underlying3 hkey
        cases ex
        have hy : y = .held c := by injection hv with hv; injection hv with hv; exact hv.symm
        have hsz5 := hg1.size
        have hb5 : Below W0.heap.size W0 w5 := HJ.out.bel.grown hg1 HJ.out.bel.size (fun j e => by injection e with e; have := HIt.out; omega)
        have HL := Lib.hid hlt
        have HRG := Lib.hid hrg
        have HRG1 := Lib.hid hrg1
        have HB5 := Lib.hid hb5
        rcases leftB_cases ((HJ.out.lf x).symm.trans hlk) with ⟨rfl, rfl⟩ | ⟨rfl, rfl⟩ | ⟨rfl, rfl⟩ | ⟨rfl, rfl⟩
        · have hc : c = .bool b1a := by
            have h2 := (HD.out 1).2 (.held c) (.bool b1a) rfl
            have h := (hat (.held c)).symm.trans h2
            rw [hy] at h
            injection h
          subst hc
          have HN := Lib.hid (fun (t : Value) (ht : t = .int .i64 (flgB b1a b4 b8 b32 true v4 v8 v32 fl : Nat)) => (show FlJ Tryz.prog 3 W0 W0.heap.size w4.heap.size D b1a b4 b8 b32 fl t w5 (fun z => left z && !z.sameKey (.int .i64 1)) cnt' true v4 v8 v32 from
            ⟨HRG1.out, fun k => by
              have e : (Lit.int .i64 1) = il 1 := rfl
              show (left (il k) && !(il k).sameKey (.int .i64 1)) = _
              rw [e, left_strike, HJ.out.lf]
              unfold leftB
              by_cases e : k = 1 <;> simp [e], ht, HB5.out⟩))
          have HE := Lib.hid (flgB_1 b1a b4 b8 b32 v4 v8 v32 fl)
          clear hkey hlk hv hat hrg1 hlt hg1 hs1 hy hb5 hsz5 hrg
          rcases Bool.eq_false_or_eq_true (b1a) with hbb | hbb
          all_goals
            (try rw [hbb] at hen)
            have HB := Lib.hid hbb
            clear hbb
            go_wp2
            refine ⟨Lib.hid ⟨_, _, _, _, _, _, HN.out _ ?_⟩, by rw [HRG1.out.left_eq, HRG.out.left_eq]; exact HL.out⟩
            rw [HE.out, HMm.out]
            first
              | exact absurd HB.out (by decide)
              | rw [if_pos HB.out]
              | rw [if_neg (fun h => Bool.false_ne_true (HB.out.symm.trans h))]
        · have hc : c = .bool b4 := by
            have h2 := (HD.out 4).2 (.held c) (.bool b4) rfl
            have h := (hat (.held c)).symm.trans h2
            rw [hy] at h
            injection h
          subst hc
          have HN := Lib.hid (fun (t : Value) (ht : t = .int .i64 (flgB b1a b4 b8 b32 v1 true v8 v32 fl : Nat)) => (show FlJ Tryz.prog 3 W0 W0.heap.size w4.heap.size D b1a b4 b8 b32 fl t w5 (fun z => left z && !z.sameKey (.int .i64 4)) cnt' v1 true v8 v32 from
            ⟨HRG1.out, fun k => by
              have e : (Lit.int .i64 4) = il 4 := rfl
              show (left (il k) && !(il k).sameKey (.int .i64 4)) = _
              rw [e, left_strike, HJ.out.lf]
              unfold leftB
              by_cases e : k = 4 <;> simp [e], ht, HB5.out⟩))
          have HE := Lib.hid (flgB_4 b1a b4 b8 b32 v1 v8 v32 fl)
          clear hkey hlk hv hat hrg1 hlt hg1 hs1 hy hb5 hsz5 hrg
          rcases Bool.eq_false_or_eq_true (b4) with hbb | hbb
          all_goals
            (try rw [hbb] at hen)
            have HB := Lib.hid hbb
            clear hbb
            go_wp2
            refine ⟨Lib.hid ⟨_, _, _, _, _, _, HN.out _ ?_⟩, by rw [HRG1.out.left_eq, HRG.out.left_eq]; exact HL.out⟩
            rw [HE.out, HMm.out]
            first
              | exact absurd HB.out (by decide)
              | rw [if_pos HB.out]
              | rw [if_neg (fun h => Bool.false_ne_true (HB.out.symm.trans h))]
        · have hc : c = .bool b8 := by
            have h2 := (HD.out 8).2 (.held c) (.bool b8) rfl
            have h := (hat (.held c)).symm.trans h2
            rw [hy] at h
            injection h
          subst hc
          have HN := Lib.hid (fun (t : Value) (ht : t = .int .i64 (flgB b1a b4 b8 b32 v1 v4 true v32 fl : Nat)) => (show FlJ Tryz.prog 3 W0 W0.heap.size w4.heap.size D b1a b4 b8 b32 fl t w5 (fun z => left z && !z.sameKey (.int .i64 8)) cnt' v1 v4 true v32 from
            ⟨HRG1.out, fun k => by
              have e : (Lit.int .i64 8) = il 8 := rfl
              show (left (il k) && !(il k).sameKey (.int .i64 8)) = _
              rw [e, left_strike, HJ.out.lf]
              unfold leftB
              by_cases e : k = 8 <;> simp [e], ht, HB5.out⟩))
          have HE := Lib.hid (flgB_8 b1a b4 b8 b32 v1 v4 v32 fl)
          clear hkey hlk hv hat hrg1 hlt hg1 hs1 hy hb5 hsz5 hrg
          rcases Bool.eq_false_or_eq_true (b8) with hbb | hbb
          all_goals
            (try rw [hbb] at hen)
            have HB := Lib.hid hbb
            clear hbb
            go_wp2
            refine ⟨Lib.hid ⟨_, _, _, _, _, _, HN.out _ ?_⟩, by rw [HRG1.out.left_eq, HRG.out.left_eq]; exact HL.out⟩
            rw [HE.out, HMm.out]
            first
              | exact absurd HB.out (by decide)
              | rw [if_pos HB.out]
              | rw [if_neg (fun h => Bool.false_ne_true (HB.out.symm.trans h))]
        · have hc : c = .bool b32 := by
            have h2 := (HD.out 32).2 (.held c) (.bool b32) rfl
            have h := (hat (.held c)).symm.trans h2
            rw [hy] at h
            injection h
          subst hc
          have HN := Lib.hid (fun (t : Value) (ht : t = .int .i64 (flgB b1a b4 b8 b32 v1 v4 v8 true fl : Nat)) => (show FlJ Tryz.prog 3 W0 W0.heap.size w4.heap.size D b1a b4 b8 b32 fl t w5 (fun z => left z && !z.sameKey (.int .i64 32)) cnt' v1 v4 v8 true from
            ⟨HRG1.out, fun k => by
              have e : (Lit.int .i64 32) = il 32 := rfl
              show (left (il k) && !(il k).sameKey (.int .i64 32)) = _
              rw [e, left_strike, HJ.out.lf]
              unfold leftB
              by_cases e : k = 32 <;> simp [e], ht, HB5.out⟩))
          have HE := Lib.hid (flgB_32 b1a b4 b8 b32 v1 v4 v8 fl)
          clear hkey hlk hv hat hrg1 hlt hg1 hs1 hy hb5 hsz5 hrg
          rcases Bool.eq_false_or_eq_true (b32) with hbb | hbb
          all_goals
            (try rw [hbb] at hen)
            have HB := Lib.hid hbb
            clear hbb
            go_wp2
            refine ⟨Lib.hid ⟨_, _, _, _, _, _, HN.out _ ?_⟩, by rw [HRG1.out.left_eq, HRG.out.left_eq]; exact HL.out⟩
            rw [HE.out, HMm.out]
            first
              | exact absurd HB.out (by decide)
              | rw [if_pos HB.out]
              | rw [if_neg (fun h => Bool.false_ne_true (HB.out.symm.trans h))]
  · rw [hbe] at hb1 HXc
    clear hbe b1e
    simp only [Bool.true_or] at hb1
    subst hb1
    go_enter Tryz.func103, Tryz.ntmps103
    go_upto_region 1 with fail
    generalize infC i sv dv = cs at *
    have HZ := Lib.hid (show (W.alloc (.cells cs 91)).heap.size = W.heap.size + 1 by simp)
    generalize W.alloc (.cells cs 91) = W0 at *
    have HSf := Lib.hid (fun W' (hW : Below W0.heap.size W0 W') => HXc.out W' (HX.out.below hW HX.out.lt))
    obtain ⟨c1, c3, c4, c5, c6, c7⟩ := HSf.out W0 (Below.refl _ _)
    have hlt0 := HX.out.lt
    have HM0 := Lib.hid (HM.made Tryz.prog 3 W0)
    have HBs := Lib.hid ((Below.refl W0.heap.size W0).alloc (Nat.le_refl _) (.map #[] 0))
    go_wp2_with (first
      | (with_reducible refine wpList_put _ rfl (.tmp 8) (.const (.int .i64 1)) (.tmp 14) 219 (.inl rfl) Tryz.underlying219 Tryz.underlying3 W0.heap.size 0 _ rfl HM0.out ?_ 1 ?_ rfl (.bool _) rfl ?_
         · simp only [maxLen]; omega
         · decide
         intro w1 hm hg
         have HM1 := Lib.hid hm
         have hb1 := HBs.out.grown hg HBs.out.size (fun j e => by injection e with e; omega)
         have HB1 := Lib.hid hb1
         clear c1 c3 c4 c5 c6 c7
         obtain ⟨c1, c3, c4, c5, c6, c7⟩ := HSf.out w1 hb1
         clear hm hg HM0 hb1)
      | (with_reducible refine wpList_put _ rfl (.tmp 8) (.const (.int .i64 4)) (.tmp 16) 219 (.inl rfl) Tryz.underlying219 Tryz.underlying3 W0.heap.size 1 _ rfl HM1.out ?_ 4 ?_ rfl (.bool _) rfl ?_
         · simp only [maxLen]; omega
         · decide
         intro w2 hm hg
         have HM2 := Lib.hid hm
         have hb1 := HB1.out.grown hg HB1.out.size (fun j e => by injection e with e; omega)
         have HB2 := Lib.hid hb1
         clear c1 c3 c4 c5 c6 c7
         obtain ⟨c1, c3, c4, c5, c6, c7⟩ := HSf.out w2 hb1
         clear hm hg HM1 hb1)
      | (with_reducible refine wpList_put _ rfl (.tmp 8) (.const (.int .i64 8)) (.tmp 18) 219 (.inl rfl) Tryz.underlying219 Tryz.underlying3 W0.heap.size 2 _ rfl HM2.out ?_ 8 ?_ rfl (.bool _) rfl ?_
         · simp only [maxLen]; omega
         · decide
         intro w3 hm hg
         have HM3 := Lib.hid hm
         have hb1 := HB2.out.grown hg HB2.out.size (fun j e => by injection e with e; omega)
         have HB3 := Lib.hid hb1
         clear c1 c3 c4 c5 c6 c7
         obtain ⟨c1, c3, c4, c5, c6, c7⟩ := HSf.out w3 hb1
         clear hm hg HM2 hb1)
      | (with_reducible refine wpList_put _ rfl (.tmp 8) (.const (.int .i64 32)) (.tmp 20) 219 (.inl rfl) Tryz.underlying219 Tryz.underlying3 W0.heap.size 3 _ rfl HM3.out ?_ 32 ?_ rfl (.bool _) rfl ?_
         · simp only [maxLen]; omega
         · decide
         intro w4 hm hg
         have HM4 := Lib.hid hm
         have hb1 := HB3.out.grown hg HB3.out.size (fun j e => by injection e with e; omega)
         have HB4 := Lib.hid hb1
         obtain ⟨D, hown, hmap, hD⟩ := hm
         clear c1 c3 c4 c5 c6 c7 hg HM3 hb1)
      | (at_range; refine wpList_range_own _ rfl _ 219 rfl 3 4 kInt Tryz.underlying219 Rh W0.heap.size 4 D rfl hown ?_; intro w0 hrg0 hg0 hs0)
      | fail)
    have hDf := flD hD
    have HD := Lib.hid hDf
    have HR0 := Lib.hid hrg0
    have HG0 := Lib.hid (HB4.out.grown hg0 HB4.out.size (fun j e => by cases e))
    have HIt := Lib.hid (show W0.heap.size ≤ w4.heap.size from HB4.out.size)
    have hfl9 : fl ≤ 255 := HF.out
    have HBW := Lib.hid (show Below W.heap.size W W0 from HB0.out)
    have HZ2 := Lib.hid (show W.heap.size ≤ W0.heap.size by have := HZ.out; omega)
    have c1 := (HSf.out w0 HG0.out).1
    clear hD hDf hmap hown hrg0 hg0 hs0 HM4 HBs HSf HXc HX
    go_wp2_with fail
    go_loopw [3] (fun t wr => Hid (FlR Tryz.prog 3 W0 W0.heap.size w4.heap.size D true b4 b8 b32 fl t wr)) (fun _ wr => wr.rangeLeft W0.heap.size w4.heap.size)
    case atStart =>
      exact Lib.hid ⟨_, _, false, false, false, false, HR0.out, fun k => (HD.out k).1, by simp [flgB], HG0.out⟩
    case round =>
      obtain ⟨left, cnt, v1, v4, v8, v32, hj⟩ := hrel.out
      clear hrel
      have hrg := hj.rng
      obtain rfl := hj.val
      have HJ := Lib.hid hj
      clear hj
      obtain ⟨m, hm⟩ : ∃ m, flgB true b4 b8 b32 v1 v4 v8 v32 fl = m := ⟨_, rfl⟩
      have hm9 : m < 256 := by rw [← hm]; exact flgB_lt _ _ _ _ _ _ _ _ _ hfl9
      have e1 : bits .or .i64 (m : Int) 1 = ((m ||| 1 : Nat) : Int) := or_nat m 1 (by omega) (by omega)
      have e4 : bits .or .i64 (m : Int) 4 = ((m ||| 4 : Nat) : Int) := or_nat m 4 (by omega) (by omega)
      have e8 : bits .or .i64 (m : Int) 8 = ((m ||| 8 : Nat) : Int) := or_nat m 8 (by omega) (by omega)
      have e32 : bits .or .i64 (m : Int) 32 = ((m ||| 32 : Nat) : Int) := or_nat m 32 (by omega) (by omega)
      rw [hm]
      have HMm := Lib.hid hm
      clear hm hm9
      go_wp2_with (first
        | (at_next; refine wpList_next_ranges _ rfl _ rfl 3 kInt Rh (Value.int .i64) id (fun key kl hk => by obtain ⟨x, hx, _⟩ := Maps.keyOf_int_inv Tryz.underlying3 hk; exact ⟨x, hx⟩) (fun v y _ => ⟨v, rfl⟩) W0.heap.size w4.heap.size 4 _ _ _ rfl hrg ?_ ?_)
        | fail)
      · intro hc0 hl0
        have hv : v1 = true ∧ v4 = true ∧ v8 = true ∧ v32 = true := by
          have h1 := (HJ.out.lf 1).symm.trans (hl0 _)
          have h4 := (HJ.out.lf 4).symm.trans (hl0 _)
          have h8 := (HJ.out.lf 8).symm.trans (hl0 _)
          have h32 := (HJ.out.lf 32).symm.trans (hl0 _)
          simp [leftB] at h1 h4 h8 h32
          exact ⟨h1, h4, h8, h32⟩
        obtain ⟨rfl, rfl, rfl, rfl⟩ := hv
        clear hrg e1 e4 e8 e32
        go_wp2
        go_ret
        refine ⟨congrArg (fun z : Nat => Ending.returned (.int .i64 (z : Int))) HMm.out.symm, HBW.out.trans (HJ.out.bel.mono HZ2.out)⟩
      · intro x c kl y yp w5 cnt' hkey hlk hv hat hrg1 hlt hg1 hs1 hen
        (try simp only [id] at hen hv)
        obtain ⟨x', ex, rfl, _⟩ := Maps.keyOf_int_inv Tryz.underlying3 hkey
        cases ex
        have hy : y = .held c := by injection hv with hv; injection hv with hv; exact hv.symm
        have hsz5 := hg1.size
        have hb5 : Below W0.heap.size W0 w5 := HJ.out.bel.grown hg1 HJ.out.bel.size (fun j e => by injection e with e; have := HIt.out; omega)
        have HL := Lib.hid hlt
        have HRG := Lib.hid hrg
        have HRG1 := Lib.hid hrg1
        have HB5 := Lib.hid hb5
        rcases leftB_cases ((HJ.out.lf x).symm.trans hlk) with ⟨rfl, rfl⟩ | ⟨rfl, rfl⟩ | ⟨rfl, rfl⟩ | ⟨rfl, rfl⟩
        · have hc : c = .bool true := by
            have h2 := (HD.out 1).2 (.held c) (.bool true) rfl
            have h := (hat (.held c)).symm.trans h2
            rw [hy] at h
            injection h
          subst hc
          have HN := Lib.hid (fun (t : Value) (ht : t = .int .i64 (flgB true b4 b8 b32 true v4 v8 v32 fl : Nat)) => (show FlJ Tryz.prog 3 W0 W0.heap.size w4.heap.size D true b4 b8 b32 fl t w5 (fun z => left z && !z.sameKey (.int .i64 1)) cnt' true v4 v8 v32 from
            ⟨HRG1.out, fun k => by
              have e : (Lit.int .i64 1) = il 1 := rfl
              show (left (il k) && !(il k).sameKey (.int .i64 1)) = _
              rw [e, left_strike, HJ.out.lf]
              unfold leftB
              by_cases e : k = 1 <;> simp [e], ht, HB5.out⟩))
          have HE := Lib.hid (flgB_1 true b4 b8 b32 v4 v8 v32 fl)
          clear hkey hlk hv hat hrg1 hlt hg1 hs1 hy hb5 hsz5 hrg
          rcases Bool.eq_false_or_eq_true (true) with hbb | hbb
          all_goals
            (try rw [hbb] at hen)
            have HB := Lib.hid hbb
            clear hbb
            go_wp2
            refine ⟨Lib.hid ⟨_, _, _, _, _, _, HN.out _ ?_⟩, by rw [HRG1.out.left_eq, HRG.out.left_eq]; exact HL.out⟩
            rw [HE.out, HMm.out]
            first
              | exact absurd HB.out (by decide)
              | rw [if_pos HB.out]
              | rw [if_neg (fun h => Bool.false_ne_true (HB.out.symm.trans h))]
        · have hc : c = .bool b4 := by
            have h2 := (HD.out 4).2 (.held c) (.bool b4) rfl
            have h := (hat (.held c)).symm.trans h2
            rw [hy] at h
            injection h
          subst hc
          have HN := Lib.hid (fun (t : Value) (ht : t = .int .i64 (flgB true b4 b8 b32 v1 true v8 v32 fl : Nat)) => (show FlJ Tryz.prog 3 W0 W0.heap.size w4.heap.size D true b4 b8 b32 fl t w5 (fun z => left z && !z.sameKey (.int .i64 4)) cnt' v1 true v8 v32 from
            ⟨HRG1.out, fun k => by
              have e : (Lit.int .i64 4) = il 4 := rfl
              show (left (il k) && !(il k).sameKey (.int .i64 4)) = _
              rw [e, left_strike, HJ.out.lf]
              unfold leftB
              by_cases e : k = 4 <;> simp [e], ht, HB5.out⟩))
          have HE := Lib.hid (flgB_4 true b4 b8 b32 v1 v8 v32 fl)
          clear hkey hlk hv hat hrg1 hlt hg1 hs1 hy hb5 hsz5 hrg
          rcases Bool.eq_false_or_eq_true (b4) with hbb | hbb
          all_goals
            (try rw [hbb] at hen)
            have HB := Lib.hid hbb
            clear hbb
            go_wp2
            refine ⟨Lib.hid ⟨_, _, _, _, _, _, HN.out _ ?_⟩, by rw [HRG1.out.left_eq, HRG.out.left_eq]; exact HL.out⟩
            rw [HE.out, HMm.out]
            first
              | exact absurd HB.out (by decide)
              | rw [if_pos HB.out]
              | rw [if_neg (fun h => Bool.false_ne_true (HB.out.symm.trans h))]
        · have hc : c = .bool b8 := by
            have h2 := (HD.out 8).2 (.held c) (.bool b8) rfl
            have h := (hat (.held c)).symm.trans h2
            rw [hy] at h
            injection h
          subst hc
          have HN := Lib.hid (fun (t : Value) (ht : t = .int .i64 (flgB true b4 b8 b32 v1 v4 true v32 fl : Nat)) => (show FlJ Tryz.prog 3 W0 W0.heap.size w4.heap.size D true b4 b8 b32 fl t w5 (fun z => left z && !z.sameKey (.int .i64 8)) cnt' v1 v4 true v32 from
            ⟨HRG1.out, fun k => by
              have e : (Lit.int .i64 8) = il 8 := rfl
              show (left (il k) && !(il k).sameKey (.int .i64 8)) = _
              rw [e, left_strike, HJ.out.lf]
              unfold leftB
              by_cases e : k = 8 <;> simp [e], ht, HB5.out⟩))
          have HE := Lib.hid (flgB_8 true b4 b8 b32 v1 v4 v32 fl)
          clear hkey hlk hv hat hrg1 hlt hg1 hs1 hy hb5 hsz5 hrg
          rcases Bool.eq_false_or_eq_true (b8) with hbb | hbb
          all_goals
            (try rw [hbb] at hen)
            have HB := Lib.hid hbb
            clear hbb
            go_wp2
            refine ⟨Lib.hid ⟨_, _, _, _, _, _, HN.out _ ?_⟩, by rw [HRG1.out.left_eq, HRG.out.left_eq]; exact HL.out⟩
            rw [HE.out, HMm.out]
            first
              | exact absurd HB.out (by decide)
              | rw [if_pos HB.out]
              | rw [if_neg (fun h => Bool.false_ne_true (HB.out.symm.trans h))]
        · have hc : c = .bool b32 := by
            have h2 := (HD.out 32).2 (.held c) (.bool b32) rfl
            have h := (hat (.held c)).symm.trans h2
            rw [hy] at h
            injection h
          subst hc
          have HN := Lib.hid (fun (t : Value) (ht : t = .int .i64 (flgB true b4 b8 b32 v1 v4 v8 true fl : Nat)) => (show FlJ Tryz.prog 3 W0 W0.heap.size w4.heap.size D true b4 b8 b32 fl t w5 (fun z => left z && !z.sameKey (.int .i64 32)) cnt' v1 v4 v8 true from
            ⟨HRG1.out, fun k => by
              have e : (Lit.int .i64 32) = il 32 := rfl
              show (left (il k) && !(il k).sameKey (.int .i64 32)) = _
              rw [e, left_strike, HJ.out.lf]
              unfold leftB
              by_cases e : k = 32 <;> simp [e], ht, HB5.out⟩))
          have HE := Lib.hid (flgB_32 true b4 b8 b32 v1 v4 v8 fl)
          clear hkey hlk hv hat hrg1 hlt hg1 hs1 hy hb5 hsz5 hrg
          rcases Bool.eq_false_or_eq_true (b32) with hbb | hbb
          all_goals
            (try rw [hbb] at hen)
            have HB := Lib.hid hbb
            clear hbb
            go_wp2
            refine ⟨Lib.hid ⟨_, _, _, _, _, _, HN.out _ ?_⟩, by rw [HRG1.out.left_eq, HRG.out.left_eq]; exact HL.out⟩
            rw [HE.out, HMm.out]
            first
              | exact absurd HB.out (by decide)
              | rw [if_pos HB.out]
              | rw [if_neg (fun h => Bool.false_ne_true (HB.out.symm.trans h))]
end Go.Proofs.YtkpppjhbmnfmkaaGreatDoor
