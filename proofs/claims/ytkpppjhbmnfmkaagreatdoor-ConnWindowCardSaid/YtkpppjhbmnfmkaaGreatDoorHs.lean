/-
  Contracts: settings are read.
-/
import Derived.Test.YtkpppjhbmnfmkaaGreatDoorFr
import Derived.Deep.RegionHeld3
import Derived.Deep.RegionLaw
import Derived.Deep.DrawnRows
import Derived.Deep.CutBlock
set_option linter.unusedSimpArgs false
set_option linter.unusedVariables false
namespace Go.Proofs.YtkpppjhbmnfmkaaGreatDoor
open Go.RowKit Go.Own Go.Own.Fr Go.Own.Im
attribute [local go_sem] Oper.semAt_some
theorem elSet : Cm.ElP Tryz.prog setC 89 87 2 16 := by
  refine ⟨Tryz.underlying89, ?_, fun _ => rfl, ?_, by omega, by omega⟩
  · have h : (Tryz.prog.info? 87).map (fun i => (i.zero, i.size, i.bytes)) = some (some (.agg #[.int .i64 0, .int .i64 0]), 2, 16) := by kernel_rfl
    obtain ⟨i, hi, hz, h1, h2⟩ := info_parts h
    exact ⟨i, _, hi, hz, h1, h2, rfl⟩
  · intro x u hu
    simp only [setC, List.mem_cons, List.not_mem_nil, or_false] at hu
    rcases hu with rfl | rfl <;> rfl
/-- While settings are read. -/
structure SetJ (W : World) (g B : Nat) (i : Inf) (l : List UInt8) (t : Value) (wr : World) (A : Option Addr) (m c : Nat) (r : List UInt8) (done : List (Nat × Nat)) (sv : Value) : Prop where
  val : t = .slice A m c
  le : m ≤ c
  rd_ : Rd wr B A m r
  six : m % 6 = 0
  few : m ≤ l.length
  grown : W.grownBy wr (some g)
  blk : Blk wr g 91 (infC { i with sets := done } sv (.slice none 0 0))
  own : SetO wr W.heap.size sv done
  num : 6 * done.length + m ≤ l.length
  res : rd i l = match setsOf r with | .ok x => .ok { i with sets := done ++ x } | .error x => .error x
theorem set_six {r : List UInt8} {m : Nat} (h : r.length = m) (h6 : m % 6 = 0) (h0 : 0 < m) : ∃ a b c d e f q, r = a :: b :: c :: d :: e :: f :: q := by
  rcases r with _ | ⟨a, _ | ⟨b, _ | ⟨c, _ | ⟨d, _ | ⟨e, _ | ⟨f, q⟩⟩⟩⟩⟩⟩ <;> simp at h <;> first | omega | exact ⟨_, _, _, _, _, _, _, rfl⟩
theorem SetJ.next {W wr wc w8 : World} {g B m c c8 : Nat} {i : Inf} {l q : List UInt8} {t sv : Value} {A A4 A8 : Option Addr} {b0 b1 b2 b3 b4 b5 : UInt8} {done : List (Nat × Nat)} {a v : Nat} {o : Obj}
    (h : SetJ W g B i l t wr A m c (b0 :: b1 :: b2 :: b3 :: b4 :: b5 :: q) done sv) (hB : B ≤ W.heap.size) (hg : g < W.heap.size) (h6 : 6 ≤ m)
    (hG : W.grownBy wc (some g)) (hR : Rd wc B A4 (m - 6) q) (hO : SetO wc W.heap.size sv done) (hP : Blk w8 g 91 (infC { i with sets := done } sv (.slice none 0 0)))
    (h8 : (wc.drew.alloc o).grownBy w8 sv.ownBlock) (hO8 : SetO w8 W.heap.size (.slice A8 (done.length + 1) c8) (done ++ [(a, v)]))
    (hs : setsOf (b0 :: b1 :: b2 :: b3 :: b4 :: b5 :: q) = match badSet (a, v) with
      | some k => .error (k, 0)
      | none => match setsOf q with
        | .ok l => .ok ((a, v) :: l)
        | .error x => .error x) (hb : badSet (a, v) = none) :
    SetJ W g B i l (.slice A4 (m - 6) (c - 6)) (w8.setCell ⟨g, 16, none⟩ (.slice A8 (done.length + 1) c8)) A4 (m - 6) (c - 6) q (done ++ [(a, v)]) (.slice A8 (done.length + 1) c8) := by
  have hsz := hG.size
  have hrow : ∀ j, sv.ownBlock = some j → W.heap.size ≤ j := fun j e => (hO.lt j e).1
  have hG1 : W.grownBy (wc.drew.alloc o) (some g) := ⟨hG.os, hG.tape, hG.output, by have := hG.size; simp; omega, fun k hk hn => (Below.heap_alloc wc.drew o k (by show k < wc.heap.size; omega)).trans (hG.block k hk hn)⟩
  have hG8 : W.grownBy w8 (some g) := hG1.andThen h8 fun j hj => .inl (hrow j hj)
  have hsv : ∀ y, sv ≠ .int .u8 y := by
    obtain ⟨A', c', e, _⟩ := hO.form
    intro y e'
    rw [e] at e'
    cases e'
  have hR1 : Rd (wc.drew.alloc o) B A4 (m - 6) q := Rd.alloc (w := wc.drew) hR (by show B ≤ wc.heap.size; omega) o
  have hR8 : Rd w8 B A4 (m - 6) q := hR1.grown h8 (by simp; omega) (fun j e => by have := hrow j e; omega)
  refine ⟨rfl, by have := h.le; omega, hR8.set_far (x := sv) (hP.cell 16) hsv _, by have := h.six; omega, by have := h.few; omega, grown_setCell hG8 16 _, hP.put 16 _, ?_, ?_, ?_⟩
  · exact hO8.grown (grown_setCell (World.grownBy.refl w8 (some g)) 16 _) (.inr fun e => by have := (hO8.lt g e).1; omega)
  · have := h.num
    simp
    omega
  · rw [h.res, hs, hb]
    cases setsOf q <;> simp
set_option maxHeartbeats 8000000 in
set_option maxRecDepth 100000 in
theorem rdSets (g : Nat) (i : Inf) (A : Option Addr) (n c B : Nat) (l : List UInt8) (W : World) (hb : Blk W g 91 (infC i (.slice none 0 0) (.slice none 0 0))) (hr : Rd W B A n l) (hB : B ≤ W.heap.size) (hc : n ≤ c) (hn : n ≤ 1000000) (ht : i.typ = 4) (hs : i.sets = [] ∧ i.data = []) :
    Calls Tryz.prog 185 #[.pointer (some ⟨g, 0, none⟩), .slice A n c] W (RdPost W g i l) := by
  have hl := hr.1
  have HgW := Lib.hid hb.lt
  have c5 : W.cell? ⟨g, 5, none⟩ = some (.bool i.ack) := hb.cell 5
  have hq : ∃ q, n % 6 = q := ⟨_, rfl⟩
  obtain ⟨q, hq⟩ := hq
  have hm6 : ((n : Int).tmod 6) = (q : Int) := by rw [← hq]; rfl
  have hm6' : ((n : Int) % 6) = (q : Int) := by rw [← hq]; rfl
  by_cases hbad : (i.ack = true ∧ 0 < n) ∨ n % 6 ≠ 0
  · have HR := Lib.hid (show rd i l = .error (6, 0) by simp only [rd, ht, hl]; rw [if_pos hbad])
    clear hb hr
    have fin : ∀ (e : Ending) (w' : World), (e = .returned (.iface 196 (.pointer (some ⟨W.heap.size, 0, none⟩))) ∧ w' = W.alloc (.cells #[.int .i64 6, .int .i64 0] 199)) → RdPost W g i l e w' := by
      rintro e w' ⟨rfl, rfl⟩
      refine ⟨(World.grownBy_alloc W _ _), ?_⟩
      rw [HR.out]
      exact ⟨_, rfl, Nat.le_refl _, Blk.new _ _ _⟩
    have HF := Lib.hid fin
    clear fin
    by_cases h1 : i.ack = true ∧ 0 < n
    · obtain ⟨h1, h2⟩ := h1
      rw [h1] at c5
      clear hbad hm6 hm6' hq
      go_enter Tryz.func185, Tryz.ntmps185
      go_wp2_with fail
      refine (fault_any 6 0 _).mono ?_
      rintro e w1 ⟨rfl, hw⟩
      subst w1
      go_wp2
      go_ret
      exact HF.out _ _ ⟨rfl, rfl⟩
    · have hq0 : ¬ q = 0 := fun e => by rcases hbad with hb1 | hb1; exact h1 hb1; omega
      have hack : i.ack = false := by
        cases h : i.ack
        · rfl
        · exact absurd ⟨h, by rcases Nat.eq_zero_or_pos n with h2 | h2 <;> omega⟩ h1
      rw [hack] at c5
      clear hbad hq h1
      go_enter Tryz.func185, Tryz.ntmps185
      go_wp2_with fail
      refine (fault_any 6 0 _).mono ?_
      rintro e w1 ⟨rfl, hw⟩
      subst w1
      go_wp2
      go_ret
      exact HF.out _ _ ⟨rfl, rfl⟩
  · have hq0 : q = 0 := by omega
    subst hq0
    have HR := Lib.hid (show rd i l = match setsOf l with | .ok x => .ok { i with sets := [] ++ x } | .error x => .error x by simp only [rd, ht, hl]; rw [if_neg hbad]; cases setsOf l <;> simp)
    have hnn : i.ack = true → ¬ 0 < n := fun h h2 => hbad (.inl ⟨h, h2⟩)
    have hdat : i.data = [] := hs.2
    have h0i : ({ i with sets := [] } : Inf) = i := by rw [← hs.1]
    have HJ := Lib.hid (show SetJ W g B i l (.slice A n c) W A n c l [] (.slice none 0 0) from ⟨rfl, hc, hr, hq, by omega, World.grownBy.refl W _, by rw [h0i]; exact hb, setO_nil _ _, by simp; omega, HR.out⟩)
    have HBd := Lib.hid (show l.length ≤ 1000000 by omega)
    clear hbad hs hr hb h0i hl HR
    cases hack : i.ack
    all_goals
      rw [hack] at c5
      (try (have hn0 : n = 0 := by have := hnn hack; omega))
      clear hnn
      (try subst hn0)
      go_enter Tryz.func185, Tryz.ntmps185
      go_wp2
      clear hm6 hm6' hq c5 hack
      go_loopw [1] (fun t wr => Hid (∃ A m c r done sv, SetJ W g B i l t wr A m c r done sv)) (fun t _ => match t with | .slice _ m _ => m | _ => 0)
      case atStart => exact Lib.hid ⟨_, _, _, _, _, _, HJ.out⟩
      case round =>
        obtain ⟨A1, m, c1, r, done, sv, hj⟩ := hrel.out
        clear hrel
        obtain rfl := hj.val
        rcases Nat.eq_zero_or_pos m with h0 | h0
        · subst h0
          go_wp2
          go_ret
          have hr0 : r = [] := List.eq_nil_of_length_eq_zero hj.rd_.1
          have hres := hj.res
          rw [hr0] at hres
          refine ⟨hj.grown, ?_⟩
          rw [hres]
          refine ⟨rfl, sv, .slice none 0 0, ?_, ?_, ?_⟩
          · simpa using hj.blk
          · simpa using hj.own
          · show Ow _ _ _ _ i.data.length i.data
            rw [hdat]; exact ow_nil _ _ _
        · obtain ⟨b0, b1, b2, b3, b4, b5, q, rfl⟩ := set_six hj.rd_.1 hj.six h0
          have hm : 6 ≤ m := by have := hj.six; omega
          obtain ⟨A2, hr2, hrun2⟩ := cut_head byteP hj.rd_ (2 : Int) (k := 2) rfl (by omega) hj.le
          obtain ⟨A3, hr3, hrun3⟩ := cut_mid byteP hj.rd_ (2 : Int) (6 : Int) (k := 2) (m := 4) rfl rfl (by omega) hj.le
          obtain ⟨A4, hr4, hrun4⟩ := cut_from byteP hj.rd_ (6 : Int) (k := 6) rfl hm hj.le
          obtain ⟨a, ha⟩ : ∃ a, ofB 0 [b0, b1] = a := ⟨_, rfl⟩
          obtain ⟨v, hv⟩ : ∃ v, ofB 0 [b2, b3, b4, b5] = v := ⟨_, rfl⟩
          have HO1 := Lib.hid (fun W' (h : Rd W' B A2 2 [b0, b1]) => of_any A2 2 c1 [b0, b1] W' B h (by omega))
          have HO2 := Lib.hid (fun W' (h : Rd W' B A3 4 [b2, b3, b4, b5]) => of_any A3 4 (c1 - 2) [b2, b3, b4, b5] W' B h (by omega))
          have HR2 := Lib.hid (show Rd wr B A2 2 [b0, b1] from hr2)
          have HR3 := Lib.hid (show Rd wr B A3 4 [b2, b3, b4, b5] from hr3)
          have HR2a := Lib.hid (HR2.out.alloc (Nat.le_trans hB hj.grown.size) (.cells #[.int .i64 0, .int .i64 0] 87))
          have HR3a := Lib.hid (HR3.out.alloc (Nat.le_trans hB hj.grown.size) (.cells #[.int .i64 0, .int .i64 0] 87))
          have HR4 := Lib.hid (show Rd wr B A4 (m - 6) q from hr4)
          rw [ha] at HO1
          rw [hv] at HO2
          have HS := Lib.hid (show setsOf (b0 :: b1 :: b2 :: b3 :: b4 :: b5 :: q) = match badSet (a, v) with
            | some k => .error (k, 0)
            | none => match setsOf q with
              | .ok l => .ok ((a, v) :: l)
              | .error x => .error x by rw [setsOf, ha, hv]; cases badSet (a, v) <;> rfl)
          have HJ := Lib.hid hj
          have c16 : wr.cell? ⟨g, 16, none⟩ = some sv := hj.blk.cell 16
          have f16 := hj.blk.frozen 16
          have hM := Lib.hid hm
          have hgt : ¬ ((m : Int) ≤ 0) := by omega
          clear ha hv hr2 hr3 hr4 hj hm
          go_upto_region 5 with fail
          go_cut [5] from 27 to 33 (fun t5 wx => t5 = .pointer (some ⟨wr.heap.size, 0, none⟩) ∧ wx = (wr.alloc (.cells #[.int .i64 (a : Nat), .int .i64 (v : Nat)] 87)).drew)
          case first =>
            as_aux_lemma =>
              go_region_held3 (fun _ => True) (trivial) (first
                | (go_at_call 113
                   with_reducible refine Calls.mono (HO1.out _ ?_) ?_
                   · first | exact HR2.out | exact HR2a.out
                   rintro e w1 ⟨rfl, hw⟩
                   subst w1)
                | (go_at_call 113
                   with_reducible refine Calls.mono (HO2.out _ ?_) ?_
                   · first | exact HR3.out | exact HR3a.out
                   rintro e w1 ⟨rfl, hw⟩
                   subst w1)
                | fail)
              all_goals
                go_wp2_with fail
                go_meet
                exact ⟨rfl, rfl⟩
          case rest =>
            obtain ⟨rfl, hwc⟩ := hcut
            have HN := Lib.hid (show Blk (wr.alloc (.cells #[.int .i64 (a : Nat), .int .i64 (v : Nat)] 87)).drew wr.heap.size 87 #[.int .i64 (a : Nat), .int .i64 (v : Nat)] from Blk.new wr _ _)
            have HBk := Lib.hid (show Blk (wr.alloc (.cells #[.int .i64 (a : Nat), .int .i64 (v : Nat)] 87)).drew g 91 (infC { i with sets := done } sv (.slice none 0 0)) from HJ.out.blk.alloc _)
            have HG := Lib.hid (show W.grownBy (wr.alloc (.cells #[.int .i64 (a : Nat), .int .i64 (v : Nat)] 87)).drew (some g) from grown_drewN (grown_alloc HJ.out.grown (.cells #[.int .i64 (a : Nat), .int .i64 (v : Nat)] 87)) 1)
            have HOw := Lib.hid (show SetO (wr.alloc (.cells #[.int .i64 (a : Nat), .int .i64 (v : Nat)] 87)).drew W.heap.size sv done from HJ.out.own.grown (grown_drewN (World.grownBy_alloc wr (.cells #[.int .i64 (a : Nat), .int .i64 (v : Nat)] 87) none) 1) (Cm.own_or sv))
            have HR6 := Lib.hid (show Rd (wr.alloc (.cells #[.int .i64 (a : Nat), .int .i64 (v : Nat)] 87)).drew B A4 (m - 6) q from HR4.out.alloc (Nat.le_trans hB HJ.out.grown.size) _)
            have HNe := Lib.hid (show g ≠ wr.heap.size from fun e => by have := HJ.out.blk.lt; omega)
            have HSz := Lib.hid (show (wr.alloc (.cells #[.int .i64 (a : Nat), .int .i64 (v : Nat)] 87)).drew.heap.size = wr.heap.size + 1 by simp)
            generalize hgs : wr.heap.size = gs at *
            have e5 : (wr.alloc (.cells #[.int .i64 (a : Nat), .int .i64 (v : Nat)] 87)).drew = wc := hwc.symm
            rw [e5] at HN HBk HG HOw HR6 HSz
            clear hwc e5 c16 f16 hgs HR2 HR3 HR2a HR3a HR4 HO1 HO2 hrun2 hrun3
            have hcase : (a = 2 ∧ 1 < v) ∨ (a = 5 ∧ v < 16384) ∨ (a = 5 ∧ 16777216 ≤ v) ∨ (a = 4 ∧ 2147483647 < v) ∨ (a = 2 ∧ v ≤ 1) ∨ (a = 5 ∧ (16384 ≤ v ∧ v < 16777216)) ∨ (a = 4 ∧ v ≤ 2147483647) ∨ (a ≠ 2 ∧ a ≠ 5 ∧ a ≠ 4) := by omega
            go_upto_block 2 with fail
            go_cut [] from 34 to 66 (fun wx => Hid (badSet (a, v) = none) ∧ wx = wc)
            case first =>
              rcases hcase with ⟨rfl, h1⟩ | ⟨rfl, h1⟩ | ⟨rfl, h1⟩ | ⟨rfl, h1⟩ | ⟨rfl, h1⟩ | ⟨rfl, h1⟩ | ⟨rfl, h1⟩ | ⟨n2, n5, n4⟩
              · have HBd3 := Lib.hid (show badSet (2, v) = some 1 by simp [badSet]; omega)
                have s0 : wc.cell? ⟨gs, 0, none⟩ = some (.int .i64 2) := HN.out.cell 0
                have s1 : wc.cell? ⟨gs, 1, none⟩ = some (.int .i64 (v : Nat)) := HN.out.cell 1
                have hx : (1 : Int) < (v : Int) := by omega
                clear h1
                go_wp2_with fail
                refine (fault_any 1 0 _).mono ?_
                rintro e w1 ⟨rfl, hw⟩
                subst w1
                go_wp2
                go_ret
                refine ⟨grown_alloc HG.out _, ?_⟩
                rw [HJ.out.res, HS.out, HBd3.out]
                exact ⟨_, rfl, HG.out.size, Blk.new _ _ _⟩
              · have HBd3 := Lib.hid (show badSet (5, v) = some 1 by simp [badSet]; omega)
                have s0 : wc.cell? ⟨gs, 0, none⟩ = some (.int .i64 5) := HN.out.cell 0
                have s1 : wc.cell? ⟨gs, 1, none⟩ = some (.int .i64 (v : Nat)) := HN.out.cell 1
                have hx : (v : Int) < 16384 := by omega
                clear h1
                go_wp2_with fail
                refine (fault_any 1 0 _).mono ?_
                rintro e w1 ⟨rfl, hw⟩
                subst w1
                go_wp2
                go_ret
                refine ⟨grown_alloc HG.out _, ?_⟩
                rw [HJ.out.res, HS.out, HBd3.out]
                exact ⟨_, rfl, HG.out.size, Blk.new _ _ _⟩
              · have HBd3 := Lib.hid (show badSet (5, v) = some 1 by simp [badSet]; omega)
                have s0 : wc.cell? ⟨gs, 0, none⟩ = some (.int .i64 5) := HN.out.cell 0
                have s1 : wc.cell? ⟨gs, 1, none⟩ = some (.int .i64 (v : Nat)) := HN.out.cell 1
                have hx : ¬ (v : Int) < 16384 := by omega
                have hy : (16777216 : Int) ≤ (v : Int) := by omega
                clear h1
                go_wp2_with fail
                refine (fault_any 1 0 _).mono ?_
                rintro e w1 ⟨rfl, hw⟩
                subst w1
                go_wp2
                go_ret
                refine ⟨grown_alloc HG.out _, ?_⟩
                rw [HJ.out.res, HS.out, HBd3.out]
                exact ⟨_, rfl, HG.out.size, Blk.new _ _ _⟩
              · have HBd3 := Lib.hid (show badSet (4, v) = some 3 by simp [badSet]; omega)
                have s0 : wc.cell? ⟨gs, 0, none⟩ = some (.int .i64 4) := HN.out.cell 0
                have s1 : wc.cell? ⟨gs, 1, none⟩ = some (.int .i64 (v : Nat)) := HN.out.cell 1
                have hx : (2147483647 : Int) < (v : Int) := by omega
                clear h1
                go_wp2_with fail
                refine (fault_any 3 0 _).mono ?_
                rintro e w1 ⟨rfl, hw⟩
                subst w1
                go_wp2
                go_ret
                refine ⟨grown_alloc HG.out _, ?_⟩
                rw [HJ.out.res, HS.out, HBd3.out]
                exact ⟨_, rfl, HG.out.size, Blk.new _ _ _⟩
              · have HBd3 := Lib.hid (show badSet (2, v) = none by simp [badSet]; omega)
                have s0 : wc.cell? ⟨gs, 0, none⟩ = some (.int .i64 2) := HN.out.cell 0
                have s1 : wc.cell? ⟨gs, 1, none⟩ = some (.int .i64 (v : Nat)) := HN.out.cell 1
                have hx : ¬ (1 : Int) < (v : Int) := by omega
                clear h1
                go_wp2
                go_meet
                exact ⟨HBd3, rfl⟩
              · have HBd3 := Lib.hid (show badSet (5, v) = none by simp [badSet]; omega)
                have s0 : wc.cell? ⟨gs, 0, none⟩ = some (.int .i64 5) := HN.out.cell 0
                have s1 : wc.cell? ⟨gs, 1, none⟩ = some (.int .i64 (v : Nat)) := HN.out.cell 1
                have hx : ¬ (v : Int) < 16384 := by omega
                have hy : ¬ (16777216 : Int) ≤ (v : Int) := by omega
                clear h1
                go_wp2
                go_meet
                exact ⟨HBd3, rfl⟩
              · have HBd3 := Lib.hid (show badSet (4, v) = none by simp [badSet]; omega)
                have s0 : wc.cell? ⟨gs, 0, none⟩ = some (.int .i64 4) := HN.out.cell 0
                have s1 : wc.cell? ⟨gs, 1, none⟩ = some (.int .i64 (v : Nat)) := HN.out.cell 1
                have hx : ¬ (2147483647 : Int) < (v : Int) := by omega
                clear h1
                go_wp2
                go_meet
                exact ⟨HBd3, rfl⟩
              · have HBd3 := Lib.hid (show badSet (a, v) = none by simp [badSet, n2, n5, n4])
                have s0 : wc.cell? ⟨gs, 0, none⟩ = some (.int .i64 (a : Nat)) := HN.out.cell 0
                have s1 : wc.cell? ⟨gs, 1, none⟩ = some (.int .i64 (v : Nat)) := HN.out.cell 1
                have m2 : ¬ (a : Int) = 2 := by omega
                have m5 : ¬ (a : Int) = 5 := by omega
                have m4 : ¬ (a : Int) = 4 := by omega
                clear n2 n5 n4
                go_wp2
                go_meet
                exact ⟨HBd3, rfl⟩
            case rest =>
              obtain ⟨HBd3, rfl⟩ := hcut
              have s0 : wc.cell? ⟨gs, 0, none⟩ = some (.int .i64 (a : Nat)) := HN.out.cell 0
              have c16 : wc.cell? ⟨g, 16, none⟩ = some sv := HBk.out.cell 16
              have f16 := HBk.out.frozen 16
              have s1 : wc.cell? ⟨gs, 1, none⟩ = some (.int .i64 (v : Nat)) := HN.out.cell 1
              have HO1 : Hid (SetO (wc.drew.alloc (.cells #[.int .i64 (a : Nat), .int .i64 (v : Nat)] 87)) W.heap.size sv done) := Lib.hid (HOw.out.grown (show wc.grownBy _ none from ⟨rfl, rfl, rfl, by simp, fun k hk _ => Below.heap_alloc wc.drew _ k hk⟩) (Cm.own_or sv))
              have HR1 : Hid (Cm.RS setC 2 (wc.drew.alloc (.cells #[.int .i64 (a : Nat), .int .i64 (v : Nat)] 87)) (wc.drew.alloc (.cells #[.int .i64 (a : Nat), .int .i64 (v : Nat)] 87)).heap.size (some ⟨wc.heap.size, 0, none⟩) 1 [(a, v)]) := Lib.hid
                ((Cm.Ew.lit (k := 2) setC 87 (fun _ => rfl) wc.drew [(a, v)] (by simp)).rs (fun _ => rfl) (by omega))
              have lg := HBk.out.lt
              have lgs := HN.out.lt
              have HLn := Lib.hid (show done.length + 1 ≤ 1000000 by have := HJ.out.num; have := HBd.out; have := hM.out; omega)
              have HBase := Lib.hid (show W.heap.size ≤ (wc.drew.alloc (.cells #[.int .i64 (a : Nat), .int .i64 (v : Nat)] 87)).heap.size by have := HG.out.size; simp; omega)
              go_upto_region 11 with fail
              go_region_law
                ((refine Cm.step_app_e elSet _ (by rfl) (.tmp 71) (.tmp 73) (by rfl) W.heap.size sv done (by rfl) HO1.out _ (some ⟨wc.heap.size, 0, none⟩) 1 1 [(a, v)] (by rfl) HR1.out HLn.out HBase.out ?_
                  intro A8 c8 w8 hown hg hv
                  have HG8 := Lib.hid hg
                  have HO8 := Lib.hid hown
                  have HV8 := Lib.hid hv
                  have hP8 := (HBk.out.alloc (.cells #[.int .i64 (a : Nat), .int .i64 (v : Nat)] 87)).grown (w := wc.alloc _) (w' := w8) ⟨hg.os, hg.tape, hg.output, hg.size, hg.block⟩ (fun e => by have := (HOw.out.lt g e.symm).1; have := HgW.out; omega)
                  have hf8 : w8.frozen? ⟨g, 16, none⟩ = false := hP8.frozen 16
                  have hc8 : w8.cell? ⟨g, 16, none⟩ = some sv := hP8.cell 16
                  have HP8 := Lib.hid hP8
                  clear hP8 hown hg hv))
              all_goals
                have HN2 := Lib.hid (HJ.out.next hB HgW.out hM.out HG.out HR6.out HOw.out HP8.out HG8.out HO8.out HS.out HBd3.out)
                clear hf8 hc8
                go_wp2
                exact ⟨Lib.hid ⟨_, _, _, _, _, _, HN2.out⟩, by have := hM.out; show m - 6 < m; omega⟩
end Go.Proofs.YtkpppjhbmnfmkaaGreatDoor
