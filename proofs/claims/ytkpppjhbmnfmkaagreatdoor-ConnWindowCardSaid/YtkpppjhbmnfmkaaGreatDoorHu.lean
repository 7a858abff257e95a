/-
  Contracts: how settings and GOAWAY are written.
-/
import Derived.Test.YtkpppjhbmnfmkaaGreatDoorHt
set_option linter.unusedSimpArgs false
set_option linter.unusedVariables false
namespace Go.Proofs.YtkpppjhbmnfmkaaGreatDoor
open Go.RowKit Go.Own Go.Own.Fr Go.Own.Im
/-- While GOAWAY is written. -/
theorem away_own {W0 W1 W2 : World} {base : Nat} {v : Value} (hb : Below W0.heap.size W0 W1) (hbase : W0.heap.size ≤ base) (ho : ∀ g, v.ownBlock = some g → base ≤ g) (hg : W1.grownBy W2 v.ownBlock) : Below W0.heap.size W0 W2 :=
  hb.grown hg hb.size fun g e => by have := ho g e; omega
set_option maxHeartbeats 8000000 in
set_option maxRecDepth 100000 in
theorem wrAway (i : Inf) (sv : Value) (A : Option Addr) (n c B : Nat) (W : World) (hr : Rd W B A n i.data) (hB : B ≤ W.heap.size) (hn : n ≤ 1000000) (h1 : i.last < 9223372036854775808) (h2 : i.code < 9223372036854775808) :
    Calls Tryz.prog 190 #[.agg (infC i sv (.slice A n c))] W fun e w' => ∃ v, e = .returned v ∧ Ow w' W.heap.size 5 v (8 + n) (be i.last 4 ++ (be i.code 4 ++ i.data)) ∧ Below W.heap.size W w' := by
  have HX := Lib.hid (Blk.new W 91 (infC i sv (.slice A n c)))
  have HB0 := Lib.hid ((Below.refl W.heap.size W).alloc (Nat.le_refl _) (.cells (infC i sv (.slice A n c)) 91))
  have HR := Lib.hid hr
  have H1 := Lib.hid h1
  have H2 := Lib.hid h2
  clear h1 h2 hr
  obtain ⟨dat, hdat⟩ : ∃ d, i.data = d := ⟨_, rfl⟩
  rw [hdat] at HR ⊢
  clear hdat
  obtain ⟨la, hla⟩ : ∃ d, i.last = d := ⟨_, rfl⟩
  obtain ⟨co, hco⟩ : ∃ d, i.code = d := ⟨_, rfl⟩
  have HXc := Lib.hid (fun W' (h : Blk W' W.heap.size 91 (infC i sv (.slice A n c))) => (show W'.cell? ⟨W.heap.size, 12, none⟩ = some (.int .i64 (co : Nat)) ∧ W'.cell? ⟨W.heap.size, 13, none⟩ = some (.int .i64 (la : Nat)) ∧ W'.cell? ⟨W.heap.size, 17, none⟩ = some (.slice A n c) from
    ⟨by rw [← hco]; exact h.cell 12, by rw [← hla]; exact h.cell 13, h.cell 17⟩))
  rw [hla] at H1 ⊢
  rw [hco] at H2 ⊢
  clear hla hco
  go_enter Tryz.func190, Tryz.ntmps190
  go_upto_region 1 with fail
  generalize infC i sv (Value.slice A n c) = cs at *
  have HZ := Lib.hid (show (W.alloc (.cells cs 91)).heap.size = W.heap.size + 1 by simp)
  generalize W.alloc (.cells cs 91) = W0 at *
  have HSf := Lib.hid (fun W' (hW : Below W0.heap.size W0 W') => HXc.out W' (HX.out.below hW HX.out.lt))
  have HS0 := Lib.hid (HSf.out W0 (Below.refl _ _))
  have HS0d := Lib.hid (show W0.drew.cell? ⟨W.heap.size, 12, none⟩ = some (.int .i64 (co : Nat)) ∧ W0.drew.cell? ⟨W.heap.size, 13, none⟩ = some (.int .i64 (la : Nat)) ∧ W0.drew.cell? ⟨W.heap.size, 17, none⟩ = some (.slice A n c) from HS0.out)
  have HA1 := Lib.hid (fun (Wd : World) (hW : W0.heap.size ≤ Wd.heap.size) => number_any (.slice none 0 0) 0 [] la 4 W0.heap.size Wd (ow_nil _ _ _) hW (by omega) (by omega) H1.out)
  have HK1 := Lib.hid (show True from trivial)
  go_region_held3 (fun W' => W'.cell? ⟨W.heap.size, 12, none⟩ = some (.int .i64 (co : Nat)) ∧ W'.cell? ⟨W.heap.size, 13, none⟩ = some (.int .i64 (la : Nat)) ∧ W'.cell? ⟨W.heap.size, 17, none⟩ = some (.slice A n c)) (first | with_reducible exact HS0.out | with_reducible exact HS0d.out | with_reducible exact HS1.out | with_reducible exact HS1d.out | with_reducible exact HS2.out | with_reducible exact HS2d.out | with_reducible exact HS3.out | with_reducible exact HS3d.out) (first
    | (go_at_call 108
       with_reducible refine Calls.mono (HA1.out _ ?_) ?_
       · exact Nat.le_refl _
       rintro e w1 ⟨v1, rfl, ho1, hg1, _⟩
       obtain ⟨A1, cap1, rfl, _, _, _⟩ := ho1.form
       have hb1 : Below W0.heap.size W0 w1 := below_of_drew ((Below.refl _ W0.drew).grown hg1 (Nat.le_refl _) (fun g e => by cases e))
       have HB1 := Lib.hid hb1
       have HO1 := Lib.hid (show Ow w1 W0.heap.size 5 (.slice A1 (0 + 4) cap1) (0 + 4) ([] ++ be la 4) from ho1)
       have HS1 := Lib.hid (HSf.out w1 hb1)
       have HS1d := Lib.hid (HSf.out w1.drew ⟨hb1.os, hb1.tape, hb1.output, hb1.size, hb1.block⟩)
       clear ho1 hg1 hb1)
    | (go_at_call 108
       have hst := HO1
       refine (number_any (.slice A1 (0 + 4) cap1) (0 + 4) ([] ++ be la 4) co 4 W0.heap.size _ HO1.out HB1.out.size (by omega) (by omega) H2.out).mono ?_
       rintro e w2 ⟨v2, rfl, ho2, hg2, _⟩
       obtain ⟨A2, cap2, rfl, _, _, _⟩ := ho2.form
       have hb2 := below_own HB1.out (Nat.le_refl _) HO1.out hg2
       have HB2 := Lib.hid hb2
       have HO2 := Lib.hid ho2
       have HS2 := Lib.hid (HSf.out w2 hb2)
       have HS2d := Lib.hid (HSf.out w2.drew ⟨hb2.os, hb2.tape, hb2.output, hb2.size, hb2.block⟩)
       have HR2 := Lib.hid (((HR.out.more hB).below HB0.out).below (hb2.mono (by have := HZ.out; omega)))
       clear ho2 hg2 hb2 HO1 HB1)
    | (refine step_app byteP _ (by rfl) (.tmp 8) (.tmp 10) (by rfl) W0.heap.size _ (0 + 4 + 4) (([] ++ be la 4) ++ be co 4) (by rfl) HO2.out W.heap.size A n c dat (by rfl) HR2.out ?_ ?_ ?_
       · omega
       · exact HB2.out.size
       intro A3 cap3 w3 ho3 hg3 _ _
       have hb3 := below_own HB2.out (Nat.le_refl _) HO2.out hg3
       have HB3 := Lib.hid hb3
       have HO3 := Lib.hid ho3
       have HS3 := Lib.hid (HSf.out w3 hb3)
       have HS3d := Lib.hid (HSf.out w3.drew ⟨hb3.os, hb3.tape, hb3.output, hb3.size, hb3.block⟩)
       clear ho3 hg3 hb3)
    | fail)
  all_goals
    go_wp2
    go_ret
    have ho := HO3.out
    simp only [Nat.zero_add, List.nil_append, List.append_assoc, Nat.reduceAdd] at ho ⊢
    exact ⟨_, rfl, ho.base (by have := HZ.out; omega), HB0.out.trans (HB3.out.mono (by have := HZ.out; omega))⟩
/-- While settings are written. -/
structure WsJ (W0 : World) (l : List (Nat × Nat)) (t tk : Value) (wr : World) (k : Nat) (A : Option Addr) (c : Nat) : Prop where
  le : k ≤ l.length
  val : t = .slice A (6 * k) c
  cnt : tk = .int .i64 (k : Nat)
  own : Ow wr W0.heap.size 5 (.slice A (6 * k) c) (6 * k) (setB (l.take k))
  bel : Below W0.heap.size W0 wr
theorem setB_snoc (l : List (Nat × Nat)) (x : Nat × Nat) : setB (l ++ [x]) = setB l ++ (be x.1 2 ++ be x.2 4) := by
  induction l with
  | nil => simp [setB]
  | cons y l ih => simp [setB, ih]
theorem setB_take {l : List (Nat × Nat)} {k : Nat} {a v : Nat} (h : k < l.length) (hx : l.getD k (0, 0) = (a, v)) : setB (l.take (k + 1)) = (setB (l.take k) ++ be a 2) ++ be v 4 := by
  have e : l.take (k + 1) = l.take k ++ [(a, v)] := by
    rw [List.take_succ_eq_append_getElem h, ← hx]
    simp [List.getD, h]
  rw [e, setB_snoc]; simp
set_option maxHeartbeats 8000000 in
set_option maxRecDepth 100000 in
theorem wrSets0 (cs : Array Value) (l : List (Nat × Nat)) (sv : Value) (W : World) (hcs : cs[16]? = some sv) (hs : SetR W sv l) (hl : l.length ≤ 100000) (hb : ∀ s ∈ l, s.1 < 9223372036854775808 ∧ s.2 < 9223372036854775808) :
    Calls Tryz.prog 186 #[.agg cs] W fun e w' => ∃ v, e = .returned v ∧ Ow w' W.heap.size 5 v (6 * l.length) (setB l) ∧ Below W.heap.size W w' := by
  obtain ⟨A, c, rfl, hc, hrs⟩ := hs
  have HX := Lib.hid (Blk.new W 91 cs)
  have HB0 := Lib.hid ((Below.refl W.heap.size W).alloc (Nat.le_refl _) (.cells cs 91))
  have HS0 := Lib.hid (show SetR (W.alloc (.cells cs 91)) (.slice A l.length c) l from SetR.below (w := W) ⟨A, c, rfl, hc, hrs⟩ HB0.out)
  have HXc := Lib.hid (fun W' (h : Blk W' W.heap.size 91 cs) => (show W'.cell? ⟨W.heap.size, 16, none⟩ = some (.slice A l.length c) from (h.cell 16).trans hcs))
  have HBs := Lib.hid hb
  clear hrs hb hcs
  go_enter Tryz.func186, Tryz.ntmps186
  go_upto_region 2 with fail
  have HZ := Lib.hid (show (W.alloc (.cells cs 91)).heap.size = W.heap.size + 1 by simp)
  generalize W.alloc (.cells cs 91) = W0 at *
  have c16 := HXc.out W0 HX.out
  go_wp2
  go_loopw [3, 9] (fun t tk wr => Hid (∃ k A c, WsJ W0 l t tk wr k A c)) (fun _ tk _ => l.length - (intOf tk).toNat)
  case atStart => exact Lib.hid ⟨0, none, 0, Nat.zero_le _, rfl, rfl, by simpa [setB] using ow_nil W0 W0.heap.size _, Below.refl _ _⟩
  case round =>
    obtain ⟨k, A1, c1, hj⟩ := hrel.out
    clear hrel
    obtain rfl := hj.val
    obtain rfl := hj.cnt
    rcases Nat.lt_or_ge k l.length with hlt | hge
    · obtain ⟨ad, rfl, hbl, d0, d1⟩ := (HS0.out.below hj.bel).at_ hlt
      obtain ⟨⟨x, y⟩, hxy⟩ : ∃ p, l.getD k (0, 0) = p := ⟨_, rfl⟩
      have HT := Lib.hid (setB_take hlt hxy)
      have hx := HBs.out (l.getD k (0, 0)) (by simp [List.getD, hlt])
      rw [hxy] at d0 d1 hx
      simp only at d0 d1 hx
      have HJ := Lib.hid hj
      have HXb := Lib.hid hx
      clear hxy hx hj c16
      go_upto_region 5 with fail
      have HN := Lib.hid (Blk.new wr 87 #[.int .i64 (x : Nat), .int .i64 (y : Nat)])
      have HBA := Lib.hid (HJ.out.bel.alloc HJ.out.bel.size (.cells #[.int .i64 (x : Nat), .int .i64 (y : Nat)] 87))
      have HOA := Lib.hid (HJ.out.own.alloc (.cells #[.int .i64 (x : Nat), .int .i64 (y : Nat)] 87))
      have HNO := Lib.hid (show ∀ g, (Value.slice A1 (6 * k) c1).ownBlock = some g → g < wr.heap.size ∧ W0.heap.size ≤ g from fun g e => HJ.out.own.lt e)
      generalize hgs : wr.heap.size = gs at *
      generalize wr.alloc (.cells #[.int .i64 (x : Nat), .int .i64 (y : Nat)] 87) = wA at *
      clear d0 d1
      have HS1 := Lib.hid (show wA.cell? ⟨gs, 0, none⟩ = some (.int .i64 (x : Nat)) ∧ wA.cell? ⟨gs, 1, none⟩ = some (.int .i64 (y : Nat)) from ⟨HN.out.cell 0, HN.out.cell 1⟩)
      have HS1d := Lib.hid (show wA.drew.cell? ⟨gs, 0, none⟩ = some (.int .i64 (x : Nat)) ∧ wA.drew.cell? ⟨gs, 1, none⟩ = some (.int .i64 (y : Nat)) from HS1.out)
      have HA1 := Lib.hid (number_any (.slice A1 (6 * k) c1) (6 * k) (setB (l.take k)) x 2 W0.heap.size wA.drew HOA.out HBA.out.size (by omega) (by omega) HXb.out.1)
      have hk0 : k ≤ 100000 := by omega
      go_region_held3 (fun W' => W'.cell? ⟨gs, 0, none⟩ = some (.int .i64 (x : Nat)) ∧ W'.cell? ⟨gs, 1, none⟩ = some (.int .i64 (y : Nat))) (first | with_reducible exact HS1.out | with_reducible exact HS1d.out | with_reducible exact HS2.out | with_reducible exact HS2d.out | with_reducible exact HS3.out | with_reducible exact HS3d.out) (first
        | (go_at_call 108
           with_reducible refine Calls.mono HA1.out ?_
           rintro e w1 ⟨v1, rfl, ho1, hg1, hv1⟩
           obtain ⟨A2, cap2, rfl, _, _, _⟩ := ho1.form
           have hb1 := below_own (below_drewN HBA.out 1) (Nat.le_refl _) (show Ow (wA.drewN 1) W0.heap.size 5 _ _ _ from HOA.out) hg1
           have HB1 := Lib.hid hb1
           have HO1 := Lib.hid ho1
           have HN1 := Lib.hid ((show Blk wA.drew gs 87 _ from HN.out).grown hg1 (fun e => by have := (HNO.out gs e.symm).1; omega))
           have HV1 := Lib.hid (show (Value.slice A2 (6 * k + 2) cap2).ownBlock ≠ some gs from fun e => by
             rcases hv1 with h | ⟨g, h, h2⟩
             · have := (HNO.out gs (h.symm.trans e)).1; omega
             · rw [h] at e; injection e with e; have := HN.out.lt; have h3 : wA.heap.size ≤ g := h2; omega)
           have HS2 := Lib.hid (show w1.cell? ⟨gs, 0, none⟩ = some (.int .i64 (x : Nat)) ∧ w1.cell? ⟨gs, 1, none⟩ = some (.int .i64 (y : Nat)) from ⟨HN1.out.cell 0, HN1.out.cell 1⟩)
           have HS2d := Lib.hid (show w1.drew.cell? ⟨gs, 0, none⟩ = some (.int .i64 (x : Nat)) ∧ w1.drew.cell? ⟨gs, 1, none⟩ = some (.int .i64 (y : Nat)) from HS2.out)
           clear ho1 hg1 hb1 hv1)
        | (go_at_call 108
           have hst := HO1
           refine (number_any (.slice A2 (6 * k + 2) cap2) (6 * k + 2) (setB (l.take k) ++ be x 2) y 4 W0.heap.size _ HO1.out HB1.out.size (by omega) (by omega) HXb.out.2).mono ?_
           rintro e w2 ⟨v2, rfl, ho2, hg2, _⟩
           obtain ⟨A3, cap3, rfl, _, _, _⟩ := ho2.form
           have hb2 := below_own HB1.out (Nat.le_refl _) HO1.out hg2
           have HB2 := Lib.hid hb2
           have HO2 := Lib.hid ho2
           have HN2 := HN1.out.grown hg2 (fun e => HV1.out e.symm)
           have HS3 := Lib.hid (show w2.cell? ⟨gs, 0, none⟩ = some (.int .i64 (x : Nat)) ∧ w2.cell? ⟨gs, 1, none⟩ = some (.int .i64 (y : Nat)) from ⟨HN2.cell 0, HN2.cell 1⟩)
           have HS3d := Lib.hid (show w2.drew.cell? ⟨gs, 0, none⟩ = some (.int .i64 (x : Nat)) ∧ w2.drew.cell? ⟨gs, 1, none⟩ = some (.int .i64 (y : Nat)) from HS3.out)
           clear ho2 hg2 hb2 HN2)
        | fail)
      all_goals
        have hb3 := HB2.out
        have ho3 := HO2.out
        rw [← HT.out] at ho3
        have HE := Lib.hid (show WsJ W0 l (.slice A3 (6 * k + 2 + 4) cap3) (.int .i64 ((k : Int) + 1)) w2 (k + 1) A3 cap3 from ⟨hlt, rfl, rfl, ho3, hb3⟩)
        clear hb3 ho3
        go_wp2
        exact ⟨Lib.hid ⟨_, _, _, HE.out⟩, by simp [intOf]; omega⟩
    · have hke : k = l.length := by have := hj.le; omega
      have ho := hj.own
      have hb := hj.bel
      have HO := Lib.hid ho
      have HB := Lib.hid hb
      clear hj ho hb
      subst hke
      go_wp2
      go_ret
      have ho := HO.out
      rw [List.take_length] at ho
      exact ⟨_, rfl, ho.base (by have := HZ.out; omega), HB0.out.trans (HB.out.mono (by have := HZ.out; omega))⟩
theorem wrSets (i : Inf) (sv dv : Value) (W : World) (hs : SetR W sv i.sets) (hl : i.sets.length ≤ 100000) (hb : ∀ s ∈ i.sets, s.1 < 9223372036854775808 ∧ s.2 < 9223372036854775808) :
    Calls Tryz.prog 186 #[.agg (infC i sv dv)] W fun e w' => ∃ v, e = .returned v ∧ Ow w' W.heap.size 5 v (6 * i.sets.length) (setB i.sets) ∧ Below W.heap.size W w' :=
  wrSets0 (infC i sv dv) i.sets sv W rfl hs hl hb
end Go.Proofs.YtkpppjhbmnfmkaaGreatDoor
