/-
  Contract: compat's enum.
-/
import Derived.Test.YtcjcpkjdhagofaaMs
namespace Go.Proofs.Ytcjcpkjdhagofaa
open Go.RowKit Go.Own Go.Own.Cm Go.Shelf
attribute [local go_sem] Oper.semAt_some
theorem ev_len (nm : ByteArray) (gs : List EvV) (f : EvV) : (evBrk nm gs f).length ≤ 2 := by
  unfold evBrk
  split <;> simp
theorem any_succ {α : Type} (l : List α) (p : α → Bool) (k : Nat) (x : α) (hx : l[k]? = some x) : (l.take (k + 1)).any p = ((l.take k).any p || p x) := by
  obtain ⟨hk, he⟩ := List.getElem?_eq_some_iff.1 hx
  rw [List.take_succ_eq_append_getElem hk, List.any_append, he]
  simp
/-- The state in the midst of a round of enum's loop. -/
structure MidE (pb b5 b9 : Nat) (t5 t9 : TypeId) (c5 c9 : Array Value) (w0 : World) (v0 : Value) (L : List BrkV) (W : World) (v : Value) : Prop where
  ls : LSc pb W v L
  st : LStep pb w0 v0 W v
  h5 : Blk W b5 t5 c5
  h9 : Blk W b9 t9 c9
theorem MidE.below {pb b5 b9 : Nat} {t5 t9 : TypeId} {c5 c9 : Array Value} {w0 W W' : World} {v0 v : Value} {L : List BrkV} (h : MidE pb b5 b9 t5 t9 c5 c9 w0 v0 L W v) (hb : Below W.heap.size W W') : MidE pb b5 b9 t5 t9 c5 c9 w0 v0 L W' v :=
  ⟨h.ls.below hb, h.st.trans (LStep.of_below hb), h.h5.below hb h.h5.lt, h.h9.below hb h.h9.lt⟩
set_option maxHeartbeats 4000000 in
set_option maxRecDepth 100000 in
theorem enum_any (pb : Nat) (s : SchV) (m : EnmV) (W : World) (v : Value) (L : List BrkV) (hs : LSc pb W v L) (hr : SchR W pb s) (hz : SchZ s) (hm : RS EvV.cells 2 W pb m.vA m.vn m.vs) (hmn : m.vn ≤ 40) (hL : L.length ≤ 50000) :
    Calls Try.prog 23 #[.pointer (some ⟨pb, 0, none⟩), .agg s.cells, .agg m.cells] W (BothPost pb W v (L ++ enmBrk s m)) := by
  obtain ⟨A, c, rfl⟩ := hs.form
  have HFM := Lib.hid fun W' (hb : Below W.heap.size W W') => findEnum_any s m.nm pb W' (hr.below (hb.mono (Nat.le_of_lt hs.blk.lt))) hz (Nat.le_trans (Nat.le_of_lt hs.blk.lt) hb.size)
  have HS := Lib.hid hs
  have HM := Lib.hid hm
  have HL := Lib.hid hL
  have HZ := Lib.hid hz
  have lp := hs.blk.lt
  have HD : Hid (enmBrk s m = match enmAt s m.nm with | none => [⟨m.nm, empT, 0, 1, true⟩] | some n => m.vs.flatMap (evBrk m.nm n.vs)) := Lib.hid rfl
  generalize hmb : enmBrk s m = mb at *
  clear hmb hs hm hL hz hr
  obtain ⟨mA, mn, mc, ms, eA, en, ec, es, sA, sn, sc, ss⟩ := s
  obtain ⟨nm, fA, fn, fc, fs⟩ := m
  simp only [SchV.cells, EnmV.cells] at HFM HM HD hmn ⊢
  go_enter Try.func23, Try.ntmps23
  go_upto_region 2 with (with_reducible refine (HFM.out _ (by exact ((Below.refl _ _).alloc (Nat.le_refl _) _).alloc (by simp) _)).mono ?_
                         rintro e w2 ⟨g2, ⟨hf, rfl⟩ | ⟨n, gA, gc, hf, hmem, rfl, hgr, hge⟩⟩)
  · have hb3 : Below W.heap.size W (w2.alloc (.cells #[.string ⟨#[]⟩, .slice none 0 0] 54)) := ((((Below.refl W.heap.size W).alloc (Nat.le_refl _) _).alloc (by simp) _).trans (g2.mono (by simp; omega))).alloc (by have := g2.size; simp at this; omega) _
    have h5 : Blk (w2.alloc (.cells #[.string ⟨#[]⟩, .slice none 0 0] 54)) (W.heap.size + 1) 54 #[.string nm, .slice fA fn fc] := by
      have h := (Blk.new (W.alloc (.cells #[.slice mA mn mc, .slice eA en ec, .slice sA sn sc] 26)) 54 #[.string nm, .slice fA fn fc]).below g2 (by simp)
      simpa using h.alloc (.cells #[.string ⟨#[]⟩, .slice none 0 0] 54)
    have HF := Lib.hid hf
    have HB3 := Lib.hid hb3
    have HS3 := Lib.hid (HS.out.below hb3)
    clear hf hb3 g2
    simp only [empT] at ⊢
    generalize w2.alloc (.cells #[.string ⟨#[]⟩, .slice none 0 0] 54) = w9 at *
    have l5 := h5.lt
    have c5 := h5.cell 0
    simp only [List.getElem?_toArray, List.getElem?_cons_zero, List.getElem?_cons_succ] at c5
    have lp9 := HS3.out.blk.lt
    have cp9 : w9.cell? ⟨pb, 0, none⟩ = _ := HS3.out.blk.cell 0
    simp only [List.getElem?_toArray, List.getElem?_cons_zero, List.getElem?_cons_succ] at cp9
    clear h5
    go_wp2_with fail
    have hb10 : Below w9.heap.size w9 (w9.alloc (.cells #[.string nm, .string ⟨#[]⟩, .int .i64 0, .int .i64 1, .bool true] 46)).drew := ((Below.refl _ _).alloc (Nat.le_refl _) _).drew
    have HO1 : Hid (Ew BrkV.cells 46 5 (w9.alloc (.cells #[.string nm, .string ⟨#[]⟩, .int .i64 0, .int .i64 1, .bool true] 46)).drew (pb + 1) (.slice A L.length c) L) := Lib.hid (HS3.out.own.below hb10)
    have HR1 : Hid (RS BrkV.cells 5 (w9.alloc (.cells #[.string nm, .string ⟨#[]⟩, .int .i64 0, .int .i64 1, .bool true] 46)).drew (w9.heap.size + 1) (some ⟨w9.heap.size, 0, none⟩) 1 [⟨nm, empT, 0, 1, true⟩]) := Lib.hid (by
      have h := (Ew.lit (k := 5) BrkV.cells 46 (fun _ => rfl) w9 [⟨nm, empT, 0, 1, true⟩] (by simp)).rs (fun _ => rfl) (by omega)
      have h2 : RS BrkV.cells 5 (w9.alloc (.cells #[.string nm, .string ⟨#[]⟩, .int .i64 0, .int .i64 1, .bool true] 46)) _ (some ⟨w9.heap.size, 0, none⟩) 1 [⟨nm, empT, 0, 1, true⟩] := h
      have h3 := h2.below ((Below.refl _ _).drew)
      simpa using h3)
    have HB10 := Lib.hid hb10
    clear hb10
    go_region_law ((refine step_app_e elBrkL _ (by rfl) (.tmp 25) (.tmp 29) (by rfl) (pb + 1) (.slice A L.length c) L (by rfl) HO1.out (w9.heap.size + 1) (some ⟨w9.heap.size, 0, none⟩) 1 1 [⟨nm, empT, 0, 1, true⟩] (by rfl) HR1.out (by have := HL.out; omega) (by simp; omega) ?_
                    intro A12 c12 w12 hown hg hv
                    have HG12 := Lib.hid hg
                    have HO12 := Lib.hid hown
                    have HV12 := Lib.hid hv
                    have hP12 := (HS3.out.blk.below HB10.out HS3.out.blk.lt).grown hg (fun e => by have := (HS3.out.own.lt pb e.symm).1; omega)
                    have hf12 : w12.frozen? ⟨pb, 0, none⟩ = false := hP12.frozen 0
                    have hc12 : w12.cell? ⟨pb, 0, none⟩ = some (.slice A L.length c) := hP12.cell 0
                    clear hown hg hv hP12))
    all_goals
      go_wp2_with fail
      go_end0
      have h8 := HS3.out.app HB10.out HO12.out HG12.out HV12.out
      have hD := HD.out
      rw [HF.out] at hD
      rw [hD]
      exact ⟨rfl, _, h8.1, (LStep.of_below HB3.out).trans h8.2⟩
  · obtain ⟨nn, nA, gn, nc, gs⟩ := n
    simp only at hgr hf hge ⊢
    have hgn : gn ≤ 40 := HZ.out.v _ hmem
    have W1 : Below W.heap.size W (w2.alloc (.cells #[.string nn, .slice gA gn gc] 54)) := ((((Below.refl W.heap.size W).alloc (Nat.le_refl _) _).alloc (by simp) _).trans (g2.mono (by simp; omega))).alloc (by have := g2.size; simp at this; omega) _
    have W2 : Blk (w2.alloc (.cells #[.string nn, .slice gA gn gc] 54)) (W.heap.size + 1) 54 #[.string nm, .slice fA fn fc] := (by
      have h := (Blk.new (W.alloc (.cells #[.slice mA mn mc, .slice eA en ec, .slice sA sn sc] 26)) 54 #[.string nm, .slice fA fn fc]).below g2 (by simp)
      simpa using h.alloc (.cells #[.string nn, .slice gA gn gc] 54))
    have W3 := Blk.new w2 54 #[.string nn, .slice gA gn gc]
    have W4 : RS EvV.cells 2 (w2.alloc (.cells #[.string nn, .slice gA gn gc] 54)) w2.heap.size gA gn gs := hgr.below ((Below.refl _ _).alloc (Nat.le_refl _) _)
    have W5 : ∀ ad, gA = some ad → W.heap.size + 2 ≤ ad.block := fun ad e => by have := hge ad e; simp at this; omega
    have l5 : W.heap.size + 1 < w2.heap.size := by have := g2.size; simp at this; omega
    have HF := Lib.hid hf
    clear hgr hf hge hmem g2
    generalize hb6 : w2.heap.size = b6 at *
    generalize w2.alloc (.cells #[.string nn, .slice gA gn gc] 54) = w3 at *
    have HB3 := Lib.hid W1
    have HM3 := Lib.hid W2
    have HN3 := Lib.hid W3
    have HG3 := Lib.hid W4
    have HA3 := Lib.hid W5
    have HL3 := Lib.hid (HS.out.below W1)
    have c50 := W2.cell 0
    have c51 := W2.cell 1
    have lm3 := W2.lt
    have ln3 := W3.lt
    simp only [List.getElem?_toArray, List.getElem?_cons_zero, List.getElem?_cons_succ] at c50 c51
    clear W1 W2 W3 W4 W5 hb6
    go_wp2
    go_loopw [35] (fun i wr => ∃ k : Nat, k ≤ fn ∧ i = .int .i64 (k : Int) ∧ Hid (∃ v', MsJ pb w3 (.slice A L.length c) (L ++ (fs.take k).flatMap (evBrk nm gs)) wr v')) (fun i _ => fn - (intOf i).toNat)
    case atStart => exact ⟨0, Nat.zero_le _, rfl, Lib.hid ⟨_, ⟨by simpa using HL3.out, LStep.refl _ _ _⟩⟩⟩
    case round =>
      obtain ⟨k, hk, rfl, hh⟩ := hrel
      obtain ⟨v1, hJ⟩ := hh.out
      by_cases hlt : k < fn
      · have hb1 : Below pb W wr := (HB3.out.mono (Nat.le_of_lt lp)).trans (hJ.st.under HL3.out)
        obtain ⟨ad, x, rfl, hx, a0, a1⟩ := (HM.out.below hb1).atV hlt
        have far : ∀ i, W.heap.size ≤ i → (Value.slice A L.length c).ownBlock ≠ some i := fun i hi e => by have := (HS.out.own.lt i e).2; omega
        have hm1 := hJ.st.blk HM3.out (by omega) (far _ (by omega))
        have hn1 := hJ.st.blk HN3.out (by omega) (far _ (by omega))
        have hg1 : RS EvV.cells 2 wr b6 gA gn gs := HG3.out.keep hJ.st.size fun ad e _ h => hJ.st.block _ h (by have := HA3.out ad e; omega) (far _ (by have := HA3.out ad e; omega))
        have HX := Lib.hid hx
        have HFT := Lib.hid (flat_take (evBrk nm gs) fs k x hx)
        have i0 : (0 : Int) ≤ (k : Int) := by omega
        have i1 : (k : Int) < (fn : Int) := by omega
        have b60 := hn1.cell 0
        have b61 := hn1.cell 1
        have lm1 := hm1.lt
        have ln1 := hn1.lt
        have lp1 := hJ.ls.blk.lt
        simp only [List.getElem?_toArray, List.getElem?_cons_zero, List.getElem?_cons_succ] at b60 b61
        have HJ := Lib.hid hJ
        have HM1 := Lib.hid hm1
        have HG1 := Lib.hid hg1
        clear hx hJ hh hb1 far hm1 hn1 hg1
        obtain ⟨xn, xv⟩ := x
        simp only at a0 a1
        have hb2 : Below wr.heap.size wr (wr.alloc (.cells #[.string xn, .int .i64 xv] 57)) := (Below.refl _ _).alloc (Nat.le_refl _) _
        have hM2 : MidE pb (W.heap.size + 1) wr.heap.size 54 57 #[.string nm, .slice (some ad) fn fc] #[.string xn, .int .i64 xv] w3 (.slice A L.length c) (L ++ (fs.take k).flatMap (evBrk nm gs)) (wr.alloc (.cells #[.string xn, .int .i64 xv] 57)) v1 :=
          ⟨HJ.out.ls.below hb2, HJ.out.st.trans (LStep.of_below hb2), HM1.out.alloc _, Blk.new _ _ _⟩
        have HM2 := Lib.hid hM2
        have HG2 := Lib.hid (HG1.out.below (hb2.mono (Nat.le_of_lt ln1)))
        clear hM2 hb2 HG1 HM1
        go_wp2
        generalize hb9 : wr.heap.size = b9 at *
        generalize wr.alloc (.cells #[.string xn, .int .i64 xv] 57) = w4 at *
        go_loopw [42, 10] (fun i z wq => ∃ j : Nat, j ≤ gn ∧ i = .int .i64 (j : Int) ∧ z = .bool ((gs.take j).any (fun y => sameV y ⟨xn, xv⟩)) ∧ Hid (Below w4.heap.size w4 wq)) (fun i _ _ => gn - (intOf i).toNat)
        case atStart => exact ⟨0, Nat.zero_le _, rfl, by simp, Lib.hid (Below.refl _ _)⟩
        case round =>
          obtain ⟨j, hj, rfl, rfl, hq⟩ := hrel
          have HM5 := Lib.hid (HM2.out.below hq.out)
          by_cases hjl : j < gn
          · obtain ⟨ag, y, rfl, hy, d0, d1⟩ := (HG2.out.below (hq.out.mono (by have := HM2.out.h9.lt; omega))).atV hjl
            have j0 : (0 : Int) ≤ (j : Int) := by omega
            have j1 : (j : Int) < (gn : Int) := by omega
            have HY := Lib.hid hy
            obtain ⟨yn, yv⟩ := y
            simp only at d0 d1
            have e0 := HM5.out.h9.cell 0
            have e1 := HM5.out.h9.cell 1
            have l9 := HM5.out.h9.lt
            simp only [List.getElem?_toArray, List.getElem?_cons_zero, List.getElem?_cons_succ] at e0 e1
            have HA := Lib.hid (any_succ gs (fun y => sameV y ⟨xn, xv⟩) j _ hy)
            clear hy
            have HW4 := Lib.hid (hq.out.alloc hq.out.size (.cells #[.string yn, .int .i64 yv] 57))
            clear hq
            obtain ⟨bb, hbb⟩ : ∃ bb, (gs.take j).any (fun y => sameV y ⟨xn, xv⟩) = bb := ⟨_, rfl⟩
            rw [hbb] at HA ⊢
            obtain ⟨bt, hbt⟩ : ∃ bt, (yn.toList == xn.toList) = bt := ⟨_, rfl⟩
            obtain ⟨bi, hbi⟩ : ∃ bi, (yv == xv) = bi := ⟨_, rfl⟩
            have HP : Hid ((gs.take (j + 1)).any (fun y => sameV y ⟨xn, xv⟩) = (bb || (bt && bi))) := Lib.hid (by
              rw [HA.out]
              show (bb || (sameT yn xn && yv == xv)) = _
              rw [show sameT yn xn = bt from hbt, hbi])
            clear hbb
            rcases bb with _ | _ <;> rcases bt with _ | _ <;> rcases bi with _ | _
            all_goals go_wp2
            all_goals exact ⟨⟨j + 1, hjl, by go_num, by rw [HP.out]; rfl, Lib.hid HW4.out⟩, by simp [intOf]; omega⟩
          · obtain rfl : j = gn := by omega
            have HGN := Lib.hid HG2.out.1
            have hgt : gs.take j = gs := List.take_of_length_le (by rw [HGN.out]; exact Nat.le_refl _)
            rw [hgt]
            have hl1 : (L ++ (fs.take k).flatMap (evBrk nm gs)).length ≤ 60000 := by
              have := HL.out
              have := flat_le _ (ev_len nm gs) (fs.take k)
              rw [List.length_append]
              rw [List.length_take] at this
              omega
            generalize hL1 : L ++ (fs.take k).flatMap (evBrk nm gs) = L1 at HM5 hl1
            have HL1 := Lib.hid hl1
            have HLE := Lib.hid hL1
            clear hl1 hL1 hgt hq
            obtain ⟨A1, c1, rfl⟩ := HM5.out.ls.form
            have cp5 : wr.cell? ⟨pb, 0, none⟩ = _ := HM5.out.ls.blk.cell 0
            have k0 := HM5.out.h5.cell 0
            have e0 := HM5.out.h9.cell 0
            have e1 := HM5.out.h9.cell 1
            have l9 := HM5.out.h9.lt
            have l55 := HM5.out.h5.lt
            have lp5 := HM5.out.ls.blk.lt
            simp only [List.getElem?_toArray, List.getElem?_cons_zero, List.getElem?_cons_succ] at cp5 k0 e0 e1
            obtain ⟨bb, hbb⟩ : ∃ bb, gs.any (fun y => sameV y ⟨xn, xv⟩) = bb := ⟨_, rfl⟩
            rw [hbb]
            have HBB := Lib.hid hbb
            clear hbb
            rcases bb with _ | _
            · go_wp2
              have hb14 : Below wr.heap.size wr (wr.alloc (.cells #[.string nm, .string xn, .int .i64 xv, .int .i64 6, .bool true] 46)).drew := ((Below.refl _ _).alloc (Nat.le_refl _) _).drew
              have HO14 : Hid (Ew BrkV.cells 46 5 (wr.alloc (.cells #[.string nm, .string xn, .int .i64 xv, .int .i64 6, .bool true] 46)).drew (pb + 1) (.slice A1 L1.length c1) L1) := Lib.hid (HM5.out.ls.own.below hb14)
              have HR14 : Hid (RS BrkV.cells 5 (wr.alloc (.cells #[.string nm, .string xn, .int .i64 xv, .int .i64 6, .bool true] 46)).drew (wr.heap.size + 1) (some ⟨wr.heap.size, 0, none⟩) 1 [⟨nm, xn, xv, 6, true⟩]) := Lib.hid (by
                have h := (Ew.lit (k := 5) BrkV.cells 46 (fun _ => rfl) wr [⟨nm, xn, xv, 6, true⟩] (by simp)).rs (fun _ => rfl) (by omega)
                have h2 : RS BrkV.cells 5 (wr.alloc (.cells #[.string nm, .string xn, .int .i64 xv, .int .i64 6, .bool true] 46)) _ (some ⟨wr.heap.size, 0, none⟩) 1 [⟨nm, xn, xv, 6, true⟩] := h
                have h3 := h2.below ((Below.refl _ _).drew)
                simpa using h3)
              have HB14 := Lib.hid hb14
              clear hb14
              go_region_law ((refine step_app_e elBrkL _ (by rfl) (.tmp 58) (.tmp 66) (by rfl) (pb + 1) (.slice A1 L1.length c1) L1 (by rfl) HO14.out (wr.heap.size + 1) (some ⟨wr.heap.size, 0, none⟩) 1 1 [⟨nm, xn, xv, 6, true⟩] (by rfl) HR14.out (by have := HL1.out; omega) (by simp; omega) ?_
                              intro A15 c15 w15 hown hg hv
                              have HG15 := Lib.hid hg
                              have HO15 := Lib.hid hown
                              have HV15 := Lib.hid hv
                              have hP15 := (HM5.out.ls.blk.below HB14.out HM5.out.ls.blk.lt).grown hg (fun e => by have := (HM5.out.ls.own.lt pb e.symm).1; omega)
                              have hf15 : w15.frozen? ⟨pb, 0, none⟩ = false := hP15.frozen 0
                              have hc15 : w15.cell? ⟨pb, 0, none⟩ = some (.slice A1 L1.length c1) := hP15.cell 0
                              clear hown hg hv hP15))
              all_goals
                have h8 := HM5.out.ls.app HB14.out HO15.out HG15.out HV15.out
                go_wp2_with fail
                refine ⟨⟨k + 1, by omega, by simp, Lib.hid ⟨_, ⟨?_, HM5.out.st.trans h8.2⟩⟩⟩, by simp [intOf]; omega⟩
                have e23 : L ++ (fs.take (k + 1)).flatMap (evBrk nm gs) = L1 ++ [⟨nm, xn, xv, 6, true⟩] := by
                  rw [HFT.out, ← HLE.out, List.append_assoc]
                  congr 2
                  unfold evBrk
                  rw [HBB.out]
                  rfl
                rw [e23]
                exact h8.1
            · go_wp2
              refine ⟨⟨k + 1, by omega, by simp, Lib.hid ⟨_, ⟨?_, HM5.out.st⟩⟩⟩, by simp [intOf]; omega⟩
              have e23 : L ++ (fs.take (k + 1)).flatMap (evBrk nm gs) = L1 := by
                rw [HFT.out, ← HLE.out]
                unfold evBrk
                rw [HBB.out]
                simp
              rw [e23]
              exact HM5.out.ls
      · obtain rfl : k = fn := by omega
        have HJ := Lib.hid hJ
        clear hJ hh
        go_wp2
        go_end0
        have hD := HD.out
        rw [HF.out] at hD
        rw [hD]
        have h1 := HJ.out.ls
        rw [List.take_of_length_le (by rw [HM.out.1]; exact Nat.le_refl _)] at h1
        exact ⟨rfl, v1, h1, (LStep.of_below HB3.out).trans HJ.out.st⟩
end Go.Proofs.Ytcjcpkjdhagofaa
