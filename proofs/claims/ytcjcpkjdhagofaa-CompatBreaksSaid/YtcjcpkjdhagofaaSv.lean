/-
  Contract: compat's service.
-/
import Derived.Test.YtcjcpkjdhagofaaEn
namespace Go.Proofs.Ytcjcpkjdhagofaa
open Go.RowKit Go.Own Go.Own.Cm Go.Shelf
attribute [local go_sem] Oper.semAt_some
theorem mth_len (s : SchV) (nm : ByteArray) (t : MthV) : (mthBrk s nm t).length ≤ 2 := by
  unfold mthBrk
  split <;> simp [bothL]
set_option maxHeartbeats 4000000 in
set_option maxRecDepth 100000 in
theorem service_any (pb : Nat) (s : SchV) (m : SrvV) (W : World) (v : Value) (L : List BrkV) (hs : LSc pb W v L) (hr : SchR W pb s) (hz : SchZ s) (hm : RS MthV.cells 4 W pb m.tA m.tn m.ts) (hmn : m.tn ≤ 40) (hL : L.length ≤ 50000) :
    Calls Try.prog 24 #[.pointer (some ⟨pb, 0, none⟩), .agg s.cells, .agg m.cells] W (BothPost pb W v (L ++ srvBrk s m)) := by
  obtain ⟨A, c, rfl⟩ := hs.form
  have HFM := Lib.hid fun W' (mt : ByteArray) (hb : Below pb W W') => findMethod_any s m.nm mt pb W' (hr.below hb) hz (Nat.le_trans (Nat.le_of_lt hs.blk.lt) hb.size)
  have HS := Lib.hid hs
  have HM := Lib.hid hm
  have HL := Lib.hid hL
  have HU := Lib.hid hr.u
  have hsn : s.sn ≤ 20 := hz.u
  have lp := hs.blk.lt
  have HD : Hid (srvBrk s m = if s.ss.any (fun y => sameT y.nm m.nm) then m.ts.flatMap (mthBrk s m.nm) else bothL ⟨m.nm, empT, 0, 1, false⟩) := Lib.hid rfl
  have HQ : Hid (∀ t, mthBrk s m.nm t = if ((mthAt s m.nm t.nm).map fun d => sameM d t).getD false then [] else bothL ⟨m.nm, t.nm, 0, 7, false⟩) := Lib.hid fun _ => rfl
  have HQL := Lib.hid (mth_len s m.nm)
  generalize hmb : srvBrk s m = mb at *
  generalize hqb : mthBrk s m.nm = qb at *
  clear hmb hqb hs hm hL hz hr
  obtain ⟨mA, mn, mc, ms, eA, en, ec, es, sA, sn, sc, ss⟩ := s
  obtain ⟨nm, fA, fn, fc, fs⟩ := m
  simp only [SchV.cells, SrvV.cells] at HFM HM HD HU HQ hsn hmn ⊢
  go_enter Try.func24, Try.ntmps24
  go_wp2
  have W1 : Below W.heap.size W ((W.alloc (.cells #[.slice mA mn mc, .slice eA en ec, .slice sA sn sc] 26)).alloc (.cells #[.string nm, .slice fA fn fc] 49)) := ((Below.refl W.heap.size W).alloc (Nat.le_refl _) _).alloc (by simp) _
  have W2 : Blk ((W.alloc (.cells #[.slice mA mn mc, .slice eA en ec, .slice sA sn sc] 26)).alloc (.cells #[.string nm, .slice fA fn fc] 49)) (W.heap.size + 1) 49 #[.string nm, .slice fA fn fc] := (by
      simpa using (Blk.new (W.alloc (.cells #[.slice mA mn mc, .slice eA en ec, .slice sA sn sc] 26)) 49 #[.string nm, .slice fA fn fc]))
  have W3 : Blk ((W.alloc (.cells #[.slice mA mn mc, .slice eA en ec, .slice sA sn sc] 26)).alloc (.cells #[.string nm, .slice fA fn fc] 49)) W.heap.size 26 #[.slice mA mn mc, .slice eA en ec, .slice sA sn sc] := (Blk.new W 26 #[.slice mA mn mc, .slice eA en ec, .slice sA sn sc]).alloc _
  generalize ((W.alloc (.cells #[.slice mA mn mc, .slice eA en ec, .slice sA sn sc] 26)).alloc (.cells #[.string nm, .slice fA fn fc] 49)) = w3 at *
  have HB3 := Lib.hid W1
  have HM3 := Lib.hid W2
  have HN3 := Lib.hid W3
  have HL3 := Lib.hid (HS.out.below W1)
  have l5 := W2.lt
  clear W1 W2 W3
  go_loopw [16, 6] (fun i z wr => ∃ k : Nat, k ≤ sn ∧ i = .int .i64 (k : Int) ∧ z = .bool ((ss.take k).any (fun y => sameT y.nm nm)) ∧ Hid (Below w3.heap.size w3 wr)) (fun i _ _ => sn - (intOf i).toNat)
  case atStart => exact ⟨0, Nat.zero_le _, rfl, by simp, Lib.hid (Below.refl _ _)⟩
  case round =>
    obtain ⟨k, hk, rfl, rfl, hq⟩ := hrel
    have HBw := Lib.hid (HB3.out.trans (hq.out.mono (by omega)))
    by_cases hlt : k < sn
    · obtain ⟨ad, x, e, hx, a0, a1⟩ := (HU.out.below (HBw.out.mono (Nat.le_of_lt lp))).atS hlt
      have e : sA = some ad := e
      subst e
      have HA := Lib.hid (any_succ ss (fun y => sameT y.nm nm) k _ (show ss[k]? = some x from hx))
      have i0 : (0 : Int) ≤ (k : Int) := by omega
      have i1 : (k : Int) < (sn : Int) := by omega
      obtain ⟨xn, xA, xk, xc, xs⟩ := x
      simp only at a0 a1
      have b5 := HM3.out.below hq.out HM3.out.lt
      have c5 := b5.cell 0
      have l6 := b5.lt
      simp only [List.getElem?_toArray, List.getElem?_cons_zero, List.getElem?_cons_succ] at c5
      have HW4 := Lib.hid (hq.out.alloc hq.out.size (.cells #[.string xn, .slice xA xk xc] 49))
      clear hx hq b5
      obtain ⟨bb, hbb⟩ : ∃ bb, (ss.take k).any (fun y => sameT y.nm nm) = bb := ⟨_, rfl⟩
      rw [hbb] at HA ⊢
      obtain ⟨bt, hbt⟩ : ∃ bt, (xn.toList == nm.toList) = bt := ⟨_, rfl⟩
      have HP : Hid ((ss.take (k + 1)).any (fun y => sameT y.nm nm) = (bb || bt)) := Lib.hid (by
        rw [HA.out]
        show (bb || sameT xn nm) = _
        rw [show sameT xn nm = bt from hbt])
      clear hbb
      rcases bb with _ | _ <;> rcases bt with _ | _
      all_goals go_wp2
      all_goals exact ⟨⟨k + 1, hlt, by go_num, by rw [HP.out]; rfl, Lib.hid HW4.out⟩, by simp [intOf]; omega⟩
    · obtain rfl : k = sn := by omega
      have HSN := Lib.hid HU.out.1
      have hgt : ss.take k = ss := List.take_of_length_le (by rw [HSN.out]; exact Nat.le_refl _)
      rw [hgt]
      have HM5 := Lib.hid (HM3.out.below hq.out HM3.out.lt)
      have HN5 := Lib.hid (HN3.out.below hq.out HN3.out.lt)
      have HS5 := Lib.hid (HS.out.below HBw.out)
      have c50 := HM5.out.cell 0
      have c51 := HM5.out.cell 1
      have l6 := HM5.out.lt
      have lpr := HS5.out.blk.lt
      simp only [List.getElem?_toArray, List.getElem?_cons_zero, List.getElem?_cons_succ] at c50 c51
      obtain ⟨bb, hbb⟩ : ∃ bb, ss.any (fun y => sameT y.nm nm) = bb := ⟨_, rfl⟩
      rw [hbb] at HD ⊢
      clear hbb hgt hq
      generalize wr = w4 at *
      rcases bb with _ | _
      · have HBt := Lib.hid (both_any pb w4 (.slice A L.length c) L ⟨nm, empT, 0, 1, false⟩ HS5.out (by have := HL.out; omega))
        simp only [BrkV.cells, empT] at HBt
        go_wp2_with (with_reducible refine HBt.out.mono ?_
                     rintro e w5 ⟨rfl, v5, hl5, hs5⟩
                     have HL5 := Lib.hid hl5
                     have HS6 := Lib.hid hs5
                     clear hl5 hs5)
        go_end0
        rw [HD.out]
        exact ⟨rfl, v5, HL5.out, (LStep.of_below HBw.out).trans HS6.out⟩
      · go_wp2
        go_loopw [39] (fun i wr => ∃ k : Nat, k ≤ fn ∧ i = .int .i64 (k : Int) ∧ Hid (∃ v', MsJ pb w4 (.slice A L.length c) (L ++ (fs.take k).flatMap qb) wr v')) (fun i _ => fn - (intOf i).toNat)
        case atStart => exact ⟨0, Nat.zero_le _, rfl, Lib.hid ⟨_, ⟨by simpa using HS5.out, LStep.refl _ _ _⟩⟩⟩
        case round =>
          obtain ⟨k, hk, rfl, hh⟩ := hrel
          obtain ⟨v1, hJ⟩ := hh.out
          by_cases hlt : k < fn
          · have hb1 : Below pb W wr := (HBw.out.mono (Nat.le_of_lt lp)).trans (hJ.st.under HS5.out)
            obtain ⟨ad, x, rfl, hx, a0, a1, a2, a3⟩ := (HM.out.below hb1).atT hlt
            have far : ∀ i, W.heap.size ≤ i → (Value.slice A L.length c).ownBlock ≠ some i := fun i hi e => by have := (HS.out.own.lt i e).2; omega
            have hm1 := hJ.st.blk HM5.out (by omega) (far _ (by omega))
            have hn1 := hJ.st.blk HN5.out (by omega) (far _ (by omega))
            have HX := Lib.hid hx
            have HFT := Lib.hid (flat_take qb fs k x hx)
            have HQx := Lib.hid (HQ.out x)
            have i0 : (0 : Int) ≤ (k : Int) := by omega
            have i1 : (k : Int) < (fn : Int) := by omega
            have d50 := hm1.cell 0
            have d40 := hn1.cell 0
            have d41 := hn1.cell 1
            have d42 := hn1.cell 2
            have lm1 := hm1.lt
            have ln1 := hn1.lt
            have lp1 := hJ.ls.blk.lt
            simp only [List.getElem?_toArray, List.getElem?_cons_zero, List.getElem?_cons_succ] at d50 d40 d41 d42
            have hl1 : (L ++ (fs.take k).flatMap qb).length ≤ 60000 := by
              have := HL.out
              have := flat_le _ HQL.out (fs.take k)
              rw [List.length_append]
              rw [List.length_take] at this
              omega
            generalize hL1 : L ++ (fs.take k).flatMap qb = L1 at hJ hl1
            have HL1 := Lib.hid hl1
            have HLE := Lib.hid hL1
            obtain ⟨xn, xi, xo, xk⟩ := x
            simp only at a0 a1 a2 a3 HQx
            have HJ := Lib.hid hJ
            have hb2 : Below wr.heap.size wr (wr.alloc (.cells #[.string xn, .string xi, .string xo, .int .i64 xk] 51)) := (Below.refl _ _).alloc (Nat.le_refl _) _
            have HM1 := Lib.hid (hm1.alloc (.cells #[.string xn, .string xi, .string xo, .int .i64 xk] 51))
            have HX1 := Lib.hid (Blk.new wr 51 #[.string xn, .string xi, .string xo, .int .i64 xk])
            have HFO := Lib.hid (HFM.out (wr.alloc (.cells #[.string xn, .string xi, .string xo, .int .i64 xk] 51)) xn (hb1.trans (hb2.mono (Nat.le_of_lt lp1))))
            have HB2 := Lib.hid hb2
            clear hx hJ hh hb1 far hm1 hn1 hb2 hl1 hL1
            go_wp2_with (with_reducible refine HFO.out.mono ?_
                         rintro e w5 ⟨g5, hc5⟩
                         have hb5 := HX1.out.below g5 HX1.out.lt
                         have hm5 := HM1.out.below g5 HM1.out.lt
                         have HB5 := Lib.hid (HB2.out.trans (g5.mono HB2.out.size))
                         have lb5 := hb5.lt
                         have q0 := hb5.cell 0
                         have q1 := hb5.cell 1
                         have q2 := hb5.cell 2
                         have q3 := hb5.cell 3
                         have r0 := hm5.cell 0
                         have lr5 := hm5.lt
                         clear g5 hb5 hm5
                         simp only [List.getElem?_toArray, List.getElem?_cons_zero, List.getElem?_cons_succ] at q0 q1 q2 q3 r0
                         rcases hc5 with ⟨hf5, rfl⟩ | ⟨⟨g1, g2, g3, g4⟩, hf5, rfl⟩
                         focus
                           have HP : Hid (qb ⟨xn, xi, xo, xk⟩ = bothL ⟨nm, xn, 0, 7, false⟩) := Lib.hid (by rw [HQx.out, hf5]; rfl)
                           clear hf5
                           simp only [zeroT, MthV.cells]
                         rotate_left
                         focus
                           obtain ⟨b1, hb1⟩ : ∃ b1, (g1.toList == xn.toList) = b1 := ⟨_, rfl⟩
                           obtain ⟨b2, hb2⟩ : ∃ b2, (g2.toList == xi.toList) = b2 := ⟨_, rfl⟩
                           obtain ⟨b3, hb3⟩ : ∃ b3, (g3.toList == xo.toList) = b3 := ⟨_, rfl⟩
                           obtain ⟨b4, hb4⟩ : ∃ b4, (g4 == xk) = b4 := ⟨_, rfl⟩
                           have HP : Hid (qb ⟨xn, xi, xo, xk⟩ = if (b1 && b2 && b3 && b4) then [] else bothL ⟨nm, xn, 0, 7, false⟩) := Lib.hid (by
                             rw [HQx.out, hf5]
                             show (if (sameT g1 xn && sameT g2 xi && sameT g3 xo && g4 == xk) then _ else _) = _
                             rw [show sameT g1 xn = b1 from hb1, show sameT g2 xi = b2 from hb2, show sameT g3 xo = b3 from hb3, hb4])
                           clear hf5
                           simp only [MthV.cells]
                           rcases b1 with _ | _ <;> rcases b2 with _ | _ <;> rcases b3 with _ | _ <;> rcases b4 with _ | _)
            all_goals first
              | (refine (both_any pb _ v1 L1 ⟨nm, xn, 0, 7, false⟩ (HJ.out.ls.below (HB5.out.alloc HB5.out.size _)) (by have := HL1.out; omega)).mono ?_
                 rintro e w7 ⟨rfl, v7, hl7, hs7⟩
                 have HJ7 := Lib.hid (show MsJ pb w4 (.slice A L.length c) (L ++ (fs.take (k + 1)).flatMap qb) w7 v7 from ⟨by
                   rw [HFT.out, ← List.append_assoc, HLE.out, HP.out]
                   exact hl7, HJ.out.st.trans ((LStep.of_below (HB5.out.alloc HB5.out.size _)).trans hs7)⟩)
                 clear hl7 hs7
                 go_wp2
                 exact ⟨⟨k + 1, by omega, by simp, Lib.hid ⟨v7, HJ7.out⟩⟩, by simp [intOf]; omega⟩)
              | exact ⟨⟨k + 1, by omega, by simp, Lib.hid ⟨v1, ⟨by
                  rw [HFT.out, ← List.append_assoc, HLE.out, HP.out]
                  show LSc pb _ v1 (L1 ++ [])
                  rw [List.append_nil]
                  exact HJ.out.ls.below (HB5.out.alloc HB5.out.size _), HJ.out.st.trans (LStep.of_below (HB5.out.alloc HB5.out.size _))⟩⟩⟩, by simp [intOf]; omega⟩
          · obtain rfl : k = fn := by omega
            have HJ := Lib.hid hJ
            clear hJ hh
            go_wp2
            go_end0
            rw [HD.out]
            have h1 := HJ.out.ls
            rw [List.take_of_length_le (by rw [HM.out.1]; exact Nat.le_refl _)] at h1
            exact ⟨rfl, v1, h1, (LStep.of_below HBw.out).trans HJ.out.st⟩
end Go.Proofs.Ytcjcpkjdhagofaa
